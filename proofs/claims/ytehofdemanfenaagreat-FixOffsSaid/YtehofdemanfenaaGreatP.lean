/- The plain functions of the program and of the document answer alike. -/
import Derived.Test.YtehofdemanfenaaGreatD
import Derived.Test.YtehofdemanfenaaGreatY
set_option linter.unusedSectionVars false
set_option linter.unusedVariables false
set_option linter.unusedSimpArgs false
namespace Nore.Geo

def vxL:List Int:=[0,195,383,556,707,831,924,981,1000,981,924,831,707,556,383,195,0,-195,-383,-556,-707,-831,-924,-981,-1000,-981,-924,-831,-707,-556,-383,-195]
def vyL:List Int:=[1000,981,924,831,707,556,383,195,0,-195,-383,-556,-707,-831,-924,-981,-1000,-981,-924,-831,-707,-556,-383,-195,0,195,383,556,707,831,924,981]
def vx (p:Nat):Int:=vxL.getD p 0
def vy (p:Nat):Int:=vyL.getD p 0
def crs (p:Nat) (X Y:Int):Int:=vx p*Y-vy p*X
def cc (p q:Nat):Int:=vx p*vy q-vy p*vx q

theorem plucker (t u p:Nat) (X Y:Int):cc u t*crs p X Y=cc p t*crs u X Y+(- crs t X Y)*cc p u:=by
 unfold cc crs
 generalize vx t=a,vy t=b,vx u=c,vy u=d,vx p=e,vy p=f
 grind

def Tow (t:Nat) (X Y:Int):Prop:=crs t X Y≤0∧crs ((t+1) % 32) X Y>0

theorem tab0:∀ t,t<32→cc ((t+1) % 32) t>0:=by decide
theorem tab1:∀ t,t<32→∀ j,j<15→cc ((t+(j+1)) % 32) t>0∧cc ((t+(j+1)) % 32) ((t+1) % 32)≥0:=by decide
theorem tab2:∀ t,t<32→∀ j,j<16→cc ((t+(j+17)) % 32) t≤0∧cc ((t+(j+17)) % 32) ((t+1) % 32)≤0:=by decide

theorem tow_pos {t:Nat} {X Y:Int} (ht:t<32) (h:Tow t X Y) (j:Nat) (h1:1≤j) (h2:j≤15):crs ((t+j) % 32) X Y>0:=by
 obtain ⟨ha,hb⟩:=h
 have k0:=tab0 t ht
 have k1:=tab1 t ht (j-1) (by omega)
 rw [show j-1+1=j by omega] at k1
 have e:=plucker t ((t+1) % 32) ((t+j) % 32) X Y
 generalize crs ((t+j) % 32) X Y=z at *
 generalize crs ((t+1) % 32) X Y=y at *
 generalize crs t X Y=x at *
 obtain ⟨k1,k2⟩:=k1
 generalize cc ((t+1) % 32) t=K at *
 generalize cc ((t+j) % 32) t=A at *
 generalize cc ((t+j) % 32) ((t+1) % 32)=B at *
 have p1:A*y>0:=Int.mul_pos k1 hb
 have p2:(-x)*B≥0:=Int.mul_nonneg (by omega) k2
 have p3:K*z>0:=by omega
 exact Int.pos_of_mul_pos_right p3 k0 |> fun h=>h

theorem tow_neg {t:Nat} {X Y:Int} (ht:t<32) (h:Tow t X Y) (j:Nat) (h1:17≤j) (h2:j≤32):crs ((t+j) % 32) X Y≤0:=by
 obtain ⟨ha,hb⟩:=h
 have k0:=tab0 t ht
 have k1:=tab2 t ht (j-17) (by omega)
 rw [show j-17+17=j by omega] at k1
 have e:=plucker t ((t+1) % 32) ((t+j) % 32) X Y
 generalize crs ((t+j) % 32) X Y=z at *
 generalize crs ((t+1) % 32) X Y=y at *
 generalize crs t X Y=x at *
 obtain ⟨k1,k2⟩:=k1
 generalize cc ((t+1) % 32) t=K at *
 generalize cc ((t+j) % 32) t=A at *
 generalize cc ((t+j) % 32) ((t+1) % 32)=B at *
 have p1:A*y≤0:=Int.mul_nonpos_of_nonpos_of_nonneg k1 (by omega)
 have p2:(-x)*B≤0:=Int.mul_nonpos_of_nonneg_of_nonpos (by omega) k2
 have p3:K*z≤0:=by omega
 apply Int.not_lt.1
 intro hz
 have:=Int.mul_pos k0 hz
 omega

theorem tow_sign {t:Nat} {X Y:Int} (ht:t<32) (h:Tow t X Y) (p:Nat) (hp:p<32) (hne:p≠(t+16) % 32):(crs p X Y>0)↔(1≤(p+32-t) % 32∧(p+32-t) % 32≤15):=by
 have hj:(t+(p+32-t) % 32) % 32=p:=by omega
 constructor
 ·intro hs
  by_cases h1:1≤(p+32-t) % 32∧(p+32-t) % 32≤15
  ·exact h1
  ·exfalso
   by_cases h0:(p+32-t) % 32=0
   ·have:p=t:=by omega
    subst this
    have:=h.1
    omega
   ·have:=tow_neg ht h ((p+32-t) % 32) (by omega) (by omega)
    rw [hj] at this
    omega
 ·intro h1
  have:=tow_pos ht h _ h1.1 h1.2
  rw [hj] at this
  exact this

theorem tow_unique {t u:Nat} {X Y:Int} (ht:t<32) (hu:u<32) (h:Tow t X Y) (h':Tow u X Y):u=t:=by
 have a:=tow_sign ht h u hu
 have b:=tow_sign ht h ((u+1) % 32) (by omega)
 have a':=h'.1
 have b':=h'.2
 by_cases e:u=(t+16) % 32
 ·have e2:(u+1) % 32≠(t+16) % 32:=by omega
  have:=(b e2).1 b'
  omega
 ·by_cases e2:(u+1) % 32=(t+16) % 32
  ·have e3:(u+32-t) % 32=15:=by omega
   have:=(a e).2 (by omega)
   omega
  ·have:=(b e2).1 b'
   have e3:¬ (1≤(u+32-t) % 32∧(u+32-t) % 32≤15):=fun hh=>by have:=(a e).2 hh;omega
   omega

theorem opp:∀ p,p<16→vx (p+16) = - vx p∧vy (p+16) = - vy p:=by decide

theorem tow_exists {X Y:Int} (h:X≠0∨Y≠0):∃ t,t<32∧Tow t X Y:=by
 by_cases hx:∃ t,t<32∧Tow t X Y
 ·exact hx
 ·exfalso
  have hn:∀ t,t<32→crs t X Y≤0→crs ((t+1) % 32) X Y≤0:=fun t ht h1=>by
   apply Int.not_lt.1
   intro h2
   exact hx ⟨t,ht,h1,h2⟩
  have all:∀ t,t<32→crs t X Y≤0→∀ j,crs ((t+j) % 32) X Y≤0:=fun t ht h1 j=>by
   induction j with
   | zero=>rw [show (t+0) % 32=t by omega];exact h1
   | succ j ih =>
    have:=hn ((t+j) % 32) (by omega) ih
    rw [show ((t+j) % 32+1) % 32=(t+(j+1)) % 32 by omega] at this
    exact this
  have o:=opp
  have c0:crs 0 X Y = - (1000*X):=by unfold crs;simp only [show vx 0=0 from rfl,show vy 0=1000 from rfl];omega
  have c8:crs 8 X Y=1000*Y:=by unfold crs;simp only [show vx 8=1000 from rfl,show vy 8=0 from rfl];omega
  have c16:crs 16 X Y=1000*X:=by unfold crs;simp only [show vx 16=0 from rfl,show vy 16 = -1000 from rfl];omega
  have c24:crs 24 X Y = - (1000*Y):=by unfold crs;simp only [show vx 24 = -1000 from rfl,show vy 24=0 from rfl];omega
  have z:∃ t,t<32∧crs t X Y≤0:=by
   by_cases h0:crs 0 X Y≤0
   ·exact ⟨0,by omega,h0⟩
   ·exact ⟨16,by omega,by omega⟩
  obtain ⟨t,ht,h1⟩:=z
  have r:∀ p,p<32→crs p X Y≤0:=fun p hp=>by
   have:=all t ht h1 (p+32-t)
   rw [show (t+(p+32-t)) % 32=p by omega] at this
   exact this
  have r0:=r 0 (by omega)
  have r8:=r 8 (by omega)
  have r16:=r 16 (by omega)
  have r24:=r 24 (by omega)
  omega

def isTow (X Y:Int) (t:Nat):Bool:=decide (crs t X Y≤0)&&decide (crs ((t+1) % 32) X Y>0)
def tow (X Y:Int):Nat:=((List.range 32).find? (isTow X Y)).getD 0

theorem isTow_iff {X Y:Int} {t:Nat}:isTow X Y t=true↔Tow t X Y:=by simp [isTow,Tow]

theorem tow_spec {X Y:Int} (h:X≠0∨Y≠0):tow X Y<32∧Tow (tow X Y) X Y:=by
 obtain ⟨t,ht,hT⟩:=tow_exists h
 unfold tow
 cases hf:(List.range 32).find? (isTow X Y) with
 | none =>
  rw [List.find?_eq_none] at hf
  exact absurd (isTow_iff.2 hT) (hf t (by simp [ht]))
 | some u =>
  have h1:=List.find?_some hf
  have h2:=List.mem_of_find?_eq_some hf
  simp only [Option.getD_some]
  exact ⟨by simpa using h2,isTow_iff.1 h1⟩

theorem tow_eq {X Y:Int} {t:Nat} (ht:t<32) (hT:Tow t X Y):tow X Y=t:=by
 have h:X≠0∨Y≠0:=by
  apply Classical.byContradiction
  intro hc
  have:X=0∧Y=0:=by omega
  obtain ⟨rfl,rfl⟩:=this
  have:=hT.2
  simp [crs] at this
 have:=tow_spec h
 exact tow_unique ht this.1 hT this.2

end Nore.Geo
open Go Go.Ab
namespace Nore

theorem w64 {x:Int} (h1 : -9223372036854775808≤x) (h2:x≤9223372036854775807):IntKind.wrap .i64 x=x:=by
 simp only [IntKind.wrap,IntKind.signed,IntKind.bits]
 simp
 omega

theorem X3B {σ ω γ:Type} (st:σ→Option (σ⊕ω)) (k:ω→Option γ) (s:σ):Option.bind (Z8S st s) k=Option.bind (st s) (Sum.elim (fun s'=>Option.bind (Z8S st s') k) k):=by
 rw [ZgX]
 cases st s with
 | none=>rfl
 | some r=>cases r<;>rfl

theorem X6 {β σ ω γ:Type} (st:σ→Option (σ⊕ω)) (k:ω→Option γ) (n:Nat) (emb:Nat→β→σ) (P:Nat→β→Prop) (nice:Nat→β→Option γ)
  (hd:∀ b,P n b→∀ R:σ→Option γ,Option.bind (st (emb n b)) (Sum.elim R k)=nice n b)
  (hn:∀ i b,i<n→P i b→∀ R:σ→Option γ,(∀ b',P (i+1) b'→R (emb (i+1) b')=nice (i+1) b')→Option.bind (st (emb i b)) (Sum.elim R k)=nice i b) :
  ∀ i b,i≤n→P i b→Option.bind (Z8S st (emb i b)) k=nice i b:=by
 intro i b hi hP
 induction hj:n-i generalizing i b with
 | zero =>
  have:i=n:=by omega
  subst this
  rw [X3B];exact hd b hP _
 | succ j ih =>
  rw [X3B]
  exact hn i b (by omega) hP _ fun b' hb'=>ih (i+1) b' (by omega) hb' (by omega)

theorem X22 {γ:Type} (o:Option γ):Option.bind o (fun x=>some x)=o:=by cases o<;>rfl

theorem X6b {β σ ω:Type} (st:σ→Option (σ⊕ω)) (n:Nat) (emb:Nat→β→σ) (P:Nat→β→Prop) (nice:Nat→β→Option ω)
  (hd:∀ b,P n b→∀ R:σ→Option ω,Option.bind (st (emb n b)) (Sum.elim R some)=nice n b)
  (hn:∀ i b,i<n→P i b→∀ R:σ→Option ω,(∀ b',P (i+1) b'→R (emb (i+1) b')=nice (i+1) b')→Option.bind (st (emb i b)) (Sum.elim R some)=nice i b)
  (i:Nat) (b:β) (hi:i≤n) (hP:P i b):Z8S st (emb i b)=nice i b:=by
 rw [←X22 (Z8S st (emb i b))]
 exact X6 st some n emb P nice hd hn i b hi hP

theorem X5C {a b:Int} (h:¬ a=b):(a==b)=false:=beq_eq_false_iff_ne.2 h
theorem WY {a b:Int} (h:¬ a=b):(a != b)=true:=bne_iff_ne.2 h

theorem X0 {α:Type} (l:List α) (i:Nat) (d:α) (h:i<l.length):l.getD i d=l[i]:=by simp [List.getD,h]

def X3 (lo hi:Int) (l:List Int):Bool:=l.any fun n=>decide (n<lo)||decide (n>hi)
@[simp] theorem X61 (lo hi:Int):X3 lo hi []=false:=rfl
@[simp] theorem X3S (lo hi n:Int) (l:List Int):X3 lo hi (n::l)=(decide (n<lo)||decide (n>hi)||X3 lo hi l):=rfl
def inN (n lo hi:Int):Bool:=decide (lo≤n)&&decide (n≤hi)

theorem WD (lo up:Int) (l:List Int) (hl:l.length<1000000):X19 lo up l=some (X3 lo up l):=by
 have key:=X6 (X1a (↑l.length) l up lo) (fun o3=>Sum.elim (fun y4:Int=>some (decide (y4≥0))) (fun _=>some (decide ((-1:Int)≥0))) o3) l.length (fun i (_:Unit)=>(i:Int)) (fun _ _=>True) (fun i _=>some (X3 lo up (l.drop i)))
  (by
   intro b _ R
   simp [X1a,X1f])
  (by
   intro i b hi _ R hR
   have hR':=hR () trivial
   simp only [X1a,X1f]
   rw [List.drop_eq_getElem_cons hi]
   simp only [Int.toNat_natCast,X0 _ _ _ hi,X3S]
   have hw:IntKind.wrap .i64 ((i:Int)+1)=((i+1:Nat):Int):=by rw [w64]<;>omega
   rw [hw]
   have h1:decide ((i:Int)<↑l.length)=true:=by simp [hi]
   have h2:decide ((0:Int)≤↑i)=true:=by simp
   simp only [h1,h2,Bool.and_self,cond_true]
   by_cases h3:l[i]<lo
   ·simp [h3]
   ·by_cases h4:l[i]>up
    ·simp [h3,h4]
    ·simp [h3,h4];exact hR')
 exact (key 0 () (by omega) trivial).trans (by simp)

theorem X1l (n lo hi:Int):X1D n lo hi=some (inN n lo hi):=by
 unfold X1D inN
 by_cases h:lo≤n<;>simp [h]
end Nore
open Go Go.Ab
namespace Nore

def X5n:Int→List UInt8→Option Int
 | last,[]=>some last
 | last,c::l=>if 97≤(c.toNat:Int)∧(c.toNat:Int)≤122 then X5n c.toNat l else if (c.toNat:Int)≠45∨last=45 then none else X5n c.toNat l
def X4k:Option Int→Bool
 | none=>false
 | some last=>last != 45
def X5o (s:ByteArray):Bool:=decide (s.size≤14)&&X4k (X5n 45 s.toList)

theorem X7G (s:ByteArray) (i:Nat) (h:(s.get! i).toNat<128):Utf8.decode s i=((s.get! i).toNat,1):=by
 unfold Utf8.decode;simp only [Nat.add_zero];rw [if_pos h]
theorem X7F (s:ByteArray) (i:Nat) (h:¬ (s.get! i).toNat<128):128≤(Utf8.decode s i).1:=by
 unfold Utf8.decode
 simp only [Nat.add_zero,Utf8.runeError]
 rw [if_neg h]
 repeat' split
 all_goals simp_all
 all_goals omega

theorem X1G (s:ByteArray):s.toList.length=s.size:=by rw [ByteArray.toList_eq];rfl
theorem X7o (s:ByteArray) (i:Nat) (h:i<s.toList.length):s.get! i=s.toList[i]:=by
 have hs:i<s.size:=by rw [←X1G];exact h
 simp only [ByteArray.toList_eq]
 show s.data[i]! = _
 have h2:i<s.data.size:=hs
 rw [getElem!_pos s.data i h2]
 rfl

theorem X4r (s:ByteArray):X2D s=some (X5o s):=by
 have key:=X6 (WI s s) (fun o0=>Sum.elim (fun y1:Bool×Nat=>some y1.fst) (fun y2:Int×Nat=>bif decide ((↑(ByteArray.size s):Int)≤14) then some (y2.fst != 45) else some false) o0) s.toList.length (fun i (b:Int)=>(b,i)) (fun _ _=>True) (fun i b=>some (decide (s.size≤14)&&X4k (X5n b (s.toList.drop i))))
  (by
   intro b _ R
   have hh:(decide ((↑s.size:Int)≤14))=decide (s.size≤14):=by rw [decide_eq_decide];omega
   have hd:s.toList.drop s.size=[]:=List.drop_eq_nil_of_le (by rw [X1G];exact Nat.le_refl _)
   simp only [hd,X5n,X4k,WI,WL,X1G,hh,Nat.lt_irrefl,decide_false,cond_false,Option.bind_some,Sum.elim_inr]
   cases decide (s.size≤14)<;>simp)
  (by
   intro i b hi _ R hR
   have hs:i<s.size:=by rw [←X1G];exact hi
   have hg:=X7o s i hi
   simp only [WI,WL]
   rw [List.drop_eq_getElem_cons hi]
   simp only [X5n]
   by_cases h:(s.get! i).toNat<128
   ·rw [X7G s i h]
    have hR':=hR ((s.get! i).toNat:Int) trivial
    rw [hg] at *
    generalize s.toList[i]=c at *
    simp only [hs,decide_true,cond_true]
    by_cases h1:97≤(c.toNat:Int)
    ·have q1:decide ((c.toNat:Int)≥97)=true:=decide_eq_true h1
     by_cases h2:(c.toNat:Int)≤122
     ·have q2:decide ((c.toNat:Int)≤122)=true:=decide_eq_true h2
      simp only [decide_true,decide_false,q1,q2,cond_true,Option.bind_some,Sum.elim_inl,h1,h2,and_self,if_true]
      exact hR'
     ·have q2:decide ((c.toNat:Int)≤122)=false:=decide_eq_false h2
      have h3:¬ ((c.toNat:Int)=45):=by omega
      have q3:((c.toNat:Int) != 45)=true:=bne_iff_ne.2 h3
      simp only [decide_true,decide_false,q1,q2,q3,cond_true,cond_false,Option.bind_some,Sum.elim_inl,Sum.elim_inr,h2,and_false,if_false,ne_eq,h3,not_false_iff,true_or,if_true,X4k,Bool.and_false]
    ·have q1:decide ((c.toNat:Int)≥97)=false:=decide_eq_false h1
     by_cases h3:(c.toNat:Int)=45
     ·have q3:((c.toNat:Int) != 45)=false:=by rw [h3];rfl
      by_cases h4:b=45
      ·have q4:(b==45)=true:=by rw [h4];rfl
       rw [q1,q3,q4,if_neg (fun hc=>h1 hc.1),if_pos (Or.inr h4)]
       simp [X4k]
      ·have q4:(b==45)=false:=beq_eq_false_iff_ne.2 h4
       simp only [decide_true,decide_false,q1,q3,q4,cond_true,cond_false,Option.bind_some,Sum.elim_inl,Sum.elim_inr,h1,false_and,if_false,h4,ne_eq,h3,not_true,or_self,if_true]
       rw [h3] at hR'
       exact hR'
     ·have q3:((c.toNat:Int) != 45)=true:=bne_iff_ne.2 h3
      simp only [decide_true,decide_false,q1,q3,cond_true,cond_false,Option.bind_some,Sum.elim_inl,Sum.elim_inr,h1,false_and,if_false,ne_eq,h3,not_false_iff,true_or,if_true,X4k,Bool.and_false]
   ·have h':=X7F s i h
    rw [hg] at h
    generalize s.toList[i]=c at *
    simp only [hs,decide_true,cond_true]
    generalize (Utf8.decode s i)=d at *
    have e1:((d.1:Nat):Int)≥97:=by omega
    have e2:¬ ((d.1:Nat):Int)≤122:=by omega
    have e3:¬ ((d.1:Nat):Int)=45:=by omega
    have e4:¬ ((c.toNat:Int)≤122):=by omega
    have e5:¬ ((c.toNat:Int)=45):=by omega
    have q1:decide (((d.1:Nat):Int)≥97)=true:=decide_eq_true e1
    have q2:decide (((d.1:Nat):Int)≤122)=false:=decide_eq_false e2
    have q3:(((d.1:Nat):Int) != 45)=true:=bne_iff_ne.2 e3
    simp only [decide_true,decide_false,q1,q2,q3,cond_true,cond_false,Option.bind_some,Sum.elim_inl,Sum.elim_inr,e4,and_false,if_false,ne_eq,e5,not_false_iff,true_or,if_true,X4k,Bool.and_false])
 exact (key 0 45 (by omega) trivial).trans (by simp [X5o])

theorem X6K (s:ByteArray):X4a s=some (X5o s):=by
 unfold X4a
 rw [X1l]
 simp only [Option.bind_some]
 by_cases hsz:1≤s.size∧s.size≤14
 ·have e1:inN (↑s.size) 1 14=true:=by simp [inN];omega
  rw [e1]
  simp only [Bool.not_true,cond_false]
  have hl:=X1G s
  have key:=X6 (WJ s) (fun o0=>Sum.elim (fun y76:Bool=>some y76) (fun _:Unit=>some true) o0) s.toList.length (fun i (_:Int)=>(i:Int)) (fun i b=>b=if i=0 then 45 else ((s.toList.getD (i-1) 0).toNat:Int)) (fun i b=>some (if i<s.toList.length then X4k (X5n b (s.toList.drop i)) else true))
   (by
    intro b _ R
    simp [WJ,WS,X1G])
   (by
    intro i b hi hP R hR
    have hs:i<s.size:=by rw [←X1G];exact hi
    simp only [WJ,WS]
    rw [List.drop_eq_getElem_cons hi]
    have hR':=hR ((s.toList[i]).toNat:Int) (by simp [List.getD,hi])
    have hw:IntKind.wrap .i64 ((i:Int)+1)=((i+1:Nat):Int):=by rw [w64]<;>omega
    have hw1:IntKind.wrap .i64 ((i:Int)-1)=((i:Int)-1):=by rw [w64]<;>omega
    have hw2:IntKind.wrap .i64 ((s.size:Int)-1)=((s.size:Int)-1):=by rw [w64]<;>omega
    simp only [X5n,Int.toNat_natCast,X0 _ _ _ hi,hw,hw1,hw2]
    have d1:decide ((i:Int)<↑s.size)=true:=by simp [hs]
    have d2:decide ((0:Int)≤↑i)=true:=by simp
    simp only [d1,d2,Bool.and_self,cond_true,hi,if_true]
    generalize hc:s.toList[i]=c at *
    by_cases h1:97≤(c.toNat:Int)∧(c.toNat:Int)≤122
    ·have q1:decide ((c.toNat:Int)≥97)=true:=decide_eq_true h1.1
     have q2:decide ((c.toNat:Int)≤122)=true:=decide_eq_true h1.2
     simp only [decide_true,decide_false,q1,q2,cond_true,Option.bind_some,Sum.elim_inl,h1,and_self,if_true]
     have hne:¬ ((c.toNat:Int)=45):=by omega
     rw [hR']
     by_cases hi2:i+1<s.toList.length
     ·simp [hi2]
     ·have:s.toList.drop (i+1)=[]:=List.drop_eq_nil_of_le (by omega)
      simp [hi2,this,X5n,X4k,hne]
    ·have g:(bif decide ((c.toNat:Int)≥97) then bif decide ((c.toNat:Int)≤122) then true else false else false)=false:=by
      by_cases a1:(c.toNat:Int)≥97
      ·by_cases a2:(c.toNat:Int)≤122
       ·exact absurd ⟨a1,a2⟩ h1
       ·simp [a1,a2]
      ·simp [a1]
     have g2:∀ (Z:Type) (x y:Z),(bif decide ((c.toNat:Int)≥97) then bif decide ((c.toNat:Int)≤122) then x else y else y)=y:=by
      intro Z x y
      by_cases a1:(c.toNat:Int)≥97
      ·by_cases a2:(c.toNat:Int)≤122
       ·exact absurd ⟨a1,a2⟩ h1
       ·simp [a1,a2]
      ·simp [a1]
     rw [g2,if_neg h1]
     by_cases h2:(c.toNat:Int)=45
     ·simp only [h2,bne_self_eq_false,cond_false]
      by_cases h3:i=0
      ·subst h3
       simp [hP,X4k]
      ·by_cases h4:i+1=s.size
       ·have:s.toList.drop (i+1)=[]:=List.drop_eq_nil_of_le (by omega)
        have e5:(i:Int)=(s.size:Int)-1:=by omega
        have e6:((s.size:Int)-1==0)=false:=by simp;omega
        simp only [e5,e6,this,X5n]
        by_cases h5:b=45<;>simp [h5,X4k]
       ·have e5:((i:Int)==(s.size:Int)-1)=false:=by simp;omega
        have e6:((i:Int)==0)=false:=by simp;omega
        have e7:(0:Int)≤(i:Int)-1:=by omega
        have e8:(i:Int)-1<(s.size:Int):=by omega
        have e9:((i:Int)-1).toNat=i-1:=by omega
        simp only [e5,e6,e7,e8,e9,cond_false,decide_true,Bool.and_self,cond_true]
        simp only [h3,if_false] at hP
        rw [←hP]
        by_cases h5:b=45
        ·simp [h5,X4k]
        ·have q5:(b==45)=false:=beq_eq_false_iff_ne.2 h5
         rw [h2] at hR'
         rw [q5]
         simp only [cond_false,Option.bind_some,Sum.elim_inl,ne_eq,not_true,false_or,h5,if_false]
         rw [hR']
         simp [show i+1<s.toList.length by omega]
     ·have:((c.toNat:Int) != 45)=true:=by simp [h2]
      simp [this,h2,X4k])
  have:=key 0 45 (by omega) (by simp)
  refine this.trans ?_
  simp [X5o,show 0<s.toList.length by omega,hsz.2]
 ·have e1:inN (↑s.size) 1 14=false:=by
   simp [inN];omega
  rw [e1]
  simp only [Bool.not_false,cond_true,X5o]
  by_cases h:s.size≤14
  ·have h0:s.toList=[]:=by
    apply List.eq_nil_of_length_eq_zero;rw [X1G];omega
   simp [h0,X5n,X4k]
  ·simp [h]

end Nore
open Go Go.Ab
namespace Nore

def X2R (m:Int) (p:Zu):Bool:=X3 (-m) m [p.X,p.Y]
def X4l:Int→List Zk→Int
 | _,[]=>0
 | last,p::l=>if X3 0 40000 [p.Day]||X3 0 4 [p.Colour] then 7 else if p.Day≤last then 2 else X4l p.Day l
def X3b (l:List Zk):Int:=if X3 1 4 [(l.length:Int)] then 3 else X4l (-1) l
def X6S (b:ZB) (m w:Int):Int:=if X3 (-m) m [b.X.Lo,b.X.Hi,b.Y.Lo,b.Y.Hi] then 7 else if X3 0 w [b.X.Hi-b.X.Lo,b.Y.Hi-b.Y.Lo] then 2 else 0

theorem WX (n lo hi:Int):inN n lo hi = !X3 lo hi [n]:=by
 simp only [inN,X3S,X61,Bool.or_false,Bool.not_or]
 congr 1<;>rw [←decide_not,decide_eq_decide]<;>omega

theorem X4P (m:Int) (hm:0≤m∧m≤1000000) (l:List Zu) (hl:l.length<1000000):X3R m l=some (l.any (X2R m)):=by
 have hm1:IntKind.wrap .i64 (0-m) = -m:=by rw [w64]<;>omega
 have key:=X6 (X18 (↑l.length) l m) (fun o7=>Sum.elim (fun y8:Int×Zu×(List Int)=>some (decide (y8.fst≥0))) (fun _=>some (decide ((-1:Int)≥0))) o7) l.length (fun i (_:Unit)=>(i:Int)) (fun _ _=>True) (fun i _=>some ((l.drop i).any (X2R m)))
  (by
   intro b _ R
   simp [X18,X1e])
  (by
   intro i b hi _ R hR
   have hR':=hR () trivial
   simp only [X18,X1e]
   rw [List.drop_eq_getElem_cons hi]
   have hw:IntKind.wrap .i64 ((i:Int)+1)=((i+1:Nat):Int):=by rw [w64]<;>omega
   simp only [Int.toNat_natCast,X0 _ _ _ hi,List.any_cons,hm1,hw]
   rw [WD _ _ _ (by simp)]
   have h1:decide ((i:Int)<↑l.length)=true:=by simp [hi]
   have h2:decide ((0:Int)≤↑i)=true:=by simp
   simp only [h1,h2,Bool.and_self,cond_true,Option.bind_some]
   change Option.bind (bif X2R m l[i] then _ else _) _=_
   cases h3:X2R m l[i]
   ·simp;exact hR'
   ·simp)
 exact (key 0 () (by omega) trivial).trans (by simp)

theorem X3F (p:Zu) (m:Int) (hm:0≤m∧m≤1000000):X1N p m=some (!X2R m p):=by
 have hm1:IntKind.wrap .i64 (0-m) = -m:=by rw [w64]<;>omega
 unfold X1N
 rw [X1l,X1l,hm1,WX,WX]
 simp only [Option.bind_some,X2R,X3S,X61,Bool.or_false]
 cases (decide (p.X < -m)||decide (p.X>m))<;>simp

theorem X6r (l:List Zk):X2T l=some (X3b l):=by
 unfold X2T X3b
 rw [WD _ _ _ (by simp)]
 simp only [Option.bind_some]
 cases hb:X3 1 4 [(l.length:Int)]
 ·simp only [cond_false,Bool.false_eq_true,if_false]
  have hl:1≤l.length∧l.length≤4:=by simp at hb;omega
  exact X6 (XM (↑l.length) l [↑l.length]) _ l.length (fun i (b:Int)=>(b,(i:Int))) (fun _ _=>True) (fun i b=>some (X4l b (l.drop i)))
   (by
    intro b _ R
    simp [XM,XX,X4l])
   (by
    intro i b hi _ R hR
    have hR':=hR (l[i].Day) trivial
    simp only [XM,XX]
    rw [List.drop_eq_getElem_cons hi]
    have hw:IntKind.wrap .i64 ((i:Int)+1)=((i+1:Nat):Int):=by rw [w64]<;>omega
    simp only [Int.toNat_natCast,X0 _ _ _ hi,X4l,hw]
    rw [WD _ _ _ (by simp),WD _ _ _ (by simp)]
    have h1:decide ((i:Int)<↑l.length)=true:=by simp [hi]
    have h2:decide ((0:Int)≤↑i)=true:=by simp
    simp only [h1,h2,Bool.and_self,cond_true,Option.bind_some]
    cases h3:X3 0 40000 [l[i].Day]
    ·cases h4:X3 0 4 [l[i].Colour]
     ·by_cases h5:l[i].Day≤b
      ·simp [h5]
      ·simp [h5];exact hR'
     ·simp
    ·simp) 0 (-1) (by omega) trivial
 ·simp

theorem X6t (l:List Zk):X2j l=some (X3b l):=by
 unfold X2j X3b
 rw [X1l,WX]
 simp only [Option.bind_some]
 cases hb:X3 1 4 [(l.length:Int)]
 ·simp only [Bool.not_false,Bool.not_true,cond_false,Bool.false_eq_true,if_false]
  have hl:1≤l.length∧l.length≤4:=by simp at hb;omega
  exact X6 (XR l) _ l.length (fun i (_:Int)=>(i:Int)) (fun i b=>b=if i=0 then -1 else (l.getD (i-1) ⟨0,0⟩).Day) (fun i b=>some (X4l b (l.drop i)))
   (by
    intro b _ R
    simp [XR,W2,X4l])
   (by
    intro i b hi hP R hR
    have hR':=hR (l[i].Day) (by simp [List.getD,hi])
    simp only [XR,W2]
    rw [List.drop_eq_getElem_cons hi]
    have hw:IntKind.wrap .i64 ((i:Int)+1)=((i+1:Nat):Int):=by rw [w64]<;>omega
    have hw1:IntKind.wrap .i64 ((i:Int)-1)=((i:Int)-1):=by rw [w64]<;>omega
    simp only [Int.toNat_natCast,X0 _ _ _ hi,X4l,hw,hw1]
    rw [X1l,X1l,WX,WX]
    have h1:decide ((i:Int)<↑l.length)=true:=by simp [hi]
    have h2:decide ((0:Int)≤↑i)=true:=by simp
    simp only [h1,h2,Bool.and_self,cond_true,Option.bind_some]
    cases h3:X3 0 40000 [l[i].Day]
    ·cases h4:X3 0 4 [l[i].Colour]
     ·by_cases h0:i=0
      ·subst h0
       simp at hP h3
       have h5:¬ l[0].Day≤b:=by omega
       simp [h5];simpa using hR'
      ·have e7:(0:Int)≤(i:Int)-1:=by omega
       have e8:(i:Int)-1<(l.length:Int):=by omega
       have e9:((i:Int)-1).toNat=i-1:=by omega
       have e10:(i:Int)>0:=by omega
       simp only [e7,e8,e9,e10,decide_true,Bool.and_self,cond_true]
       simp only [h0,if_false] at hP
       rw [←hP]
       by_cases h5:l[i].Day≤b
       ·simp [h5]
       ·simp [h5];exact hR'
     ·simp
    ·simp) 0 (-1) (by omega) (by simp)
 ·simp

theorem X6T (b:ZB) (m:Int) (hm:0≤m∧m≤1000000):X4w b m=some (X6S b m 40):=by
 have hm1:IntKind.wrap .i64 (0-m) = -m:=by rw [w64]<;>omega
 unfold X4w X6S
 rw [WD _ _ _ (by simp),hm1]
 simp only [Option.bind_some]
 cases hb:X3 (-m) m [b.X.Lo,b.X.Hi,b.Y.Lo,b.Y.Hi]
 ·simp at hb
  have h1:IntKind.wrap .i64 (b.X.Hi-b.X.Lo)=b.X.Hi-b.X.Lo:=by rw [w64]<;>omega
  have h2:IntKind.wrap .i64 (b.Y.Hi-b.Y.Lo)=b.Y.Hi-b.Y.Lo:=by rw [w64]<;>omega
  rw [h1,h2,WD _ _ _ (by simp)]
  simp only [Option.bind_some,cond_false,Bool.false_eq_true,if_false]
  cases X3 0 40 [b.X.Hi-b.X.Lo,b.Y.Hi-b.Y.Lo]<;>simp
 ·simp

def X2k (lo hi:Int):Int→List ZE→Int
 | e,[]=>e
 | e,s::l=>if X3 lo hi [s.Lo,s.Hi] then 7 else X2k lo hi (if s.Lo>s.Hi then 2 else e) l

theorem X2B (l:List ZE) (lo hi:Int) (hl:l.length<1000000):X1M l lo hi=some (X2k lo hi 0 l):=by
 unfold X1M
 exact X6 (XP lo l hi) _ l.length (fun i (b:Int)=>(b,(i:Int))) (fun _ _=>True) (fun i b=>some (X2k lo hi b (l.drop i)))
   (by
    intro b _ R
    simp [XP,W0,X2k])
   (by
    intro i b hi' _ R hR
    simp only [XP,W0]
    rw [List.drop_eq_getElem_cons hi']
    have hw:IntKind.wrap .i64 ((i:Int)+1)=((i+1:Nat):Int):=by rw [w64]<;>omega
    simp only [Int.toNat_natCast,X0 _ _ _ hi',X2k,hw]
    rw [X1l,X1l,WX,WX]
    have h1:decide ((i:Int)<↑l.length)=true:=by simp [hi']
    have h2:decide ((0:Int)≤↑i)=true:=by simp
    simp only [h1,h2,Bool.and_self,cond_true,Option.bind_some]
    have hsplit:X3 lo hi [l[i].Lo,l[i].Hi]=(X3 lo hi [l[i].Lo]||X3 lo hi [l[i].Hi]):=by simp
    rw [hsplit]
    cases h3:X3 lo hi [l[i].Lo]
    ·cases h4:X3 lo hi [l[i].Hi]
     ·by_cases h5:l[i].Lo>l[i].Hi
      ·have:=hR 2 trivial
       simp only [h5];simp;simpa using this
      ·have:=hR b trivial
       simp only [h5];simp;simpa using this
     ·simp
    ·simp) 0 0 (by omega) trivial

theorem X7w (b:ZB) (m w:Int) (hw:0≤w):(let e:=X2k (-m) m 0 [b.X,b.Y];if e=0 then (if b.X.Hi-b.X.Lo>w then 2 else if b.Y.Hi-b.Y.Lo>w then 2 else 0) else e)=X6S b m w:=by
 simp only [X2k,X6S,X3S,X61,Bool.or_false]
 generalize b.X.Lo=x,b.X.Hi=X,b.Y.Lo=y,b.Y.Hi=Y
 by_cases a1:x < -m∨x>m∨X < -m∨X>m
 ·have e1:(decide (x < -m)||decide (x>m)||(decide (X < -m)||decide (X>m)))=true:=by simp;omega
  have e2:(decide (x < -m)||decide (x>m)||(decide (X < -m)||decide (X>m)||(decide (y < -m)||decide (y>m)||(decide (Y < -m)||decide (Y>m)))))=true:=by simp;omega
  rw [e1,e2];simp
 ·have e1:(decide (x < -m)||decide (x>m)||(decide (X < -m)||decide (X>m)))=false:=by simp;omega
  rw [e1]
  by_cases a2:y < -m∨y>m∨Y < -m∨Y>m
  ·have e2:(decide (y < -m)||decide (y>m)||(decide (Y < -m)||decide (Y>m)))=true:=by simp;omega
   have e3:(decide (x < -m)||decide (x>m)||(decide (X < -m)||decide (X>m)||(decide (y < -m)||decide (y>m)||(decide (Y < -m)||decide (Y>m)))))=true:=by simp;omega
   rw [e3,e2];simp
  ·have e2:(decide (y < -m)||decide (y>m)||(decide (Y < -m)||decide (Y>m)))=false:=by simp;omega
   have e3:(decide (x < -m)||decide (x>m)||(decide (X < -m)||decide (X>m)||(decide (y < -m)||decide (y>m)||(decide (Y < -m)||decide (Y>m)))))=false:=by simp;omega
   rw [e3,e2]
   simp only [Bool.false_eq_true,if_false]
   by_cases b1:Y<y
   ·have e4:(decide (X-x<0)||decide (X-x>w)||(decide (Y-y<0)||decide (Y-y>w)))=true:=by simp;omega
    rw [e4]
    simp [b1]
   ·by_cases b2:X<x
    ·have e4:(decide (X-x<0)||decide (X-x>w)||(decide (Y-y<0)||decide (Y-y>w)))=true:=by simp;omega
     rw [e4]
     simp [b1,b2]
    ·simp only [gt_iff_lt,b1,b2,if_false]
     by_cases b3:X-x>w
     ·have e4:(decide (X-x<0)||decide (w<X-x)||(decide (Y-y<0)||decide (w<Y-y)))=true:=by simp;omega
      rw [e4];simp;omega
     ·by_cases b4:Y-y>w
      ·have e4:(decide (X-x<0)||decide (w<X-x)||(decide (Y-y<0)||decide (w<Y-y)))=true:=by simp;omega
       rw [e4];simp;omega
      ·have e4:(decide (X-x<0)||decide (w<X-x)||(decide (Y-y<0)||decide (w<Y-y)))=false:=by simp;omega
       rw [e4];simp;omega

theorem X7O (lo hi:Int) (b:ZB) (h:X2k lo hi 0 [b.X,b.Y]=0):lo≤b.X.Lo∧b.X.Hi≤hi∧b.X.Lo≤b.X.Hi∧lo≤b.Y.Lo∧b.Y.Hi≤hi∧b.Y.Lo≤b.Y.Hi:=by
 simp only [X2k,X3S,X61,Bool.or_false] at h
 split at h
 ·simp at h
 ·split at h
  ·simp at h
  ·rename_i h1 h2
   simp at h1 h2
   split at h
   ·simp at h
   ·split at h
    ·simp at h
    ·omega

theorem X70 (b:ZB) (m:Int) (hm:0≤m∧m≤1000000):X4G b (-m) m=some (X6S b m 40):=by
 unfold X4G
 rw [X2B _ _ _ (by simp)]
 rw [←X7w b m 40 (by omega)]
 simp only [Option.bind_some]
 by_cases h:X2k (-m) m 0 [b.X,b.Y]=0
 ·have hb:=X7O _ _ _ h
  have h1:IntKind.wrap .i64 (b.X.Hi-b.X.Lo)=b.X.Hi-b.X.Lo:=by rw [w64]<;>omega
  have h2:IntKind.wrap .i64 (b.Y.Hi-b.Y.Lo)=b.Y.Hi-b.Y.Lo:=by rw [w64]<;>omega
  rw [h1,h2,h]
  by_cases h3:b.X.Hi-b.X.Lo>40
  ·simp [h3]
  ·by_cases h4:b.Y.Hi-b.Y.Lo>40<;>simp [h3,h4]
 ·have h':(X2k (-m) m 0 [b.X,b.Y]==0)=false:=beq_eq_false_iff_ne.2 h
  rw [h',if_neg h];rfl

end Nore
open Go Go.Ab
namespace Nore

theorem X6Z {a b:Int} (A B:Int) (h1 : -A≤a) (h2:a≤A) (h3 : -B≤b) (h4:b≤B) : -(A*B)≤a*b∧a*b≤A*B:=by
 have p1:=Int.mul_nonneg (show 0≤A-a by omega) (show 0≤B+b by omega)
 have p2:=Int.mul_nonneg (show 0≤A+a by omega) (show 0≤B-b by omega)
 have p3:=Int.mul_nonneg (show 0≤A-a by omega) (show 0≤B-b by omega)
 have p4:=Int.mul_nonneg (show 0≤A+a by omega) (show 0≤B+b by omega)
 constructor<;>grind

def X2d (p:Nat→Bool):Nat→Nat→Bool
 | _,0=>true
 | i,k+1=>p i&&X2d p (i+1) k

theorem X6d (p:Nat→Bool) (k i:Nat):X2d p i k=true↔∀ j,i≤j→j<i+k→p j=true:=by
 induction k generalizing i with
 | zero=>simp [X2d];intro j h1 h2;omega
 | succ k ih =>
  simp only [X2d,Bool.and_eq_true,ih]
  constructor
  ·rintro ⟨h1,h2⟩ j h3 h4
   by_cases h:j=i
   ·subst h;exact h1
   ·exact h2 j (by omega) (by omega)
  ·intro h
   exact ⟨h i (by omega) (by omega),fun j h1 h2=>h j (by omega) (by omega)⟩

def Xg (a b:Zu):Zu:=⟨a.X-b.X,a.Y-b.Y⟩
def X1C (a b:Zu):Int:=a.X*b.Y-a.Y*b.X
def P0:Zu:=⟨0,0⟩
def X6P (l:List Zu) (i:Nat):Bool :=
 X2d (fun m=>m==i||m==(i+1) % l.length||decide (0<X1C (Xg (l.getD ((i+1) % l.length) P0) (l.getD i P0)) (Xg (l.getD m P0) (l.getD i P0)))) 0 l.length
def X6a (l:List Zu):Bool:=X2d (X6P l) 0 l.length
def X66 (s:CtSand):Int :=
 if X3 3 8 [(s.Corners.length:Int)] then 3 else if s.Corners.any (X2R 10000) then 7 else if X6S s.Moves 500 40=0 then (if X6a s.Corners then 0 else 9) else X6S s.Moves 500 40

def Bd (A:Int) (p:Zu):Prop := -A≤p.X∧p.X≤A ∧ -A≤p.Y∧p.Y≤A
theorem X5x (A:Int) (p:Zu):X2R A p=false↔Bd A p:=by
 simp [X2R,Bd];omega
theorem X5w {A:Int} {l:List Zu} (h:l.any (X2R A)=false) (i:Nat) (hi:i<l.length):Bd A l[i]:=by
 rw [List.any_eq_false] at h
 rw [←X5x]
 simpa using h l[i] (List.getElem_mem hi)

theorem X6p {a b:Int} (A:Int) (hA:A≤1000000) (h1 : -A≤a∧a≤A) (h2 : -A≤b∧b≤A):IntKind.wrap .i64 (a-b)=a-b:=by rw [w64]<;>omega
theorem X7s {a b c d:Int} (A:Int) (hA:A=2000000) (h1 : -A≤a∧a≤A) (h2 : -A≤b∧b≤A) (h3 : -A≤c∧c≤A) (h4 : -A≤d∧d≤A):IntKind.wrap .i64 (IntKind.wrap .i64 (a*b)-IntKind.wrap .i64 (c*d))=a*b-c*d:=by
 subst hA
 have p:=X6Z _ _ h1.1 h1.2 h2.1 h2.2
 have q:=X6Z _ _ h3.1 h3.2 h4.1 h4.2
 rw [w64 (x:=a*b),w64 (x:=c*d),w64]<;>omega

theorem X6N (l:List Zu) (hl:3≤l.length∧l.length≤8) (hf:l.any (X2R 10000)=false) (i:Nat) (hi:i<l.length) :
  X1O (i:Int) l (((i+1) % l.length:Nat):Int) 0=some (if X6P l i then .inr () else .inl false):=by
 have hk:(i+1) % l.length<l.length:=Nat.mod_lt _ (by omega)
 unfold X6P
 generalize hkk:(i+1) % l.length=k at *
 have key:=X6b (Wi (i:Int) l (k:Int)) l.length (fun j (_:Unit)=>(j:Int)) (fun _ _=>True) (fun j _=>some (if X2d (fun m=>m==i||m==k||decide (0<X1C (Xg (l.getD k P0) (l.getD i P0)) (Xg (l.getD m P0) (l.getD i P0)))) j (l.length-j) then .inr () else .inl false))
  (by
   intro b _ R
   simp [Wi,Wz,X2d])
  (by
   intro m b hm _ R hR
   have hR':=hR () trivial
   rw [show l.length-m=(l.length-(m+1))+1 by omega]
   simp only [X2d]
   simp only [Wi,Wz]
   have hw:IntKind.wrap .i64 ((m:Int)+1)=((m+1:Nat):Int):=by rw [w64]<;>omega
   simp only [Int.toNat_natCast,X0 _ _ _ hm,X0 _ _ _ hi,X0 _ _ _ hk,hw]
   have b1:=X5w hf m hm
   have b2:=X5w hf i hi
   have b3:=X5w hf k hk
   unfold Bd at b1 b2 b3
   rw [X6p 10000 (by omega) ⟨b3.1,b3.2.1⟩ ⟨b2.1,b2.2.1⟩,X6p 10000 (by omega) b1.2.2 b2.2.2,X6p 10000 (by omega) b3.2.2 b2.2.2,X6p 10000 (by omega) ⟨b1.1,b1.2.1⟩ ⟨b2.1,b2.2.1⟩]
   rw [X7s 2000000 rfl (by omega) (by omega) (by omega) (by omega)]
   have d1:decide ((m:Int)<↑l.length)=true:=by simp [hm]
   have d2:decide ((0:Int)≤↑m)=true:=by simp
   have d3:decide ((i:Int)<↑l.length)=true:=by simp [hi]
   have d4:decide ((0:Int)≤↑i)=true:=by simp
   have d5:decide ((k:Int)<↑l.length)=true:=by simp [hk]
   have d6:decide ((0:Int)≤↑k)=true:=by simp
   simp only [d1,d2,d3,d4,d5,d6,Bool.and_self,cond_true]
   change Option.bind (bif ((m:Int) != ↑i) then bif ((m:Int) != ↑k) then bif decide (X1C (Xg l[k] l[i]) (Xg l[m] l[i])≤0) then _ else _ else _ else _) _=_
   by_cases e1:m=i
   ·have:((m:Int) != (i:Int))=false:=by simp [e1]
    rw [this];simp [e1];simpa [e1,hi,hk] using hR'
   ·have t1:((m:Int) != (i:Int))=true:=by simp;omega
    by_cases e2:m=k
    ·have:((m:Int) != (k:Int))=false:=by simp [e2]
     rw [t1,this];simp [e2];simpa [e2,hi,hk] using hR'
    ·have t2:((m:Int) != (k:Int))=true:=by simp;omega
     rw [t1,t2]
     by_cases e3:X1C (Xg l[k] l[i]) (Xg l[m] l[i])≤0
     ·have t3:¬ 0<X1C (Xg l[k] l[i]) (Xg l[m] l[i]):=by omega
      simp [e1,e2,e3,t3]
     ·have t3:0<X1C (Xg l[k] l[i]) (Xg l[m] l[i]):=by omega
      simp [e1,e2,e3,t3];simpa [hi,hk] using hR')
 have:=key 0 () (by omega) trivial
 simpa [X1O] using this

theorem X6F (l:List Zu) (hl:3≤l.length∧l.length≤8) (hf:l.any (X2R 10000)=false):X3x l=some (X6a l):=by
 unfold X3x X6a
 have key:=X6 (Wh l) (fun o103=>Sum.elim (fun y104:Bool=>some y104) (fun _:Unit=>some true) o103) l.length (fun i (_:Unit)=>(i:Int)) (fun _ _=>True) (fun i _=>some (X2d (X6P l) i (l.length-i)))
  (by
   intro b _ R
   simp [Wh,Wy,X2d])
  (by
   intro i b hi _ R hR
   have hR':=hR () trivial
   rw [show l.length-i=(l.length-(i+1))+1 by omega]
   simp only [X2d]
   simp only [Wh,Wy]
   have hw:IntKind.wrap .i64 ((i:Int)+1)=((i+1:Nat):Int):=by rw [w64]<;>omega
   have hm:Int.tmod ((i+1:Nat):Int) (l.length:Int)=(((i+1) % l.length:Nat):Int):=rfl
   have d1:decide ((i:Int)<↑l.length)=true:=by simp [hi]
   have d2:((l.length:Int)==0)=false:=by simp;intro h;simp [h] at hl
   simp only [hw,hm,d1,d2,cond_true,cond_false]
   rw [X6N l hl hf i hi]
   simp only [Option.bind_some]
   cases h:X6P l i
   ·simp
   ·simp;simpa using hR')
 exact (key 0 () (by omega) trivial).trans (by simp)

theorem X6L (s:CtSand):X4c s=some (X66 s):=by
 unfold X4c X66
 rw [X1l,WX]
 simp only [Option.bind_some]
 cases hb:X3 3 8 [(s.Corners.length:Int)]
 ·have hl:3≤s.Corners.length∧s.Corners.length≤8:=by simp at hb;omega
  simp only [Bool.not_false,Bool.not_true,cond_false,Bool.false_eq_true,if_false]
  have key:=X6b (XS s) s.Corners.length (fun i (_:Unit)=>(i:Int)) (fun _ _=>True) (fun i _=>some (if (s.Corners.drop i).any (X2R 10000) then .inl 7 else .inr ()))
   (by
    intro b _ R
    simp [XS,WT])
   (by
    intro i b hi _ R hR
    have hR':=hR () trivial
    simp only [XS,WT]
    rw [List.drop_eq_getElem_cons hi]
    have hw:IntKind.wrap .i64 ((i:Int)+1)=((i+1:Nat):Int):=by rw [w64]<;>omega
    simp only [Int.toNat_natCast,X0 _ _ _ hi,List.any_cons,hw]
    rw [X3F _ _ (by omega)]
    have h1:decide ((i:Int)<↑s.Corners.length)=true:=by simp [hi]
    have h2:decide ((0:Int)≤↑i)=true:=by simp
    simp only [h1,h2,Bool.and_self,cond_true,Option.bind_some]
    by_cases h3:X2R 10000 s.Corners[i]=true
    ·simp [h3]
    ·simp [h3];simpa using hR')
  have k0:=key 0 () (by omega) trivial
  simp only [List.drop_zero,Int.natCast_zero] at k0
  unfold X3c
  have k0':Z8S (XS s) 0=some (if s.Corners.any (X2R 10000) then .inl 7 else .inr ()):=k0
  rw [k0']
  simp only [Option.bind_some]
  cases hf:s.Corners.any (X2R 10000)
  ·simp only [Bool.false_eq_true,if_false,Sum.elim_inr]
   rw [X70 _ _ (by omega),X6F _ hl hf]
   simp only [Option.bind_some]
   by_cases h:X6S s.Moves 500 40=0
   ·rw [h]
    cases X6a s.Corners<;>simp
   ·simp [h,X5C h]
  ·simp
 ·simp

end Nore
open Go Go.Ab
namespace Nore

theorem X8e {α:Type} (P:α→Bool) (l:List α):l.countP P=0↔∀ m,(h:m<l.length)→P l[m]=false:=by
 rw [List.countP_eq_zero]
 constructor
 ·intro h m hm;simpa using h l[m] (List.getElem_mem hm)
 ·intro h a ha
  obtain ⟨m,hm,rfl⟩:=List.getElem_of_mem ha
  simp [h m hm]

theorem X87 {α:Type} (P:α→Bool) (l:List α):∀ i,(hi:i<l.length)→P l[i]=true→(l.countP P=1↔∀ m,(h:m<l.length)→m≠i→P l[m]=false):=by
 induction l with
 | nil=>intro i hi;simp at hi
 | cons a t ih =>
  intro i hi hP
  cases i with
  | zero =>
   simp only [List.getElem_cons_zero] at hP
   rw [List.countP_cons_of_pos hP]
   rw [show (t.countP P+1=1)↔t.countP P=0 by omega,X8e]
   constructor
   ·intro h m hm hne
    cases m with
    | zero=>exact absurd rfl hne
    | succ m=>simpa using h m (by simpa using hm)
   ·intro h m hm
    exact h (m+1) (by simpa using hm) (by omega)
  | succ i =>
   simp only [List.getElem_cons_succ] at hP
   have hi':i<t.length:=by simpa using hi
   have hpos:0<t.countP P:=by
    rw [List.countP_pos_iff];exact ⟨t[i],List.getElem_mem hi',hP⟩
   have ih':=ih i hi' hP
   cases ha:P a
   ·rw [List.countP_cons_of_neg (by simp [ha]),ih']
    constructor
    ·intro h m hm hne
     cases m with
     | zero=>simpa using ha
     | succ m=>simpa using h m (by simpa using hm) (by omega)
    ·intro h m hm hne
     exact h (m+1) (by simpa using hm) (by omega)
   ·rw [List.countP_cons_of_pos ha]
    constructor
    ·intro h;omega
    ·intro h
     have:=h 0 (by simp) (by omega)
     simp [ha] at this

theorem X88 {α:Type} (P:α→Bool) (l:List α):∀ i k,(hi:i<l.length)→(hk:k<l.length)→i<k→P l[i]=true→P l[k]=true→(l.countP P=2↔∀ m,(h:m<l.length)→m≠i→m≠k→P l[m]=false):=by
 induction l with
 | nil=>intro i k hi;simp at hi
 | cons a t ih =>
  intro i k hi hk hik hP hQ
  cases k with
  | zero=>omega
  | succ k =>
   simp only [List.getElem_cons_succ] at hQ
   have hk':k<t.length:=by simpa using hk
   cases i with
   | zero =>
    simp only [List.getElem_cons_zero] at hP
    rw [List.countP_cons_of_pos hP]
    rw [show (t.countP P+1=2)↔t.countP P=1 by omega,X87 P t k hk' hQ]
    constructor
    ·intro h m hm hne hne2
     cases m with
     | zero=>exact absurd rfl hne
     | succ m=>simpa using h m (by simpa using hm) (by omega)
    ·intro h m hm hne
     exact h (m+1) (by simpa using hm) (by omega) (by omega)
   | succ i =>
    simp only [List.getElem_cons_succ] at hP
    have hi':i<t.length:=by simpa using hi
    have ih':=ih i k hi' hk' (by omega) hP hQ
    cases ha:P a
    ·rw [List.countP_cons_of_neg (by simp [ha]),ih']
     constructor
     ·intro h m hm hne hne2
      cases m with
      | zero=>simpa using ha
      | succ m=>simpa using h m (by simpa using hm) (by omega) (by omega)
     ·intro h m hm hne hne2
      exact h (m+1) (by simpa using hm) (by omega) (by omega)
    ·have hpos:2≤t.countP P:=by
      have h1:=X87 P t i hi' hP
      have:0<t.countP P:=by
       rw [List.countP_pos_iff];exact ⟨t[i],List.getElem_mem hi',hP⟩
      by_cases e:t.countP P=1
      ·have:=h1.1 e k hk' (by omega)
       simp [hQ] at this
      ·omega
     rw [List.countP_cons_of_pos ha]
     constructor
     ·intro h;omega
     ·intro h
      have:=h 0 (by simp) (by omega) (by omega)
      simp [ha] at this

def X44 (l:List Zu) (a b:Zu):Bool :=
 (l.countP fun p=>decide (X1C (Xg b a) (Xg p a)≤0))==2 && !((b.X-a.X==0)&&(b.Y-a.Y==0))
def X4v (l:List Zu):Zu→List Zu→Bool
 | _,[]=>true
 | last,p::r=>X44 l last p&&X4v l p r

theorem X7I (a b:Zu):X1C (Xg b a) (Xg b a)=0:=by simp [X1C,Int.mul_comm]
theorem X7J (a b:Zu):X1C (Xg b a) (Xg a a)=0:=by simp [X1C,Xg]

theorem X6X (l:List Zu) (hl:3≤l.length) (i k:Nat) (hi:i<l.length) (hk:k<l.length) (hne:i≠k) :
  X44 l l[i] l[k]=X2d (fun m=>m==i||m==k||decide (0<X1C (Xg (l.getD k P0) (l.getD i P0)) (Xg (l.getD m P0) (l.getD i P0)))) 0 l.length:=by
 rw [Bool.eq_iff_iff,X6d]
 have hPi:decide (X1C (Xg l[k] l[i]) (Xg l[i] l[i])≤0)=true:=by rw [X7J];rfl
 have hPk:decide (X1C (Xg l[k] l[i]) (Xg l[k] l[i])≤0)=true:=by rw [X7I];rfl
 have hc:(l.countP fun p=>decide (X1C (Xg l[k] l[i]) (Xg p l[i])≤0))=2↔∀ m,(h:m<l.length)→m≠i→m≠k→decide (X1C (Xg l[k] l[i]) (Xg l[m] l[i])≤0)=false:=by
  by_cases hik:i<k
  ·exact X88 (fun p=>decide (X1C (Xg l[k] l[i]) (Xg p l[i])≤0)) l i k hi hk hik hPi hPk
  ·have:=X88 (fun p=>decide (X1C (Xg l[k] l[i]) (Xg p l[i])≤0)) l k i hk hi (by omega) hPk hPi
   rw [this]
   constructor
   ·intro h m hm h1 h2;exact h m hm h2 h1
   ·intro h m hm h1 h2;exact h m hm h2 h1
 simp only [X44,Bool.and_eq_true,beq_iff_eq,hc]
 constructor
 ·rintro ⟨h,_⟩ m _ hm
  have hm':m<l.length:=by omega
  by_cases e1:m=i
  ·simp [e1]
  ·by_cases e2:m=k
   ·simp [e2]
   ·have:=h m hm' e1 e2
    simp only [X0 _ _ _ hm',X0 _ _ _ hi,X0 _ _ _ hk]
    simp at this
    simp [this]
 ·intro h
  have h':∀ m,(hm:m<l.length)→m≠i→m≠k→0<X1C (Xg l[k] l[i]) (Xg l[m] l[i]):=fun m hm e1 e2=>by
   have:=h m (by omega) (by omega)
   simp only [X0 _ _ _ hm,X0 _ _ _ hi,X0 _ _ _ hk] at this
   simpa [e1,e2] using this
  refine ⟨fun m hm e1 e2 => ?_,?_⟩
  ·have:=h' m hm e1 e2
   simp;omega
  ·have:∃ m,m<l.length∧m≠i∧m≠k:=by
    by_cases a0:0≠i∧0≠k
    ·exact ⟨0,by omega,a0⟩
    ·by_cases a1:1≠i∧1≠k
     ·exact ⟨1,by omega,a1⟩
     ·exact ⟨2,by omega,by omega,by omega⟩
   obtain ⟨m,hm,e1,e2⟩:=this
   have:=h' m hm e1 e2
   rw [Bool.not_eq_true',Bool.eq_false_iff]
   intro hz
   simp only [Bool.and_eq_true,beq_iff_eq] at hz
   simp [X1C,Xg,hz.1,hz.2] at this

theorem X7u (l:List Zu):∀ k i,i+k=l.length→1≤i→(hi:i-1<l.length)→(X4v l l[i-1] (l.drop i)=true↔∀ j,(h1:i≤j)→(h2:j<l.length)→X44 l l[j-1] l[j]=true):=by
 intro k
 induction k with
 | zero =>
  intro i hk h1 hi
  rw [List.drop_eq_nil_of_le (by omega)]
  simp [X4v]
  intro j h1 h2;omega
 | succ k ih =>
  intro i hk h1 hi
  have hi2:i<l.length:=by omega
  rw [List.drop_eq_getElem_cons hi2]
  simp only [X4v,Bool.and_eq_true]
  have:=ih (i+1) (by omega) (by omega) (by omega)
  simp only [Nat.add_sub_cancel] at this
  rw [this]
  constructor
  ·rintro ⟨g,h⟩ j a b
   by_cases e:j=i
   ·subst e;exact g
   ·exact h j (by omega) b
  ·intro h
   exact ⟨h i (by omega) hi2,fun j a b=>h j (by omega) b⟩

theorem X7k (l:List Zu) (hl:3≤l.length):X4v l (l.getD (l.length-1) P0) l=X6a l:=by
 rw [Bool.eq_iff_iff]
 have e:X4v l (l.getD (l.length-1) P0) l=(X44 l l[l.length-1] l[0]&&X4v l l[1-1] (l.drop 1)):=by
  conv=>lhs;rw [show l=l[0]::l.drop 1 by rw [←List.drop_eq_getElem_cons (by omega)];rfl]
  rw [←show l=l[0]::l.drop 1 by rw [←List.drop_eq_getElem_cons (by omega)];rfl]
  rw [X0 _ _ _ (by omega)]
  conv=>lhs;arg 3;rw [show l=l[0]::l.drop 1 by rw [←List.drop_eq_getElem_cons (by omega)];rfl]
  rfl
 rw [e]
 simp only [Bool.and_eq_true]
 rw [X7u l (l.length-1) 1 (by omega) (by omega) (by omega)]
 unfold X6a
 rw [X6d]
 have hside:∀ i,(hi:i<l.length)→X6P l i=X44 l l[i] (l[(i+1) % l.length]'(Nat.mod_lt _ (by omega))):=fun i hi=>by
  have hk:(i+1) % l.length<l.length:=Nat.mod_lt _ (by omega)
  have hne:i≠(i+1) % l.length:=by
   by_cases h:i+1<l.length
   ·rw [Nat.mod_eq_of_lt h];omega
   ·have:i+1=l.length:=by omega
    rw [this,Nat.mod_self];omega
  rw [X6X l hl i _ hi hk hne]
  rfl
 constructor
 ·rintro ⟨h0,h⟩ i _ hi
  have hi':i<l.length:=by omega
  rw [hside i hi']
  by_cases hh:i+1<l.length
  ·have:=h (i+1) (by omega) hh
   simp only [Nat.mod_eq_of_lt hh]
   simpa using this
  ·have e1:i=l.length-1:=by omega
   subst e1
   simp only [show l.length-1+1=l.length by omega,Nat.mod_self]
   exact h0
 ·intro h
  constructor
  ·have:=h (l.length-1) (by omega) (by omega)
   rw [hside _ (by omega)] at this
   simpa only [show l.length-1+1=l.length by omega,Nat.mod_self] using this
  ·intro j h1 h2
   have:=h (j-1) (by omega) (by omega)
   rw [hside _ (by omega)] at this
   simpa only [show j-1+1=j by omega,Nat.mod_eq_of_lt h2] using this

theorem X6q (l:List Zu) (hl:l.length≤8) (hf:l.any (X2R 10000)=false) (x4:Z8) (x5:Bool) (x6:Int) (x7:Bool) (x8:Z8) (x9:Bool) (x10:Int) (x11:Z8) (s:Z6) (a b:Zu) (ha:Bd 10000 a) (hb:Bd 10000 b) (hs:s=⟨a,Xg b a⟩) :
  W6 (↑l.length) l x4 x5 x6 x7 x8 x9 x10 x11 s (0,0)=some ((l.countP fun p=>decide (X1C (Xg b a) (Xg p a)≤0):Nat):Int):=by
 subst hs
 unfold Bd at ha hb
 have key:=X6b (Xc (↑l.length) l x4 x5 x6 x7 x8 x9 x10 x11 ⟨a,Xg b a⟩) l.length (fun i (c:Nat)=>((c:Int),(i:Int))) (fun i c=>c≤i) (fun i c=>some (((c+(l.drop i).countP fun p=>decide (X1C (Xg b a) (Xg p a)≤0):Nat)):Int))
  (by
   intro b _ R
   simp [Xc,Xk])
  (by
   intro i c hi hc R hR
   simp only [Xc,Xk]
   rw [List.drop_eq_getElem_cons hi]
   have hw:IntKind.wrap .i64 ((i:Int)+1)=((i+1:Nat):Int):=by rw [w64]<;>omega
   have hw2:IntKind.wrap .i64 ((c:Int)+1)=((c+1:Nat):Int):=by rw [w64]<;>omega
   have bp:=X5w hf i hi
   unfold Bd at bp
   simp only [Int.toNat_natCast,X0 _ _ _ hi,hw,hw2,Xg]
   rw [X6p 10000 (by omega) bp.2.2 ha.2.2,X6p 10000 (by omega) ⟨bp.1,bp.2.1⟩ ⟨ha.1,ha.2.1⟩]
   rw [X7s 2000000 rfl (by omega) (by omega) (by omega) (by omega)]
   have h1:decide ((i:Int)<↑l.length)=true:=by simp [hi]
   have h2:decide ((0:Int)≤↑i)=true:=by simp
   simp only [h1,h2,Bool.and_self,cond_true]
   change Option.bind (bif decide (X1C (Xg b a) (Xg l[i] a)≤0) then _ else _) _=_
   change _=some (((c+List.countP (fun p=>decide (X1C (Xg b a) (Xg p a)≤0)) (l[i]::List.drop (i+1) l):Nat)):Int)
   by_cases h:X1C (Xg b a) (Xg l[i] a)≤0
   ·rw [List.countP_cons_of_pos (by simpa using h)]
    simp only [h,decide_true,cond_true,Option.bind_some,Sum.elim_inl]
    rw [hR (c+1) (by omega)]
    congr 1
    show ((_:Nat):Int)=((_:Nat):Int)
    congr 1
    show c+1+_=c+(_+1)
    simp only [Xg]
    omega
   ·rw [List.countP_cons_of_neg (by simpa using h)]
    simp only [h,decide_false,cond_false,Option.bind_some,Sum.elim_inl]
    rw [hR c (by omega)])
 have:=key 0 0 (by omega) (by omega)
 simpa [W6] using this

theorem X5A (s:Z8):X1w s=some (X66 s.CtSand):=by
 obtain ⟨s⟩:=s
 unfold X1w X66
 rw [WD _ _ _ (by simp)]
 simp only [Option.bind_some]
 cases hb:X3 3 8 [(s.Corners.length:Int)]
 ·have hl:3≤s.Corners.length∧s.Corners.length≤8:=by simp at hb;omega
  simp only [cond_false,Bool.false_eq_true,if_false]
  rw [X4P _ (by omega) _ (by omega)]
  simp only [Option.bind_some]
  cases hf:s.Corners.any (X2R 10000)
  ·simp only [cond_false,Bool.false_eq_true,if_false]
   rw [X6T _ _ (by omega)]
   simp only [Option.bind_some]
   by_cases h:X6S s.Moves 500 40=0
   ·have hw:IntKind.wrap .i64 ((s.Corners.length:Int)-1)=(s.Corners.length:Int)-1:=by rw [w64]<;>omega
    have ht:((s.Corners.length:Int)-1).toNat=s.Corners.length-1:=by omega
    have h1:decide ((0:Int)≤(s.Corners.length:Int)-1)=true:=by simp;omega
    have h2:decide ((s.Corners.length:Int)-1<(s.Corners.length:Int))=true:=by simp;omega
    simp only [h,hw,ht,h1,h2,bne_self_eq_false,cond_false,Bool.and_self,cond_true,if_true]
    rw [←X7k _ hl.1]
    have hlast:Bd 10000 (s.Corners.getD (s.Corners.length-1) P0):=by
     rw [X0 _ _ _ (by omega)];exact X5w hf _ (by omega)
    refine (X6 (Xb (↑s.Corners.length) s.Corners ⟨s⟩ false 0 false ⟨s⟩ false 0 ⟨s⟩ [(↑s.Corners.length:Int)]) _ s.Corners.length (fun i (b:Zu)=>((i:Int),b)) (fun _ b=>Bd 10000 b) (fun i b=>some (if X4v s.Corners b (s.Corners.drop i) then 0 else 9)) ?_ ?_ 0 _ (by omega) hlast).trans (by simp)
    ·intro b _ R
     simp [Xb,Xj,X4v]
    ·intro i b hi hP R hR
     have bp:=X5w hf i hi
     have hR':=hR s.Corners[i] bp
     simp only [Xb,Xj]
     rw [List.drop_eq_getElem_cons hi]
     have hw:IntKind.wrap .i64 ((i:Int)+1)=((i+1:Nat):Int):=by rw [w64]<;>omega
     simp only [Int.toNat_natCast,X0 _ _ _ hi,hw,X4v]
     have bp':=bp
     have hP':=hP
     unfold Bd at bp' hP'
     rw [X6p 10000 (by omega) bp'.2.2 hP'.2.2,X6p 10000 (by omega) ⟨bp'.1,bp'.2.1⟩ ⟨hP'.1,hP'.2.1⟩]
     rw [X6q s.Corners hl.2 hf _ _ _ _ _ _ _ _ ⟨⟨b.X,b.Y⟩,⟨s.Corners[i].X-b.X,s.Corners[i].Y-b.Y⟩⟩ b s.Corners[i] hP bp rfl]
     have h1:decide ((i:Int)<↑s.Corners.length)=true:=by simp [hi]
     have h2:decide ((0:Int)≤↑i)=true:=by simp
     simp only [h1,h2,Bool.and_self,cond_true,Option.bind_some]
     have hg:X44 s.Corners b s.Corners[i]=((s.Corners.countP fun p=>decide (X1C (Xg s.Corners[i] b) (Xg p b)≤0))==2 && !((s.Corners[i].X-b.X==0)&&(s.Corners[i].Y-b.Y==0))):=rfl
     generalize (s.Corners.countP fun p=>decide (X1C (Xg s.Corners[i] b) (Xg p b)≤0))=c at hg ⊢
     by_cases h3:c=2
     ·subst h3
      cases h4:(s.Corners[i].X-b.X==0)
      ·simp only [h4,Bool.false_and,Bool.not_false,Bool.and_true,beq_self_eq_true] at hg
       simp [hg];simpa using hR'
      ·cases h5:(s.Corners[i].Y-b.Y==0)
       ·simp only [h4,h5,Bool.and_false,Bool.not_false,Bool.and_true,beq_self_eq_true] at hg
        simp [hg];simpa using hR'
       ·simp only [h4,h5,Bool.and_self,Bool.not_true,Bool.and_false] at hg
        simp [hg]
     ·have h3':(((c:Nat):Int) != 2)=true:=by simp;omega
      have h3'':(c==2)=false:=by simp [h3]
      rw [h3'',Bool.false_and] at hg
      simp [h3',hg]
   ·rw [WY h,if_neg h];rfl
  ·simp
 ·simp

end Nore
open Go Go.Ab
namespace Nore

theorem Z7X (a b:ByteArray):(a==b)=(a.data==b.data):=by cases a;cases b;rfl
instance:LawfulBEq ByteArray where
 rfl:=by intro a;rw [Z7X];simp
 eq_of_beq:=by
  intro a b h
  rw [Z7X] at h
  have:=eq_of_beq h
  cases a;cases b
  simp only at this
  rw [this]
instance:DecidableEq ByteArray:=fun a b=>if h:(a==b)=true then isTrue (eq_of_beq h) else isFalse (fun e=>h (by rw [e];simp))

theorem X5R {v:Int} (s k:ByteArray):∀ m:List (ByteArray×Int),Z8z (fun a b=>a==b) s (Zgh (fun a b=>a==b) k v m)=if s=k then some v else Z8z (fun a b=>a==b) s m
 | []=>by
  by_cases h:s=k
  ·simp [Zgh,Z8z,h]
  ·have h':(s==k)=false:=beq_eq_false_iff_ne.2 h
   simp [Zgh,Z8z,h,h']
 | (k',v')::m=>by
  have ih:=X5R s k m (v:=v)
  simp only [Zgh]
  by_cases h1:k=k'
  ·subst h1
   simp only [beq_self_eq_true,cond_true,Z8z]
   by_cases h:s=k
   ·simp [h]
   ·have h':(s==k)=false:=beq_eq_false_iff_ne.2 h
    simp [h,h']
  ·have:(k==k')=false:=by simp [h1]
   simp only [this,cond_false,Z8z]
   by_cases h2:s=k'
   ·subst h2
    have h3:s≠k:=fun h=>h1 h.symm
    simp [h3]
   ·have:(s==k')=false:=by simp [h2]
    simp only [this,cond_false,ih]

def WR (s:ByteArray) (names:List ByteArray):Int:=if X5o s then (if s∈names then 5 else 0) else 6

theorem X5S {a b:ByteArray} (h:a.toList=b.toList):a=b:=by
 cases a;cases b
 simp only [ByteArray.toList_eq] at h
 congr 1
 exact Array.ext' h

theorem X49 (s:ByteArray) (names:List ByteArray) (hl:names.length<1000000):X28 s names=some (WR s names):=by
 unfold X28 WR
 rw [X6K]
 simp only [Option.bind_some]
 cases X5o s
 ·simp
 ·simp only [Bool.not_true,cond_false,if_true]
  unfold X4n
  have key:=X6 (XA s names) (fun o78=>Option.bind (Sum.elim (fun y79:Int=>some y79) (fun _:Unit=>some (-1)) o78) fun r82=>bif decide (r82≥0) then some (5:Int) else some 0) names.length (fun i (_:Unit)=>(i:Int)) (fun _ _=>True) (fun i _=>some (if s∈names.drop i then 5 else 0))
   (by
    intro b _ R
    simp [XA,Ww])
   (by
    intro i b hi _ R hR
    have hR':=hR () trivial
    simp only [XA,Ww]
    rw [List.drop_eq_getElem_cons hi]
    have hw:IntKind.wrap .i64 ((i:Int)+1)=((i+1:Nat):Int):=by rw [w64]<;>omega
    simp only [Int.toNat_natCast,X0 _ _ _ hi,hw]
    have h1:decide ((i:Int)<↑names.length)=true:=by simp [hi]
    have h2:decide ((0:Int)≤↑i)=true:=by simp
    simp only [h1,h2,Bool.and_self,cond_true]
    by_cases h:names[i]=s
    ·simp [h]
    ·have h':(names[i].toList==s.toList)=false:=by
      simp only [beq_eq_false_iff_ne];intro hh;exact h (X5S hh)
     have h'':¬ s=names[i]:=fun hh=>h hh.symm
     simp only [h',cond_false,Option.bind_some,Sum.elim_inl,List.mem_cons,h'',false_or]
     exact hR')
  have:=key 0 () (by omega) trivial
  simp only [List.drop_zero] at this
  rw [←this]
  show Option.bind (Option.bind _ _) _=Option.bind _ _
  unfold X2H
  simp only [Int.natCast_zero]
  cases Z8S (XA s names) 0<;>rfl

def X3i (m:Zw) (names:List ByteArray):Int:=if WR m.Name names=0 then (if X2R 30000 m.At then 7 else X3b m.Paints) else WR m.Name names
def X5b (s:CtSand) (names:List ByteArray):Int:=if WR s.Name names=0 then X66 s else WR s.Name names
def X4u:Nat→List ByteArray→List CtSand→Int×Int×Int
 | _,_,[]=>(0,0,0)
 | i,names,s::l=>if X5b s names=0 then X4u (i+1) (names++[s.Name]) l else (2,(i:Int),X5b s names)
def X4t (sands:List CtSand):Nat→List ByteArray→List Zw→Int×Int×Int
 | _,names,[]=>if 4<sands.length then (2,0,3) else X4u 0 names sands
 | i,names,m::l=>if X3i m names=0 then X4t sands (i+1) (names++[m.Name]) l else (1,(i:Int),X3i m names)
def X3C (c:Zl):Int×Int×Int:=if 8<c.Marks.length then (1,0,3) else X4t c.Sands 0 [] c.Marks

def Z2P (m:List (ByteArray×Int)) (names:List ByteArray):Prop:=∀ s,Option.getD (Z8z (fun a b=>a==b) s m) 0=if s∈names then 1 else 0

theorem X7d {m:List (ByteArray×Int)} {names:List ByteArray} (h:Z2P m names) (s:ByteArray) (hs:s∉names):Z2P (Zgh (fun a b=>a==b) s (IntKind.wrap .i64 (Option.getD (Z8z (fun a b=>a==b) s m) 0+1)) m) (names++[s]):=by
 intro t
 rw [X5R,h s,if_neg hs]
 by_cases e:t=s
 ·simp [e];rfl
 ·simp [e];simpa using h t

theorem X6A {m:List (ByteArray×Int)} {names:List ByteArray} (h:Z2P m names) (s:ByteArray):decide (Option.getD (Z8z (fun a b=>a==b) s (Zgh (fun a b=>a==b) s (IntKind.wrap .i64 (Option.getD (Z8z (fun a b=>a==b) s m) 0+1)) m)) 0>1)=decide (s∈names):=by
 rw [X5R,h s]
 simp only [if_true,Option.getD_some]
 by_cases e:s∈names
 ·simp only [e,if_true];rfl
 ·simp only [e,if_false];rfl

theorem X78 (c:Zl) (hl:c.Sands.length≤4) (m:List (ByteArray×Int)) (names:List ByteArray) (hm:Z2P m names) (k:_→Option (Int×Int×Int))
  (hk:k=fun o56=>Sum.elim (fun (y57:Int×Int×Int×(List (ByteArray×Int))×CtSand)=>some (y57.snd.snd.fst,y57.fst,y57.snd.fst)) (fun y58=>Sum.elim (fun (y59:Int×Int×Int×(List (ByteArray×Int))×CtSand)=>some (y59.snd.snd.fst,y59.fst,y59.snd.fst)) (fun y60=>Sum.elim (fun (y61:Int×Int×Int×(List (ByteArray×Int))×CtSand)=>some (y61.snd.snd.fst,y61.fst,y61.snd.fst)) (fun (_:List (ByteArray×Int))=>some (0,0,0)) y60) y58) o56) :
  Option.bind (X1H (↑c.Sands.length) c.Sands c (0,m)) k=some (X4u 0 names c.Sands):=by
 subst hk
 unfold X1H
 exact X6 (W5 (↑c.Sands.length) c.Sands c) _ c.Sands.length (fun i (b:List (ByteArray×Int)×List ByteArray)=>((i:Int),b.1)) (fun _ b=>Z2P b.1 b.2) (fun i b=>some (X4u i b.2 (c.Sands.drop i)))
  (by
   intro b _ R
   simp [W5,Wo,X4u])
  (by
   intro i b hi hP R hR
   simp only [W5,Wo]
   rw [List.drop_eq_getElem_cons hi]
   have hw:IntKind.wrap .i64 ((i:Int)+1)=((i+1:Nat):Int):=by rw [w64]<;>omega
   simp only [Int.toNat_natCast,X0 _ _ _ hi,hw,X4u]
   rw [X4r,X5A,X6A hP]
   have h1:decide ((i:Int)<↑c.Sands.length)=true:=by simp [hi]
   have h2:decide ((0:Int)≤↑i)=true:=by simp
   simp only [h1,h2,Bool.and_self,cond_true,Option.bind_some]
   by_cases hn:X5o c.Sands[i].Name=true
   ·by_cases he:c.Sands[i].Name∈b.2
    ·have hE:X5b c.Sands[i] b.2=5:=by simp [X5b,WR,hn,he]
     simp [hn,he,hE]
    ·have e0:(⟨c.Sands[i].Name,c.Sands[i].Corners,c.Sands[i].Moves⟩:CtSand)=c.Sands[i]:=rfl
     have hE:X5b c.Sands[i] b.2=X66 c.Sands[i]:=by simp [X5b,WR,hn,he]
     rw [e0]
     simp only [hn,he,Bool.not_true,decide_false,cond_false,hE]
     by_cases hs:X66 c.Sands[i]=0
     ·simp only [hs,bne_self_eq_false,cond_false,if_true,Option.bind_some,Sum.elim_inl]
      exact hR (_,b.2++[c.Sands[i].Name]) (X7d hP _ he)
     ·simp [hs,WY hs]
   ·have hE:X5b c.Sands[i] b.2=6:=by simp [X5b,WR,hn]
    simp [hn,hE]) 0 (m,names) (by omega) hm

theorem X5e (c:Zl):X2M c=some (X3C c):=by
 unfold X2M X3C
 by_cases h8:8<c.Marks.length
 ·have:decide ((c.Marks.length:Int)>8)=true:=by simp;omega
  rw [this];simp [h8]
 ·have:decide ((c.Marks.length:Int)>8)=false:=by simp;omega
  rw [this]
  simp only [cond_false,h8,if_false]
  exact X6 (W4 (↑c.Marks.length) c.Marks c) _ c.Marks.length (fun i (b:List (ByteArray×Int)×List ByteArray)=>((i:Int),b.1)) (fun _ b=>Z2P b.1 b.2) (fun i b=>some (X4t c.Sands i b.2 (c.Marks.drop i)))
   (by
    intro b hP R
    simp only [W4,Wn]
    have h1:decide ((c.Marks.length:Int)<↑c.Marks.length)=false:=by simp
    simp only [h1,cond_false,Option.bind_some,Sum.elim_inr,List.drop_length,X4t]
    by_cases h4:4<c.Sands.length
    ·have:decide ((c.Sands.length:Int)>4)=true:=by simp;omega
     rw [this];simp [h4]
    ·have:decide ((c.Sands.length:Int)>4)=false:=by simp;omega
     rw [this]
     simp only [cond_false,h4,if_false]
     exact X78 c (by omega) _ _ hP _ rfl)
   (by
    intro i b hi hP R hR
    simp only [W4,Wn]
    rw [List.drop_eq_getElem_cons hi]
    have hw:IntKind.wrap .i64 ((i:Int)+1)=((i+1:Nat):Int):=by rw [w64]<;>omega
    simp only [Int.toNat_natCast,X0 _ _ _ hi,hw,X4t]
    rw [X4r,X6r,X6A hP,X4P _ (by omega) _ (by simp)]
    have h1:decide ((i:Int)<↑c.Marks.length)=true:=by simp [hi]
    have h2:decide ((0:Int)≤↑i)=true:=by simp
    simp only [h1,h2,Bool.and_self,cond_true,Option.bind_some,List.any_cons,List.any_nil,Bool.or_false]
    by_cases hn:X5o c.Marks[i].Name=true
    ·by_cases he:c.Marks[i].Name∈b.2
     ·have hE:X3i c.Marks[i] b.2=5:=by simp [X3i,WR,hn,he]
      simp [hn,he,hE]
     ·by_cases hfar:X2R 30000 c.Marks[i].At=true
      ·have hE:X3i c.Marks[i] b.2=7:=by simp [X3i,WR,hn,he,hfar]
       simp [hn,he,hfar,hE]
      ·have hE:X3i c.Marks[i] b.2=X3b c.Marks[i].Paints:=by simp [X3i,WR,hn,he,hfar]
       simp only [hn,he,hfar,Bool.not_true,decide_false,cond_false,hE]
       by_cases hs:X3b c.Marks[i].Paints=0
       ·simp only [hs,bne_self_eq_false,cond_false,if_true,Option.bind_some,Sum.elim_inl]
        exact hR (_,b.2++[c.Marks[i].Name]) (X7d hP _ he)
       ·simp [hs,WY hs]
    ·have hE:X3i c.Marks[i] b.2=6:=by simp [X3i,WR,hn]
     simp [hn,hE]) 0 ([],[]) (by omega) (by intro s;simp [Z8z])

theorem X7j (c:Zl) (hl:c.Sands.length≤4) (names:List ByteArray) (hm:names.length≤8) (k:_→Option (Int×Int×Int))
  (hk:k=fun o134=>Sum.elim (fun (y135:Int×Int×Int×(List ByteArray)×(List ByteArray))=>some (y135.snd.snd.fst,y135.fst,y135.snd.fst)) (fun y136=>Sum.elim (fun (y137:Int×Int×Int×(List ByteArray)×(List ByteArray))=>some (y137.snd.snd.fst,y137.fst,y137.snd.fst)) (fun (_:List ByteArray)=>some (0,0,0)) y136) o134) :
  Option.bind (X1L c (0,names)) k=some (X4u 0 names c.Sands):=by
 subst hk
 unfold X1L
 exact X6 (Wf c) _ c.Sands.length (fun i (b:List ByteArray)=>((i:Int),b)) (fun i b=>b.length≤8+i) (fun i b=>some (X4u i b (c.Sands.drop i)))
  (by
   intro b _ R
   simp [Wf,Wv,X4u])
  (by
   intro i b hi hP R hR
   simp only [Wf,Wv]
   rw [List.drop_eq_getElem_cons hi]
   have hw:IntKind.wrap .i64 ((i:Int)+1)=((i+1:Nat):Int):=by rw [w64]<;>omega
   simp only [Int.toNat_natCast,X0 _ _ _ hi,hw,X4u]
   rw [X49 _ _ (by omega),X6L]
   have h1:decide ((i:Int)<↑c.Sands.length)=true:=by simp [hi]
   have h2:decide ((0:Int)≤↑i)=true:=by simp
   have h3:Nat.ble ((b.length+[c.Sands[i].Name].length)*(16+1)) 200000000000000=true:=by
    rw [Nat.ble_eq];simp;omega
   simp only [h1,h2,h3,Bool.and_self,cond_true,Option.bind_some]
   by_cases hf:WR c.Sands[i].Name b=0
   ·have hE:X5b c.Sands[i] b=X66 c.Sands[i]:=by simp [X5b,hf]
    simp only [hf,hE,beq_self_eq_true,cond_true]
    by_cases hs:X66 c.Sands[i]=0
    ·simp only [hs,bne_self_eq_false,cond_false,if_true,Option.bind_some,Sum.elim_inl]
     exact hR (b++[c.Sands[i].Name]) (by simp;omega)
    ·simp [hs,WY hs]
   ·have hE:X5b c.Sands[i] b=WR c.Sands[i].Name b:=by simp [X5b,hf]
    simp [hE,hf,X5C hf,WY hf]) 0 names (by omega) (by omega)

theorem X6C (c:Zl):X3v c=some (X3C c):=by
 unfold X3v X3C
 by_cases h8:8<c.Marks.length
 ·have:decide ((c.Marks.length:Int)>8)=true:=by simp;omega
  rw [this];simp [h8]
 ·have:decide ((c.Marks.length:Int)>8)=false:=by simp;omega
  rw [this]
  simp only [cond_false,h8,if_false]
  exact X6 (We c) _ c.Marks.length (fun i (b:List ByteArray)=>((i:Int),b)) (fun i b=>b.length≤i) (fun i b=>some (X4t c.Sands i b (c.Marks.drop i)))
   (by
    intro b hP R
    simp only [We,Wu]
    have h1:decide ((c.Marks.length:Int)<↑c.Marks.length)=false:=by simp
    simp only [h1,cond_false,Option.bind_some,Sum.elim_inr,List.drop_length,X4t]
    by_cases h4:4<c.Sands.length
    ·have:decide ((c.Sands.length:Int)>4)=true:=by simp;omega
     rw [this];simp [h4]
    ·have:decide ((c.Sands.length:Int)>4)=false:=by simp;omega
     rw [this]
     simp only [cond_false,h4,if_false]
     exact X7j c (by omega) _ (by omega) _ rfl)
   (by
    intro i b hi hP R hR
    simp only [We,Wu]
    rw [List.drop_eq_getElem_cons hi]
    have hw:IntKind.wrap .i64 ((i:Int)+1)=((i+1:Nat):Int):=by rw [w64]<;>omega
    simp only [Int.toNat_natCast,X0 _ _ _ hi,hw,X4t]
    rw [X49 _ _ (by omega),X6t,X3F _ _ (by omega)]
    have h1:decide ((i:Int)<↑c.Marks.length)=true:=by simp [hi]
    have h2:decide ((0:Int)≤↑i)=true:=by simp
    have h3:Nat.ble ((b.length+[c.Marks[i].Name].length)*(16+1)) 200000000000000=true:=by
     rw [Nat.ble_eq];simp;omega
    simp only [h1,h2,h3,Bool.and_self,cond_true,Option.bind_some]
    by_cases hf:WR c.Marks[i].Name b=0
    ·by_cases hfar:X2R 30000 c.Marks[i].At=true
     ·have hE:X3i c.Marks[i] b=7:=by simp [X3i,hf,hfar]
      simp [hf,hfar,hE]
     ·have hE:X3i c.Marks[i] b=X3b c.Marks[i].Paints:=by simp [X3i,hf,hfar]
      simp only [hf,hfar,hE,Bool.not_false,Bool.not_true,cond_false,beq_self_eq_true,cond_true]
      by_cases hs:X3b c.Marks[i].Paints=0
      ·simp only [hs,bne_self_eq_false,cond_false,if_true,Option.bind_some,Sum.elim_inl]
       exact hR (b++[c.Marks[i].Name]) (by simp;omega)
      ·simp [hs,WY hs]
    ·have hE:X3i c.Marks[i] b=WR c.Marks[i].Name b:=by simp [X3i,hf]
     simp [hE,hf,X5C hf,WY hf]) 0 [] (by omega) (by simp)

end Nore
open Go Go.Ab
namespace Nore

theorem X2 (lo up:Int) (l:List Int) (hl:l.length<1000000):X1 lo up l=some (X3 lo up l):=by
 rw [X5k];unfold X1Q
 have key:=X6 (Wd (↑l.length) l up lo) (fun o3=>Sum.elim (fun y4:Int=>some (decide (y4≥0))) (fun _=>some (decide ((-1:Int)≥0))) o3) l.length (fun i (_:Unit)=>(i:Int)) (fun _ _=>True) (fun i _=>some (X3 lo up (l.drop i)))
  (by
   intro b _ R
   simp [Wd,Wt])
  (by
   intro i b hi _ R hR
   have hR':=hR () trivial
   simp only [Wd,Wt]
   rw [List.drop_eq_getElem_cons hi]
   simp only [Int.toNat_natCast,X0 _ _ _ hi,X3S]
   have hw:IntKind.wrap .i64 ((i:Int)+1)=((i+1:Nat):Int):=by rw [w64]<;>omega
   rw [hw]
   have h1:decide ((i:Int)<↑l.length)=true:=by simp [hi]
   have h2:decide ((0:Int)≤↑i)=true:=by simp
   simp only [h1,h2,Bool.and_self,cond_true]
   by_cases h3:l[i]<lo
   ·simp [h3]
   ·by_cases h4:l[i]>up
    ·simp [h3,h4]
    ·simp [h3,h4];exact hR')
 exact (key 0 () (by omega) trivial).trans (by simp)

theorem Xn (n lo hi:Int):WC n lo hi=some (inN n lo hi):=by
 rw [X6m];unfold X3e inN
 by_cases h:lo≤n<;>simp [h]

def X2U (x:Z5):Int:=if x.Lead then 20 else 4
theorem X6M (x:Z5):X4J x=some (X2U x):=by
 rw [X64];unfold X2x X2U
 cases x.Lead<;>rfl

def X6i (x:Z5) (names:List ByteArray):Int :=
 if WR x.Name names≠0 then WR x.Name names else if X3 (-X2U x) (X2U x) [x.Off.Lo,x.Off.Hi] then 7 else if x.Off.Lo>x.Off.Hi then 2 else 0

theorem X7p (x:Z5) (l:List Z5) (hl:l.length<1000000) (k:(Int×Z5)⊕Unit→Option Int) (r1 r2:Option Int) (h1:∀ (i:Nat) y,k (.inl ((i:Int),y))=r1) (h2:k (.inr ())=r2) :
  Option.bind (X1V (↑l.length) l x 0) k=if x.Name∈l.map (·.Name) then r1 else r2:=by
 have key:=X6 (Xu (↑l.length) l x) k l.length (fun i (_:Unit)=>(i:Int)) (fun _ _=>True) (fun i _=>if x.Name∈(l.drop i).map (·.Name) then r1 else r2)
  (by
   intro b _ R
   simp [Xu,Xy,h2])
  (by
   intro i b hi _ R hR
   have hR':=hR () trivial
   simp only [Xu,Xy]
   rw [List.drop_eq_getElem_cons hi]
   simp only [Int.toNat_natCast,X0 _ _ _ hi,List.map_cons,List.mem_cons]
   have hw:IntKind.wrap .i64 ((i:Int)+1)=((i+1:Nat):Int):=by rw [w64]<;>omega
   rw [hw]
   have e1:decide ((i:Int)<↑l.length)=true:=by simp [hi]
   have e2:decide ((0:Int)≤↑i)=true:=by simp
   simp only [e1,e2,Bool.and_self,cond_true]
   by_cases h3:l[i].Name.toList=x.Name.toList
   ·have h4:x.Name=l[i].Name:=X5S h3.symm
    simp [h3,h4,h1]
   ·have h4:¬ x.Name=l[i].Name:=fun e=>h3 (by rw [e])
    have h5:(l[i].Name.toList==x.Name.toList)=false:=beq_eq_false_iff_ne.2 h3
    simp only [h5,cond_false,h4,false_or]
    exact hR')
 exact (key 0 () (by omega) trivial).trans (by simp)

theorem X7q (x:Z5) (l:List Z5) (hl:l.length<1000000) (k:(Int×Z5)⊕Unit→Option Int) (r1 r2:Option Int) (h1:∀ (i:Nat) y,k (.inl ((i:Int),y))=r1) (h2:k (.inr ())=r2) :
  Option.bind (X1W (↑l.length) l x 0) k=if x.Name∈l.map (·.Name) then r1 else r2:=by
 have key:=X6 (Xv (↑l.length) l x) k l.length (fun i (_:Unit)=>(i:Int)) (fun _ _=>True) (fun i _=>if x.Name∈(l.drop i).map (·.Name) then r1 else r2)
  (by
   intro b _ R
   simp [Xv,Xz,h2])
  (by
   intro i b hi _ R hR
   have hR':=hR () trivial
   simp only [Xv,Xz]
   rw [List.drop_eq_getElem_cons hi]
   simp only [Int.toNat_natCast,X0 _ _ _ hi,List.map_cons,List.mem_cons]
   have hw:IntKind.wrap .i64 ((i:Int)+1)=((i+1:Nat):Int):=by rw [w64]<;>omega
   rw [hw]
   have e1:decide ((i:Int)<↑l.length)=true:=by simp [hi]
   have e2:decide ((0:Int)≤↑i)=true:=by simp
   simp only [e1,e2,Bool.and_self,cond_true]
   by_cases h3:l[i].Name.toList=x.Name.toList
   ·have h4:x.Name=l[i].Name:=X5S h3.symm
    simp [h3,h4,h1]
   ·have h4:¬ x.Name=l[i].Name:=fun e=>h3 (by rw [e])
    have h5:(l[i].Name.toList==x.Name.toList)=false:=beq_eq_false_iff_ne.2 h3
    simp only [h5,cond_false,h4,false_or]
    exact hR')
 exact (key 0 () (by omega) trivial).trans (by simp)

theorem X5O (x:Z5) (l:List Z5) (hl:l.length<1000000):X39 x l=some (X6i x (l.map (·.Name))):=by
 rw [X4i];unfold WQ X6i WR X2U
 have hw20:IntKind.wrap .i64 (0-20) = -20:=by rw [w64]<;>omega
 have hw4:IntKind.wrap .i64 (0-4) = -4:=by rw [w64]<;>omega
 rw [X4r]
 simp only [Option.bind_some,hw20,hw4]
 cases hb:x.Lead
 ·simp only [cond_false,Bool.false_eq_true,if_false]
  cases hn:X5o x.Name
  ·simp
  ·simp only [Bool.not_true,cond_false,if_true]
   rw [X7q x l hl _ (some 5) (if X3 (-4) 4 [x.Off.Lo,x.Off.Hi] then some 7 else if x.Off.Lo>x.Off.Hi then some 2 else some 0) (fun i y=>by simp) (by
    simp only [Sum.elim_inr]
    rw [X2 _ _ _ (by simp)]
    simp only [Option.bind_some]
    cases X3 (-4) 4 [x.Off.Lo,x.Off.Hi]
    ·by_cases h:x.Off.Lo>x.Off.Hi<;>simp [h]
    ·simp)]
   by_cases hm:x.Name∈l.map (·.Name)
   ·simp [hm]
   ·simp only [hm,if_false,ne_eq,not_true]
    cases X3 (-4) 4 [x.Off.Lo,x.Off.Hi]
    ·by_cases h:x.Off.Lo>x.Off.Hi<;>simp [h]
    ·simp
 ·simp only [cond_true,if_true]
  cases hn:X5o x.Name
  ·simp
  ·simp only [Bool.not_true,cond_false,if_true]
   rw [X7p x l hl _ (some 5) (if X3 (-20) 20 [x.Off.Lo,x.Off.Hi] then some 7 else if x.Off.Lo>x.Off.Hi then some 2 else some 0) (fun i y=>by simp) (by
    simp only [Sum.elim_inr]
    rw [X2 _ _ _ (by simp)]
    simp only [Option.bind_some]
    cases X3 (-20) 20 [x.Off.Lo,x.Off.Hi]
    ·by_cases h:x.Off.Lo>x.Off.Hi<;>simp [h]
    ·simp)]
   by_cases hm:x.Name∈l.map (·.Name)
   ·simp [hm]
   ·simp only [hm,if_false,ne_eq,not_true]
    cases X3 (-20) 20 [x.Off.Lo,x.Off.Hi]
    ·by_cases h:x.Off.Lo>x.Off.Hi<;>simp [h]
    ·simp

def X4e (a:Zt):Int:=if X3 (-30000) 30000 [a.X.Lo,a.X.Hi,a.Y.Lo,a.Y.Hi]||X3 0 1000 [a.Depth.Lo,a.Depth.Hi]||X3 1 4 [a.Ground] then 7 else if a.X.Lo>a.X.Hi∨a.Y.Lo>a.Y.Hi∨a.Depth.Lo>a.Depth.Hi then 2 else 0

theorem X6W (a:Zt):X5Y a=some (X4e a):=by
 rw [X6g];unfold X2X X4e
 rw [X2 _ _ _ (by simp),X2 _ _ _ (by simp),X2 _ _ _ (by simp)]
 simp only [Option.bind_some]
 cases X3 (-30000) 30000 [a.X.Lo,a.X.Hi,a.Y.Lo,a.Y.Hi]
 ·cases X3 0 1000 [a.Depth.Lo,a.Depth.Hi]
  ·cases X3 1 4 [a.Ground]
   ·by_cases h1:a.X.Lo>a.X.Hi
    ·simp [h1]
    ·by_cases h2:a.Y.Lo>a.Y.Hi
     ·simp [h1,h2]
     ·by_cases h3:a.Depth.Lo>a.Depth.Hi<;>simp [h1,h2,h3]
   ·simp
  ·simp
 ·simp

theorem X6s (i:Int) (a:Zt):X3s i a=some (X4e a):=by
 rw [X5f];unfold X1P
 rw [X6W];rfl

theorem X8f (lo hi a b c d:Int):X3 lo hi [a,b,c,d]=(X3 lo hi [a,b]||X3 lo hi [c,d]):=by simp [Bool.or_assoc]

theorem X6G (a:Zt):X4W a=some (X4e a):=by
 rw [X5I];unfold X2a X4e X2Q
 rw [X2B _ _ _ (by simp),X2B _ _ _ (by simp),Xn,WX,X8f]
 simp only [Option.bind_some,X2k]
 cases X3 (-30000) 30000 [a.X.Lo,a.X.Hi]
 ·cases X3 (-30000) 30000 [a.Y.Lo,a.Y.Hi]
  ·cases X3 0 1000 [a.Depth.Lo,a.Depth.Hi]
   ·cases X3 1 4 [a.Ground]
    ·by_cases h1:a.X.Lo>a.X.Hi<;>by_cases h2:a.Y.Lo>a.Y.Hi<;>by_cases h3:a.Depth.Lo>a.Depth.Hi<;>simp [h1,h2,h3]
    ·by_cases h1:a.X.Lo>a.X.Hi<;>by_cases h2:a.Y.Lo>a.Y.Hi<;>by_cases h3:a.Depth.Lo>a.Depth.Hi<;>simp [h1,h2,h3]
   ·by_cases h1:a.X.Lo>a.X.Hi<;>by_cases h2:a.Y.Lo>a.Y.Hi<;>simp [h1,h2]
  ·simp
 ·simp

def X1B:Nat→List ByteArray→List Z5→Int×Int×Int
 | _,_,[]=>(0,0,0)
 | i,names,x::l=>if X6i x names=0 then X1B (i+1) (names++[x.Name]) l else (3,(i:Int),X6i x names)
def X2C:Nat→List Zt→Int×Int×Int
 | _,[]=>(0,0,0)
 | i,a::l=>if X4e a=0 then X2C (i+1) l else (4,(i:Int),X4e a)
def X2e (f:ZJ):Int×Int×Int :=
 if (X3C f.Chart).2.2≠0 then (1,0,(X3C f.Chart).2.2) else
 if X3 0 40000 [f.Day]||X3 1 500 [f.Step]||X3 0 8 [f.Half] then (2,0,7) else
 if X3 1 4 [(f.Instruments.length:Int)] then (3,0,3) else
 if (X1B 0 [] f.Instruments).2.2≠0 then X1B 0 [] f.Instruments else
 if 6<f.Areas.length then (4,0,3) else X2C 0 f.Areas

theorem X75 (l:List Zt) (hl:l.length≤6) (k:(Int×Int×Zt)⊕Unit→Option (Int×Int×Int)) (h1:∀ (i e:Int) y,e≠0→k (.inl (e,i,y))=some (4,i,e)) (h2:k (.inr ())=some (0,0,0)) :
  Option.bind (X3n l (↑l.length) 0) k=some (X2C 0 l):=by
 have key:=X6 (X1c l (↑l.length)) k l.length (fun i (_:Unit)=>(i:Int)) (fun _ _=>True) (fun i _=>some (X2C i (l.drop i)))
  (by
   intro b _ R
   simp [X1c,X1h,h2,X2C])
  (by
   intro i b hi _ R hR
   have hR':=hR () trivial
   simp only [X1c,X1h]
   rw [List.drop_eq_getElem_cons hi]
   simp only [Int.toNat_natCast,X0 _ _ _ hi,X2C]
   have hw:IntKind.wrap .i64 ((i:Int)+1)=((i+1:Nat):Int):=by rw [w64]<;>omega
   rw [hw,X6s]
   have e1:decide ((i:Int)<↑l.length)=true:=by simp [hi]
   have e2:decide ((0:Int)≤↑i)=true:=by simp
   simp only [e1,e2,Bool.and_self,cond_true,Option.bind_some]
   by_cases h3:X4e l[i]=0
   ·simp only [h3,bne_self_eq_false,cond_false,Option.bind_some,Sum.elim_inl,if_true]
    exact hR'
   ·simp [h3,WY h3,h1])
 exact (key 0 () (by omega) trivial).trans (by simp)
theorem X76 (l:List Zt) (hl:l.length≤6) (k:(Int×Int×Zt)⊕Unit→Option (Int×Int×Int)) (h1:∀ (i e:Int) y,e≠0→k (.inl (e,i,y))=some (4,i,e)) (h2:k (.inr ())=some (0,0,0)) :
  Option.bind (X2f l (↑l.length) 0) k=some (X2C 0 l):=X75 l hl k h1 h2

theorem X7r (f:ZJ) (hl:f.Instruments.length≤4) (k:(Int×Int×Z5×Z5)⊕Unit→Option (Int×Int×Int)) (r:Option (Int×Int×Int)) (h1:∀ (i e:Int) y y',e≠0→k (.inl (e,i,y,y'))=some (3,i,e)) (h2:k (.inr ())=r) :
  Option.bind (X3m f.Instruments (↑f.Instruments.length) f 0) k=if (X1B 0 [] f.Instruments).2.2≠0 then some (X1B 0 [] f.Instruments) else r:=by
 have key:=X6 (X1b f.Instruments (↑f.Instruments.length) f) k f.Instruments.length (fun i (_:Unit)=>(i:Int)) (fun _ _=>True) (fun i _=>if (X1B i ((f.Instruments.take i).map (·.Name)) (f.Instruments.drop i)).2.2≠0 then some (X1B i ((f.Instruments.take i).map (·.Name)) (f.Instruments.drop i)) else r)
  (by
   intro b _ R
   simp [X1b,X1g,h2,X1B])
  (by
   intro i b hi _ R hR
   have hR':=hR () trivial
   simp only [X1b,X1g]
   rw [List.drop_eq_getElem_cons hi]
   rw [←List.take_concat_get hi] at hR'
   simp only [List.concat_eq_append,List.map_append,List.map_cons,List.map_nil] at hR'
   simp only [Int.toNat_natCast,X0 _ _ _ hi,X1B,List.drop_zero]
   have hw:IntKind.wrap .i64 ((i:Int)+1)=((i+1:Nat):Int):=by rw [w64]<;>omega
   rw [hw,X5O _ _ (by simp;omega)]
   have e1:decide ((i:Int)<↑f.Instruments.length)=true:=by simp [hi]
   have e2:decide ((0:Int)≤↑i)=true:=by simp
   have e3:decide ((i:Int)≤↑f.Instruments.length)=true:=by simp;omega
   simp only [e1,e2,e3,Bool.and_self,cond_true,Option.bind_some]
   by_cases h3:X6i f.Instruments[i] ((f.Instruments.take i).map (·.Name))=0
   ·simp only [h3,bne_self_eq_false,cond_false,Option.bind_some,Sum.elim_inl,if_true]
    exact hR'
   ·simp only [WY h3,cond_true,Option.bind_some,Sum.elim_inr,h1 _ _ _ _ h3,if_neg h3]
    rw [if_pos h3])
 exact (key 0 () (by omega) trivial).trans (by simp)

theorem X4s (f:ZJ):X4A f=some (X2e f):=by
 rw [X5V];unfold X2u X2e
 rw [X5e,X2 _ _ _ (by simp),X2 _ _ _ (by simp),X2 _ _ _ (by simp),X2 _ _ _ (by simp)]
 simp only [Option.bind_some]
 by_cases h1:(X3C f.Chart).2.2=0
 ·simp only [h1,bne_self_eq_false,cond_false,ne_eq,not_true,if_false]
  cases X3 0 40000 [f.Day]
  ·cases X3 1 500 [f.Step]
   ·cases X3 0 8 [f.Half]
    ·cases hi:X3 1 4 [(f.Instruments.length:Int)]
     ·have hl:f.Instruments.length≤4:=by simp at hi;omega
      simp only [cond_false,Bool.or_self,Bool.false_eq_true,if_false]
      have ha:(bif decide ((f.Areas.length:Int)>6) then some (4,0,3) else Option.bind (X2f f.Areas (↑f.Areas.length) 0) fun o257↦Sum.elim (fun y258↦bif y258.fst != 0 then some (4,y258.snd.fst,y258.fst) else some ((0:Int),(0:Int),(0:Int))) (fun y259↦some (0,0,0)) o257)=(some (if 6<f.Areas.length then (4,0,3) else X2C 0 f.Areas):Option (Int×Int×Int)):=by
       by_cases h6:6<f.Areas.length
       ·have:decide ((f.Areas.length:Int)>6)=true:=by simp;omega
        rw [this];simp [h6]
       ·have:decide ((f.Areas.length:Int)>6)=false:=by simp;omega
        rw [this]
        simp only [cond_false,h6,if_false]
        exact X76 _ (by omega) _ (fun i e y he=>by simp [WY he]) rfl
      rw [X7r f hl _ _ (fun i e y y' he=>by simp [WY he]) (by simp only [Sum.elim_inr];exact ha)]
      by_cases h3:(X1B 0 [] f.Instruments).2.2=0<;>simp [h3]
     ·simp
    ·simp
   ·simp
  ·simp
 ·simp [h1,WY h1]

theorem X6I (f:ZJ) (hl:f.Instruments.length≤4) (k:(Int×Int×Int×List ByteArray×List ByteArray×Z5)⊕((Int×Int×Int×List ByteArray×List ByteArray×Z5)⊕List ByteArray)→Option (Int×Int×Int)) (r:Option (Int×Int×Int))
  (h1:∀ (i e:Int) y y' z,k (.inl (i,e,3,y,y',z))=some (3,i,e)) (h1':∀ (i e:Int) y y' z,k (.inr (.inl (i,e,3,y,y',z)))=some (3,i,e)) (h2:∀ l,k (.inr (.inr l))=r) :
  Option.bind (X2J f (0,[])) k=if (X1B 0 [] f.Instruments).2.2≠0 then some (X1B 0 [] f.Instruments) else r:=by
 have key:=X6 (Wj f) k f.Instruments.length (fun i (b:List ByteArray)=>((i:Int),b)) (fun i b=>b=(f.Instruments.take i).map (·.Name)) (fun i b=>if (X1B i b (f.Instruments.drop i)).2.2≠0 then some (X1B i b (f.Instruments.drop i)) else r)
  (by
   intro b _ R
   simp [Wj,WA,h2,X1B])
  (by
   intro i b hi hb R hR
   have hR':=hR (b++[f.Instruments[i].Name]) (by rw [hb,←List.take_concat_get hi,List.concat_eq_append,List.map_append];rfl)
   have hbl:b.length≤4:=by rw [hb];simp;omega
   simp only [Wj,WA]
   rw [List.drop_eq_getElem_cons hi]
   simp only [Int.toNat_natCast,X0 _ _ _ hi,X1B]
   have hw:IntKind.wrap .i64 ((i:Int)+1)=((i+1:Nat):Int):=by rw [w64]<;>omega
   rw [hw,X49 _ _ (by omega),X6M]
   have e1:decide ((i:Int)<↑f.Instruments.length)=true:=by simp [hi]
   have e2:decide ((0:Int)≤↑i)=true:=by simp
   have e3:Nat.ble ((b.length+[f.Instruments[i].Name].length)*(16+1)) 200000000000000=true:=by
    apply Nat.ble_eq_true_of_le;simp;omega
   have hf:IntKind.wrap .i64 (0-X2U f.Instruments[i]) = -X2U f.Instruments[i]:=by unfold X2U;split<;>(rw [w64]<;>omega)
   simp only [e1,e2,e3,Bool.and_self,cond_true,Option.bind_some,hf,X2Q]
   rw [X2B _ _ _ (by simp)]
   unfold X6i
   by_cases h3:WR f.Instruments[i].Name b=0
   ·simp only [h3,beq_self_eq_true,cond_true,ne_eq,not_true,if_false,Option.bind_some,X2k]
    cases ho:X3 (-X2U f.Instruments[i]) (X2U f.Instruments[i]) [f.Instruments[i].Off.Lo,f.Instruments[i].Off.Hi]
    ·by_cases h4:f.Instruments[i].Off.Lo>f.Instruments[i].Off.Hi
     ·simp [h4,h1]
     ·simp only [h4,Bool.false_eq_true,if_false,bne_self_eq_false,cond_false,Option.bind_some,Sum.elim_inl,if_true]
      exact hR'
    ·simp [h1]
   ·have h5:=WY h3
    simp [h3,X5C h3,h5,h1'])
 exact (key 0 [] (by omega) (by simp)).trans (by simp)

theorem X6H (f:ZJ) (hl:f.Areas.length≤6) (k:(Int×Int×Int)⊕Unit→Option (Int×Int×Int)) (h1:∀ (i e:Int),k (.inl (i,e,4))=some (4,i,e)) (h2:k (.inr ())=some (0,0,0)) :
  Option.bind (X2K f 0) k=some (X2C 0 f.Areas):=by
 have key:=X6 (Wk f) k f.Areas.length (fun i (_:Unit)=>(i:Int)) (fun _ _=>True) (fun i _=>some (X2C i (f.Areas.drop i)))
  (by
   intro b _ R
   simp [Wk,WB,h2,X2C])
  (by
   intro i b hi _ R hR
   have hR':=hR () trivial
   simp only [Wk,WB]
   rw [List.drop_eq_getElem_cons hi]
   simp only [Int.toNat_natCast,X0 _ _ _ hi,X2C]
   have hw:IntKind.wrap .i64 ((i:Int)+1)=((i+1:Nat):Int):=by rw [w64]<;>omega
   rw [hw,X6G]
   have e1:decide ((i:Int)<↑f.Areas.length)=true:=by simp [hi]
   have e2:decide ((0:Int)≤↑i)=true:=by simp
   simp only [e1,e2,Bool.and_self,cond_true,Option.bind_some]
   by_cases h3:X4e f.Areas[i]=0
   ·simp only [h3,bne_self_eq_false,cond_false,Option.bind_some,Sum.elim_inl,if_true]
    exact hR'
   ·simp [h3,WY h3,h1])
 exact (key 0 () (by omega) trivial).trans (by simp)

theorem X5a (f:ZJ):X3y f=some (X2e f):=by
 rw [X5r];unfold X1T X2e
 rw [X6C,Xn,Xn,Xn,Xn,WX,WX,WX,WX]
 simp only [Option.bind_some,Bool.not_not]
 by_cases h1:(X3C f.Chart).2.2=0
 ·simp only [h1,bne_self_eq_false,cond_false,ne_eq,not_true,if_false]
  cases X3 0 40000 [f.Day]
  ·cases X3 1 500 [f.Step]
   ·cases X3 0 8 [f.Half]
    ·cases hi:X3 1 4 [(f.Instruments.length:Int)]
     ·have hl:f.Instruments.length≤4:=by simp at hi;omega
      simp only [cond_false,Bool.or_self,Bool.false_eq_true,if_false]
      rw [X6I f hl _ (some (if 6<f.Areas.length then (4,0,3) else X2C 0 f.Areas)) (fun i e y y' z=>rfl) (fun i e y y' z=>rfl) (fun l=>by
       simp only [Sum.elim_inr]
       by_cases h6:6<f.Areas.length
       ·have:decide ((f.Areas.length:Int)>6)=true:=by simp;omega
        rw [this];simp [h6]
       ·have:decide ((f.Areas.length:Int)>6)=false:=by simp;omega
        rw [this]
        simp only [cond_false,h6,if_false]
        exact X6H f (by omega) _ (fun i e=>rfl) rfl)]
      by_cases h3:(X1B 0 [] f.Instruments).2.2=0<;>simp [h3]
     ·simp
    ·simp
   ·simp
  ·simp
 ·simp [h1,WY h1]
end Nore
open Go Go.Ab
namespace Nore

def X45 (d:Int):Int→List Zk→Int
 | c,[]=>c
 | c,p::l=>X45 d (if p.Day≤d then p.Colour else c) l
def X4F (m:Zw) (d:Int):Int:=X45 d 0 m.Paints

theorem X6l (d:Int) (p:Zk):∀ (l:List Zk) (c:Int),X45 d c (l++[p])=if p.Day≤d then p.Colour else X45 d c l
 | [],c=>rfl
 | q::l,c=>by simp only [List.cons_append,X45,X6l d p l]

theorem X62 (m:Zw) (d:Int) (hl:m.Paints.length<1000000):X3r m d=some (X4F m d):=by
 rw [X4H];unfold X1k X4F
 have key:=X6 (XD d m) (fun o=>some o) m.Paints.length (fun i (b:Int)=>(b,(i:Int))) (fun _ _=>True) (fun i b=>some (X45 d b (m.Paints.drop i)))
  (by
   intro b _ R
   simp [XD,XG,X45])
  (by
   intro i b hi _ R hR
   simp only [XD,XG]
   rw [List.drop_eq_getElem_cons hi]
   simp only [Int.toNat_natCast,X0 _ _ _ hi,X45]
   have hw:IntKind.wrap .i64 ((i:Int)+1)=((i+1:Nat):Int):=by rw [w64]<;>omega
   rw [hw]
   have e1:decide ((i:Int)<↑m.Paints.length)=true:=by simp [hi]
   have e2:decide ((0:Int)≤↑i)=true:=by simp
   simp only [e1,e2,Bool.and_self,cond_true]
   by_cases h3:m.Paints[i].Day≤d
   ·simp only [h3,decide_true,cond_true,Option.bind_some,Sum.elim_inl,if_true]
    exact hR _ trivial
   ·simp only [h3,decide_false,cond_false,Option.bind_some,Sum.elim_inl,if_false]
    exact hR _ trivial)
 exact key 0 0 (by omega) trivial

theorem X7f (d:Int) (l:List Zk) (hl:l.length<1000000) (k:(Zk×Int×Int)⊕Unit→Option (Zw×Int×Int)) (mk:Zw) (h1:∀ p c e,k (.inl (p,c,e))=some (mk,c,e)) (h2:k (.inr ())=some (mk,0,0)) :
  Option.bind (X1q d l ((l.length:Int)-1)) k=some (mk,X45 d 0 l,0):=by
 have key:=X6 (XK d l) k l.length (fun i (_:Unit)=>(l.length:Int)-1-i) (fun _ _=>True) (fun i _=>some (mk,X45 d 0 (l.take (l.length-i)),0))
  (by
   intro b _ R
   have:decide ((l.length:Int)-1-l.length≥0)=false:=by simp;omega
   simp only [XK,XW,this,cond_false,Option.bind_some,Sum.elim_inr,h2]
   simp [X45])
  (by
   intro i b hi _ R hR
   have hR':=hR () trivial
   have ht:((l.length:Int)-1-i).toNat=l.length-1-i:=by omega
   have hj:l.length-1-i<l.length:=by omega
   simp only [XK,XW,ht,X0 _ _ _ hj]
   have e1:decide ((l.length:Int)-1-i≥0)=true:=by simp;omega
   have e2:decide ((0:Int)≤(l.length:Int)-1-i)=true:=by simp;omega
   have e3:decide ((l.length:Int)-1-i<l.length)=true:=by simp;omega
   have hw:IntKind.wrap .i64 ((l.length:Int)-1-i-1)=(l.length:Int)-1-((i+1:Nat):Int):=by rw [w64]<;>omega
   simp only [e1,e2,e3,Bool.and_self,cond_true,hw]
   have hs:l.take (l.length-i)=l.take (l.length-(i+1))++[l[l.length-1-i]]:=by
    have:=List.take_concat_get hj
    rw [show l.length-i=l.length-1-i+1 by omega,←this,List.concat_eq_append,show l.length-(i+1)=l.length-1-i by omega]
   rw [hs,X6l]
   by_cases h3:l[l.length-1-i].Day≤d
   ·simp [h3,h1]
   ·simp only [h3,decide_false,cond_false,Option.bind_some,Sum.elim_inl,if_false]
    exact hR')
 have:=key 0 () (by omega) trivial
 unfold X1q
 simpa using this

theorem X7t (l:List Zk) (h:X3b l=0):l.length≤4:=by
 unfold X3b at h
 cases ho:X3 1 4 [(l.length:Int)]
 ·simp at ho;omega
 ·rw [ho] at h;simp at h

theorem X7g (sands:List CtSand):∀ (l:List Zw) (i:Nat) (names:List ByteArray),(X4t sands i names l).2.2=0→∀ m∈l,X2R 30000 m.At=false∧m.Paints.length≤4
 | [],_,_,_,m,hm=>by cases hm
 | x::l,i,names,h,m,hm=>by
  simp only [X4t] at h
  by_cases h0:X3i x names=0
  ·simp only [h0,if_true] at h
   rcases List.mem_cons.1 hm with e|e
   ·subst e
    unfold X3i at h0
    by_cases h1:WR m.Name names=0
    ·simp only [h1,if_true] at h0
     cases hf:X2R 30000 m.At
     ·rw [hf] at h0
      exact ⟨rfl,X7t _ (by simpa using h0)⟩
     ·rw [hf] at h0;simp at h0
    ·simp only [h1,if_false] at h0
   ·exact X7g sands l _ _ h m e
  ·simp only [h0,if_false] at h

structure X2m (f:ZJ):Prop where
 chart:(X3C f.Chart).2.2=0
 marks:f.Chart.Marks.length≤8
 mark:∀ m∈f.Chart.Marks,X2R 30000 m.At=false∧m.Paints.length≤4
 day:0≤f.Day∧f.Day≤40000
 step:1≤f.Step∧f.Step≤500
 half:0≤f.Half∧f.Half≤8
 inst:1≤f.Instruments.length∧f.Instruments.length≤4
 off:∀ x∈f.Instruments,-X2U x≤x.Off.Lo∧x.Off.Lo≤x.Off.Hi∧x.Off.Hi≤X2U x
 areas:f.Areas.length≤6
 area:∀ a∈f.Areas,X4e a=0

theorem X7c:∀ (l:List Z5) (i:Nat) (names:List ByteArray),(X1B i names l).2.2=0→∀ x∈l,-X2U x≤x.Off.Lo∧x.Off.Lo≤x.Off.Hi∧x.Off.Hi≤X2U x
 | [],_,_,_,m,hm=>by cases hm
 | x::l,i,names,h,m,hm=>by
  simp only [X1B] at h
  by_cases h0:X6i x names=0
  ·simp only [h0,if_true] at h
   rcases List.mem_cons.1 hm with e|e
   ·subst e
    unfold X6i at h0
    by_cases h1:WR m.Name names=0
    ·simp only [h1,ne_eq,not_true,if_false] at h0
     cases ho:X3 (-X2U m) (X2U m) [m.Off.Lo,m.Off.Hi]
     ·rw [ho] at h0
      simp at ho h0
      omega
     ·rw [ho] at h0;simp at h0
    ·simp only [ne_eq,h1,not_false_eq_true,if_true] at h0
   ·exact X7c l _ _ h m e
  ·simp only [h0,if_false] at h
theorem X77:∀ (l:List Zt) (i:Nat),(X2C i l).2.2=0→∀ x∈l,X4e x=0
 | [],_,_,m,hm=>by cases hm
 | x::l,i,h,m,hm=>by
  simp only [X2C] at h
  by_cases h0:X4e x=0
  ·simp only [h0,if_true] at h
   rcases List.mem_cons.1 hm with e|e
   ·subst e;exact h0
   ·exact X77 l _ h m e
  ·simp only [h0,if_false] at h

theorem X5Z {f:ZJ} (h:(X2e f).2.2=0):X2m f:=by
 unfold X2e at h
 by_cases h1:(X3C f.Chart).2.2=0
 ·simp only [h1,ne_eq,not_true,if_false] at h
  cases h2:(X3 0 40000 [f.Day]||X3 1 500 [f.Step]||X3 0 8 [f.Half])
  ·rw [h2] at h
   cases h3:X3 1 4 [(f.Instruments.length:Int)]
   ·rw [h3] at h
    simp only [Bool.false_eq_true,if_false] at h
    by_cases h4:(X1B 0 [] f.Instruments).2.2=0
    ·simp only [h4,ne_eq,not_true,if_false] at h
     by_cases h5:6<f.Areas.length
     ·rw [if_pos h5] at h;simp at h
     ·rw [if_neg h5] at h
      simp at h2 h3
      have hm:¬ 8<f.Chart.Marks.length:=fun q=>by unfold X3C at h1;rw [if_pos q] at h1;simp at h1
      have h1':=h1
      unfold X3C at h1'
      rw [if_neg hm] at h1'
      exact ⟨h1,by omega,X7g _ _ _ _ h1',by omega,by omega,by omega,by omega,X7c _ _ _ h4,by omega,X77 _ _ h⟩
    ·exfalso
     rw [if_pos h4] at h;exact h4 h
   ·rw [h3] at h;simp at h
  ·rw [h2] at h;simp at h
 ·rw [if_pos h1] at h;exact absurd h h1

theorem X4y {f:ZJ} (hg:X2m f) (mark:Int) (h0:0≤mark) (h1:mark<f.Chart.Marks.length) :
  X2S f.Chart f.Day mark=some (f.Chart.Marks.getD mark.toNat ⟨ByteArray.empty,⟨0,0⟩,[]⟩,X4F (f.Chart.Marks.getD mark.toNat ⟨ByteArray.empty,⟨0,0⟩,[]⟩) f.Day,0):=by
 rw [X50];unfold X1v
 have hm:=hg.marks
 have hd:=hg.day
 have hj:mark.toNat<f.Chart.Marks.length:=by omega
 have hp:=(hg.mark _ (List.getElem_mem hj)).2
 have hw:IntKind.wrap .i64 ((f.Chart.Marks.length:Int)-1)=(f.Chart.Marks.length:Int)-1:=by rw [w64]<;>omega
 rw [X5e,WD _ _ _ (by simp),WD _ _ _ (by simp),hw]
 have o1:X3 0 40000 [f.Day]=false:=by simp;omega
 have o2:X3 0 ((f.Chart.Marks.length:Int)-1) [mark]=false:=by simp;omega
 have e1:decide (0≤mark)=true:=by simp [h0]
 have e2:decide (mark<(f.Chart.Marks.length:Int))=true:=by simp [h1]
 simp only [Option.bind_some,hg.chart,bne_self_eq_false,cond_false,o1,o2,e1,e2,Bool.and_self,cond_true,X0 _ _ _ hj]
 have hw2:IntKind.wrap .i64 ((f.Chart.Marks[mark.toNat].Paints.length:Int)-1)=(f.Chart.Marks[mark.toNat].Paints.length:Int)-1:=by rw [w64]<;>omega
 rw [hw2]
 exact X7f f.Day _ (by omega) _ _ (fun p c e=>rfl) rfl

def Z8y (f:ZJ) (mark:Int):Zw:=f.Chart.Marks.getD mark.toNat ⟨ByteArray.empty,⟨0,0⟩,[]⟩
def X3Q (f:ZJ) (mark:Int):Bool:=X4F (Z8y f mark) f.Day != 0

theorem X7x {f:ZJ} (hg:X2m f) (mark:Int) (h0:0≤mark) (h1:mark<f.Chart.Marks.length) (l:List Zn) (kit:Nat→Nat) (m:List (Zh×Int)) :
  XB (mark,f,l,kit,m)=some (X3Q f mark,f,l,kit,m):=by
 rw [X31];unfold Xr
 rw [X4Y];unfold X1u
 rw [X4y hg mark h0 h1]
 rfl

def Kit (f:ZJ) (kit:Nat→Nat):Prop:=∀ i,(h:i<f.Instruments.length)→kit i=if f.Instruments[i].Lead then 2 else 1
def X16 (f:ZJ) (i:Int):Z5:=f.Instruments.getD i.toNat ⟨ByteArray.empty,false,⟨0,0⟩⟩

def X17 (f:ZJ) (x:Zn):Int :=
 if X3 0 ((f.Instruments.length:Int)-1) [x.Instrument] then 4 else
 if (X16 f x.Instrument).Lead then (if X3 0 1000 [x.Shown]||X3 0 4 [x.Ground] then 7 else if x.Mark≠0 then 2 else 0)
 else if X3 0 ((f.Chart.Marks.length:Int)-1) [x.Mark] then 4 else if X3Q f x.Mark=false then 9 else if X3 0 31 [x.Shown] then 7 else if x.Ground≠0 then 7 else 0

theorem X7M {f:ZJ} (hg:X2m f) (x:Zn) (l:List Zn) {kit:Nat→Nat} (hk:Kit f kit) (m:List (Zh×Int)) :
  WN (x,f,l,kit,m)=some (X17 f x,f,l,kit,m):=by
 rw [X3g];unfold Xx X17
 have hm:=hg.marks
 have hi:=hg.inst
 have hw:IntKind.wrap .i64 ((f.Chart.Marks.length:Int)-1)=(f.Chart.Marks.length:Int)-1:=by rw [w64]<;>omega
 have hw2:IntKind.wrap .i64 ((f.Instruments.length:Int)-1)=(f.Instruments.length:Int)-1:=by rw [w64]<;>omega
 simp only [hw,hw2]
 rw [X2 _ _ _ (by simp),X2 _ _ _ (by simp),X2 _ _ _ (by simp),X2 _ _ _ (by simp),X2 _ _ _ (by simp)]
 simp only [Option.bind_some]
 cases ho:X3 0 ((f.Instruments.length:Int)-1) [x.Instrument]
 ·simp at ho
  have hj:x.Instrument.toNat<f.Instruments.length:=by omega
  have e1:decide (0≤x.Instrument)=true:=by simp;omega
  have e2:decide (x.Instrument<((4:Nat):Int))=true:=by simp;omega
  have e3:Nat.blt x.Instrument.toNat 4=true:=by rw [Tr.blt_dec];simp;omega
  have hkk:=hk _ hj
  have hio:X16 f x.Instrument=f.Instruments[x.Instrument.toNat]:=X0 _ _ _ hj
  rw [hio]
  have e2':decide (x.Instrument<(4:Int))=true:=by simp;omega
  simp only [cond_false,Bool.false_eq_true,if_false,e1,e2,e2',e3,Bool.and_self,cond_true]
  cases hL:f.Instruments[x.Instrument.toNat].Lead
  ·rw [hL] at hkk
   simp only [Bool.false_eq_true,if_false] at hkk
   simp only [hkk,show Nat.beq 1 0=false from rfl,show Nat.beq 1 1=true from rfl,cond_false,cond_true,Bool.false_eq_true,if_false]
   cases hmk:X3 0 ((f.Chart.Marks.length:Int)-1) [x.Mark]
   ·simp at hmk
    simp only [cond_false,Bool.false_eq_true,if_false]
    rw [X7x hg x.Mark (by omega) (by omega)]
    simp only [Option.bind_some]
    cases X3Q f x.Mark
    ·simp
    ·cases X3 0 31 [x.Shown]
     ·by_cases h5:x.Ground=0<;>simp [h5,WY]
     ·simp
   ·simp
  ·rw [hL] at hkk
   simp only [if_true] at hkk
   simp only [hkk,show Nat.beq 2 0=false from rfl,show Nat.beq 2 1=false from rfl,show Nat.beq 2 (1+1)=true from rfl,cond_false,cond_true,if_true]
   cases X3 0 1000 [x.Shown]
   ·cases X3 0 4 [x.Ground]
    ·by_cases h5:x.Mark=0<;>simp [h5,WY]
    ·simp
   ·simp
 ·simp

theorem X6u {f:ZJ} (hg:X2m f) (x:Zn):X4p f x=some (X17 f x):=by
 rw [X5t];unfold X1U X17
 have hm:=hg.marks
 have hi:=hg.inst
 have hw:IntKind.wrap .i64 ((f.Chart.Marks.length:Int)-1)=(f.Chart.Marks.length:Int)-1:=by rw [w64]<;>omega
 have hw2:IntKind.wrap .i64 ((f.Instruments.length:Int)-1)=(f.Instruments.length:Int)-1:=by rw [w64]<;>omega
 simp only [hw,hw2]
 rw [Xn,Xn,Xn,Xn,Xn,WX,WX,WX,WX,WX]
 simp only [Option.bind_some,Bool.not_not]
 cases ho:X3 0 ((f.Instruments.length:Int)-1) [x.Instrument]
 ·simp at ho
  have hj:x.Instrument.toNat<f.Instruments.length:=by omega
  have e1:decide (0≤x.Instrument)=true:=by simp;omega
  have e2:decide (x.Instrument<(f.Instruments.length:Int))=true:=by simp;omega
  have hio:X16 f x.Instrument=f.Instruments[x.Instrument.toNat]:=X0 _ _ _ hj
  rw [hio]
  simp only [cond_false,Bool.false_eq_true,if_false,e1,e2,Bool.and_self,cond_true,X0 _ _ _ hj]
  cases hL:f.Instruments[x.Instrument.toNat].Lead
  ·simp only [cond_false,Bool.false_eq_true,if_false]
   cases hmk:X3 0 ((f.Chart.Marks.length:Int)-1) [x.Mark]
   ·simp at hmk
    have hj2:x.Mark.toNat<f.Chart.Marks.length:=by omega
    have e3:decide (0≤x.Mark)=true:=by simp;omega
    have e4:decide (x.Mark<(f.Chart.Marks.length:Int))=true:=by simp;omega
    have hp:=(hg.mark _ (List.getElem_mem hj2)).2
    simp only [cond_false,Bool.false_eq_true,if_false,e3,e4,Bool.and_self,cond_true,X0 _ _ _ hj2]
    rw [X62 _ _ (by omega)]
    unfold X3Q Z8y
    rw [X0 _ _ _ hj2]
    simp only [Option.bind_some]
    by_cases h0:X4F f.Chart.Marks[x.Mark.toNat] f.Day=0
    ·simp [h0]
    ·simp only [X5C h0,WY h0,cond_false,Bool.true_eq_false,if_false]
     cases X3 0 31 [x.Shown]
     ·by_cases h5:x.Ground=0<;>simp [h5,WY]
     ·simp
   ·simp
  ·simp only [cond_true,if_true]
   cases X3 0 1000 [x.Shown]
   ·cases X3 0 4 [x.Ground]
    ·by_cases h5:x.Mark=0<;>simp [h5,WY]
    ·simp
   ·simp
 ·simp

def Xw (f:ZJ):Nat→List Zn→Int×Int
 | _,[]=>(0,0)
 | i,x::l=>if X17 f x=0 then Xw f (i+1) l else ((i:Int),X17 f x)
def X1s (f:ZJ) (l:List Zn):Int×Int:=if (X2e f).2.2≠0 then (0,(X2e f).2.2) else if 8<l.length then (0,3) else Xw f 0 l

theorem X3j (f:ZJ) (l:List Zn):X1m f l=some (X1s f l):=by
 rw [X3z];unfold XH X1s
 rw [X5a]
 simp only [Option.bind_some]
 by_cases h:(X2e f).2.2=0
 ·have hg:=X5Z h
  simp only [h,beq_self_eq_true,cond_true,bne_self_eq_false,cond_false,ne_eq,not_true,if_false]
  by_cases h8:8<l.length
  ·have:decide ((l.length:Int)>8)=true:=by simp;omega
   rw [this];simp [h8]
  ·have:decide ((l.length:Int)>8)=false:=by simp;omega
   rw [this]
   simp only [cond_false,h8,if_false]
   exact X6 (Xa l f) _ l.length (fun i (_:Unit)=>(i:Int)) (fun _ _=>True) (fun i _=>some (Xw f i (l.drop i)))
    (by
     intro b _ R
     simp [Xa,Xe,Xw])
    (by
     intro i b hi _ R hR
     have hR':=hR () trivial
     simp only [Xa,Xe]
     rw [List.drop_eq_getElem_cons hi]
     have hw:IntKind.wrap .i64 ((i:Int)+1)=((i+1:Nat):Int):=by rw [w64]<;>omega
     simp only [Int.toNat_natCast,X0 _ _ _ hi,hw,Xw]
     rw [X6u hg]
     have h1:decide ((i:Int)<↑l.length)=true:=by simp [hi]
     have h2:decide ((0:Int)≤↑i)=true:=by simp
     simp only [h1,h2,Bool.and_self,cond_true,Option.bind_some]
     by_cases he:X17 f l[i]=0
     ·simp only [he,bne_self_eq_false,cond_false,Option.bind_some,Sum.elim_inl,if_true]
      exact hR'
     ·simp [he,WY he]) 0 () (by omega) trivial
 ·simp [h,WY h,X5C h]

theorem X7e (f:ZJ) (hi:f.Instruments.length≤4):∃ kit,X2E f.Instruments (↑f.Instruments.length) (0,fun _=>0)=some kit∧Kit f kit:=by
 have key:∀ j i (b:Nat→Nat),f.Instruments.length-i=j→i≤f.Instruments.length→(∀ q,(h:q<f.Instruments.length)→q<i→b q=if f.Instruments[q].Lead then 2 else 1) →
   ∃ kit,Z8S (Wb f.Instruments (↑f.Instruments.length)) ((i:Int),b)=some kit∧Kit f kit:=fun j=>by
  induction j with
  | zero =>
   intro i b hj hil hb
   have:i=f.Instruments.length:=by omega
   subst this
   refine ⟨b,?_,fun q hq=>hb q hq hq⟩
   rw [←X22 (Z8S _ _),X3B]
   simp [Wb,Wr]
  | succ j ih =>
   intro i b hj hil hb
   have hlt:i<f.Instruments.length:=by omega
   have hw:IntKind.wrap .i64 ((i:Int)+1)=((i+1:Nat):Int):=by rw [w64]<;>omega
   have e1:decide ((i:Int)<↑f.Instruments.length)=true:=by simp [hlt]
   have e2:decide ((0:Int)≤↑i)=true:=by simp
   have e3:decide ((i:Int)<((4:Nat):Int))=true:=by simp;omega
   have e3':decide ((i:Int)<(4:Int))=true:=by simp;omega
   have e4:Nat.blt i 4=true:=by rw [Tr.blt_dec];simp;omega
   obtain ⟨kit,h1,h2⟩:=ih (i+1) (fun q=>if q=i then (if f.Instruments[i].Lead then 2 else 1) else b q) (by omega) (by omega) (fun q hq hq2=>by
    by_cases e:q=i
    ·subst e;simp
    ·simp only [e,if_false];exact hb q hq (by omega))
   refine ⟨kit,?_,h2⟩
   rw [←X22 (Z8S _ _),X3B]
   simp only [Wb,Wr,Int.toNat_natCast,X0 _ _ _ hlt,hw,e1,e2,e3,e3',e4,Bool.and_self,cond_true]
   have hfun:(fun j=>bif Nat.beq j i then 1+1 else bif Nat.beq j i then 1 else b j)=fun q=>if q=i then 2 else b q:=by
    funext q;rw [Tr.beq_dec];by_cases e:q=i<;>simp [e]
   have hfun2:(fun j=>bif Nat.beq j i then 1 else b j)=fun q=>if q=i then 1 else b q:=by
    funext q;rw [Tr.beq_dec];by_cases e:q=i<;>simp [e]
   rw [hfun,hfun2]
   cases hL:f.Instruments[i].Lead
   ·rw [hL] at h1
    simp only [Bool.false_eq_true,if_false] at h1
    simp only [cond_false,Option.bind_some,Sum.elim_inl]
    rw [X22];exact h1
   ·rw [hL] at h1
    simp only [if_true] at h1
    simp only [cond_true,Option.bind_some,Sum.elim_inl]
    rw [X22];exact h1
 exact key _ 0 _ rfl (by omega) (fun q _ h=>by omega)

theorem X6O {f:ZJ} (hg:X2m f) (l:List Zn) (h8:l.length≤8) {kit:Nat→Nat} (hk:Kit f kit) {γ:Type} (k:_→Option γ) :
  Option.bind (X2F l (↑l.length) (0,f,l,kit,[])) k=if (Xw f 0 l).2=0 then k (.inr (f,l,kit,[])) else k (.inl ((Xw f 0 l).2,(Xw f 0 l).1,f,l,kit,l.getD (Xw f 0 l).1.toNat ⟨0,0,0,0⟩,l.getD (Xw f 0 l).1.toNat ⟨0,0,0,0⟩,[])):=by
 refine (X6 (Wc l (↑l.length)) k l.length (fun i (_:Unit)=>((i:Int),f,l,kit,[])) (fun _ _=>True) (fun i _=>if (Xw f i (l.drop i)).2=0 then k (.inr (f,l,kit,[])) else k (.inl ((Xw f i (l.drop i)).2,(Xw f i (l.drop i)).1,f,l,kit,l.getD (Xw f i (l.drop i)).1.toNat ⟨0,0,0,0⟩,l.getD (Xw f i (l.drop i)).1.toNat ⟨0,0,0,0⟩,[])))
  (by
   intro b _ R
   simp [Wc,Ws,Xw])
  (by
   intro i b hi _ R hR
   have hR':=hR () trivial
   simp only [Wc,Ws]
   rw [List.drop_eq_getElem_cons hi]
   have hw:IntKind.wrap .i64 ((i:Int)+1)=((i+1:Nat):Int):=by rw [w64]<;>omega
   simp only [Int.toNat_natCast,X0 _ _ _ hi,hw,Xw]
   rw [X7M hg _ _ hk]
   have h1:decide ((i:Int)<↑l.length)=true:=by simp [hi]
   have h2:decide ((0:Int)≤↑i)=true:=by simp
   simp only [h1,h2,Bool.and_self,cond_true,Option.bind_some]
   by_cases he:X17 f l[i]=0
   ·simp only [he,bne_self_eq_false,cond_false,Option.bind_some,Sum.elim_inl,if_true]
    exact hR'
   ·simp only [WY he,cond_true,Option.bind_some,Sum.elim_inr,if_neg he]
    rw [show ((i:Int)).toNat=i from rfl,X0 _ _ _ hi]) 0 () (by omega) trivial).trans (by simp)

theorem X7H (f:ZJ) (l:List Zn):((X2e f).2.2≠0∨8<l.length)∧X2g (l,f)=some (.inl (X1s f l).2)∧(X1s f l).2≠0 ∨
  ∃ kit,X2m f∧l.length≤8∧Kit f kit∧X2g (l,f)=some (.inr ((X1s f l).2,f,l,kit,[])):=by
 rw [X54];unfold X1A
 rw [X42];unfold X1d
 rw [X4s]
 unfold X1s
 simp only [Option.bind_some]
 by_cases h:(X2e f).2.2=0
 ·have hg:=X5Z h
  simp only [h,bne_self_eq_false,cond_false,ne_eq,not_true,if_false]
  by_cases h8:8<l.length
  ·have:decide ((l.length:Int)>8)=true:=by simp;omega
   rw [this];simp [h8]
  ·have:decide ((l.length:Int)>8)=false:=by simp;omega
   rw [this]
   simp only [cond_false,h8,if_false]
   obtain ⟨kit,hk1,hk2⟩:=X7e f hg.inst.2
   refine .inr ⟨kit,hg,by omega,hk2,?_⟩
   rw [hk1,Option.bind_some]
   rw [X6O hg l (by omega) hk2]
   by_cases he:(Xw f 0 l).2=0<;>simp [he]
 ·left
  simp [h,WY h]
end Nore
open Go Go.Ab
namespace Nore

theorem X7L {β σ ω γ:Type} (st:σ→Option (σ⊕ω)) (k:ω→Option γ) (n:Nat) (emb:Nat→β→σ) (P:Nat→β→Prop) (Q:Nat→β→Option γ→Prop)
  (hd:∀ b,P n b→∀ R:σ→Option γ,Q n b (Option.bind (st (emb n b)) (Sum.elim R k)))
  (hn:∀ i b,i<n→P i b→∀ R:σ→Option γ,(∀ b',P (i+1) b'→Q (i+1) b' (R (emb (i+1) b')))→Q i b (Option.bind (st (emb i b)) (Sum.elim R k))) :
  ∀ i b,i≤n→P i b→Q i b (Option.bind (Z8S st (emb i b)) k):=by
 intro i b hi hP
 induction hj:n-i generalizing i b with
 | zero =>
  have:i=n:=by omega
  subst this
  rw [X3B];exact hd b hP _
 | succ j ih =>
  rw [X3B]
  exact hn i b (by omega) hP _ fun b' hb'=>ih (i+1) b' (by omega) hb' (by omega)

instance decPoint:DecidableEq Zu:=fun a b=>decidable_of_iff (a.X=b.X∧a.Y=b.Y) ⟨fun h=>Zu.ext h.1 h.2,fun h=>by subst h;exact ⟨rfl,rfl⟩⟩

def X47 (v:Zu):Int×Zu :=
 if 0≤v.X∧0<v.Y then (0,v) else if 0<v.X∧v.Y≤0 then (8,⟨-v.Y,v.X⟩) else if v.X≤0∧v.Y<0 then (16,⟨-v.X,-v.Y⟩) else (24,⟨v.Y,-v.X⟩)
def X7:List Zu:=[⟨0,1000⟩,⟨195,981⟩,⟨383,924⟩,⟨556,831⟩,⟨707,707⟩,⟨831,556⟩,⟨924,383⟩,⟨981,195⟩]
def X5M (v:Zu) (l:List Zu):Nat:=l.countP fun q=>decide (q.X*v.Y-q.Y*v.X≤0)
def X46 (v:Zu):Int:=(X47 v).1+(X5M (X47 v).2 X7:Nat)-1

theorem X7A {v:Zu} (hb : -60000≤v.X∧v.X≤60000 ∧ -60000≤v.Y∧v.Y≤60000) (h0:¬ (v.X=0∧v.Y=0)):0≤(X47 v).1∧(X47 v).1≤24∧0≤(X47 v).2.X∧(X47 v).2.X≤60000∧0<(X47 v).2.Y∧(X47 v).2.Y≤60000:=by
 unfold X47
 split
 ·simp only;omega
 ·split
  ·simp only;omega
  ·split<;>simp only<;>omega

theorem X72 {γ:Type} (v:Zu) (hb : -60000≤v.X∧v.X≤60000 ∧ -60000≤v.Y∧v.Y≤60000) (h0:¬ (v.X=0∧v.Y=0)) (k:Int×Zu→Option γ) :
  Option.bind (X1r (0,v)) k=k (X47 v):=by
 obtain ⟨x,y⟩:=v
 simp only at hb h0
 have stop:∀ (n:Int) (x y:Int),0≤x→0<y→Option.bind (Z8S X9 (n,⟨x,y⟩)) k=k (n,⟨x,y⟩):=fun n x y hx hy=>by
  rw [X3B]
  have e1:decide (x<0)=false:=by simp;omega
  have e2:decide (y≤0)=false:=by simp;omega
  simp only [X9,Xo,e1,e2,cond_false,Option.bind_some,Sum.elim_inr]
 have go:∀ (n:Int) (x y:Int),0≤n→n≤24 → -60000≤x→x≤60000 → -60000≤y→y≤60000→(x<0∨y≤0)→Option.bind (Z8S X9 (n,⟨x,y⟩)) k=Option.bind (Z8S X9 (n+8,⟨-y,x⟩)) k:=fun n x y h1 h2 h3 h4 h5 h6 h7=>by
  rw [X3B]
  have w1:IntKind.wrap .i64 (n+8)=n+8:=by rw [w64]<;>omega
  have w2:IntKind.wrap .i64 (0-y) = -y:=by rw [w64]<;>omega
  by_cases e1:x<0
  ·simp only [X9,Xo,e1,decide_true,cond_true,Option.bind_some,Sum.elim_inl,w1,w2]
  ·have e2:y≤0:=by omega
   simp only [X9,Xo,e1,e2,decide_true,decide_false,cond_true,cond_false,Option.bind_some,Sum.elim_inl,w1,w2]
 unfold X1r X47
 simp only
 by_cases c1:0≤x∧0<y
 ·rw [if_pos c1];exact stop _ _ _ c1.1 c1.2
 ·rw [if_neg c1]
  by_cases c2:0<x∧y≤0
  ·rw [if_pos c2,go 0 x y (by omega) (by omega) (by omega) (by omega) (by omega) (by omega) (by omega)]
   exact stop _ _ _ (by omega) (by omega)
  ·rw [if_neg c2]
   by_cases c3:x≤0∧y<0
   ·rw [if_pos c3,go 0 x y (by omega) (by omega) (by omega) (by omega) (by omega) (by omega) (by omega),go _ _ _ (by omega) (by omega) (by omega) (by omega) (by omega) (by omega) (by omega)]
    exact stop _ _ _ (by omega) (by omega)
   ·rw [if_neg c3,go 0 x y (by omega) (by omega) (by omega) (by omega) (by omega) (by omega) (by omega),go _ _ _ (by omega) (by omega) (by omega) (by omega) (by omega) (by omega) (by omega),go _ _ _ (by omega) (by omega) (by omega) (by omega) (by omega) (by omega) (by omega)]
    rw [show (- - y:Int)=y by omega]
    exact stop _ _ _ (by omega) (by omega)

theorem X73 {γ:Type} (q:Nat→Zu) (hq:∀ i,(h:i<8)→q i=X7[i]) (v:Zu) (hb:0≤v.X∧v.X≤60000∧0≤v.Y∧v.Y≤60000) (n:Int) (hn:0≤n∧n≤24) (k:Int→Option γ) :
  Option.bind (X2o q v (n,0)) k=k (n+(X5M v X7:Nat)):=by
 refine (X6 (XN q v) k 8 (fun i (b:Int)=>(b,(i:Int))) (fun i b=>0≤b∧b≤24+i) (fun i b=>k (b+(X5M v (X7.drop i):Nat))) ?_ ?_ 0 n (by omega) (by omega)).trans (by simp)
 ·intro b _ R
  simp [XN,XY,X5M,X7]
 ·intro i b hi hP R hR
  simp only [XN,XY]
  rw [List.drop_eq_getElem_cons (show i<X7.length from hi)]
  have hw:IntKind.wrap .i64 ((i:Int)+1)=((i+1:Nat):Int):=by rw [w64]<;>omega
  have hwb:IntKind.wrap .i64 (b+1)=b+1:=by rw [w64]<;>omega
  have e1:decide ((i:Int)<8)=true:=by simp;omega
  have e2:decide ((0:Int)≤↑i)=true:=by simp
  have e3:decide ((i:Int)<((8:Nat):Int))=true:=by simp;omega
  have hqb:0≤(X7[i]'hi).X∧(X7[i]'hi).X≤1000∧0≤(X7[i]'hi).Y∧(X7[i]'hi).Y≤1000:=by
   have:i=0∨i=1∨i=2∨i=3∨i=4∨i=5∨i=6∨i=7:=by omega
   rcases this with rfl|rfl|rfl|rfl|rfl|rfl|rfl|rfl<;>simp [X7]
  have b1:=X6Z (a:=(X7[i]'hi).X) (b:=v.Y) 1000 60000 (by omega) (by omega) (by omega) (by omega)
  have b2:=X6Z (a:=(X7[i]'hi).Y) (b:=v.X) 1000 60000 (by omega) (by omega) (by omega) (by omega)
  simp only [Int.toNat_natCast,hq i hi,hw,hwb]
  rw [w64 (x:=(X7[i]'hi).X*v.Y) (by omega) (by omega),w64 (x:=(X7[i]'hi).Y*v.X) (by omega) (by omega),w64 (x:=(X7[i]'hi).X*v.Y-_) (by omega) (by omega)]
  simp only [e1,e2,e3,Bool.and_self,cond_true]
  unfold X5M at hR ⊢
  generalize X7[i]'hi=Q at *
  by_cases h:Q.X*v.Y-Q.Y*v.X≤0
  ·rw [List.countP_cons_of_pos (by simpa using h)]
   simp only [h,decide_true,cond_true,Option.bind_some,Sum.elim_inl]
   rw [hR (b+1) (by omega)]
   congr 1
   push_cast
   omega
  ·rw [List.countP_cons_of_neg (by simpa using h)]
   simp only [h,decide_false,cond_false,Option.bind_some,Sum.elim_inl]
   exact hR b (by omega)

theorem X67 (v:Zu) (hb : -60000≤v.X∧v.X≤60000 ∧ -60000≤v.Y∧v.Y≤60000) (h0:¬ (v.X=0∧v.Y=0)):X3O v=some (X46 v):=by
 rw [X52];unfold X1x
 have hq:=X7A hb h0
 rw [X72 v hb h0,X73 _ (fun i hi=>by
   have:i=0∨i=1∨i=2∨i=3∨i=4∨i=5∨i=6∨i=7:=by omega
   rcases this with rfl|rfl|rfl|rfl|rfl|rfl|rfl|rfl<;>rfl) _ (by omega) _ (by omega)]
 have hc:X5M (X47 v).2 X7≤8:=List.countP_le_length (l:=X7)
 unfold X46
 rw [w64 (by omega) (by omega)]

theorem X7i {v:Zu} (hb : -60000≤v.X∧v.X≤60000 ∧ -60000≤v.Y∧v.Y≤60000) (h0:¬ (v.X=0∧v.Y=0)):0≤X46 v∧X46 v≤31:=by
 have hq:=X7A hb h0
 have hc:X5M (X47 v).2 X7≤8:=List.countP_le_length (l:=X7)
 have h1:1≤X5M (X47 v).2 X7:=by
  unfold X5M X7
  rw [List.countP_cons_of_pos (by simp;omega)]
  omega
 unfold X46
 omega

def X6o (f:ZJ) (mark:Int) (p:Zu):Int×Int :=
 if X3Q f mark=false then (0,9) else if X2R 30000 p then (0,7) else if (Z8y f mark).At=p then (0,8) else (X46 (Xg (Z8y f mark).At p),0)
def X3M (f:ZJ) (mark:Int) (p:Zu):Int:=if (X6o f mark p).2≠0 then -1 else (X6o f mark p).1

theorem X6Y {f:ZJ} (hg:X2m f) {mark:Int} (h0:0≤mark) (h1:mark<f.Chart.Marks.length):Bd 30000 (Z8y f mark).At:=by
 have hj:mark.toNat<f.Chart.Marks.length:=by omega
 have:=(hg.mark _ (List.getElem_mem hj)).1
 rw [X5x] at this
 unfold Z8y
 rw [X0 _ _ _ hj];exact this

theorem X6w {f:ZJ} (hg:X2m f) (mark:Int) (h0:0≤mark) (h1:mark<f.Chart.Marks.length) (p:Zu):X4O f.Chart f.Day mark p=some (X6o f mark p):=by
 rw [X5D];unfold X23 X6o
 rw [X4g];unfold WM
 rw [X4y hg mark h0 h1]
 have hb:=X6Y hg h0 h1
 unfold X3Q Z8y at *
 generalize hM:f.Chart.Marks.getD mark.toNat ⟨ByteArray.empty,⟨0,0⟩,[]⟩=M at *
 simp only [Option.bind_some,beq_self_eq_true,cond_true]
 by_cases hp:X4F M f.Day=0
 ·simp [hp]
 ·simp only [X5C hp,cond_false,Option.bind_some,bne_self_eq_false,WY hp,Bool.true_eq_false,if_false]
  rw [X4P _ (by omega) _ (by simp)]
  simp only [Option.bind_some,List.any_cons,List.any_nil,Bool.or_false]
  cases hf:X2R 30000 p
  ·rw [X5x] at hf
   unfold Bd at hb hf
   simp only [cond_false,Bool.false_eq_true,if_false,Bool.and_true]
   by_cases he:M.At=p
   ·subst he;simp
   ·have:(M.At.X==p.X&&M.At.Y==p.Y)=false:=by
     cases hc:(M.At.X==p.X&&M.At.Y==p.Y)
     ·rfl
     ·exfalso;simp at hc;exact he (Zu.ext hc.1 hc.2)
    rw [this,if_neg he]
    simp only [cond_false]
    rw [w64 (x:=M.At.X-p.X) (by omega) (by omega),w64 (x:=M.At.Y-p.Y) (by omega) (by omega)]
    have h00:¬ (M.At.X-p.X=0∧M.At.Y-p.Y=0):=fun q=>he (Zu.ext (by omega) (by omega))
    rw [X67 _ (by simp only;omega) h00]
    rfl
  ·simp

theorem X7Z {f:ZJ} (hg:X2m f) {mark:Int} (h0:0≤mark) (h1:mark<f.Chart.Marks.length) (p:Zu) : -1≤X3M f mark p∧X3M f mark p≤31:=by
 have hb:=X6Y hg h0 h1
 unfold X3M X6o
 by_cases h:X3Q f mark=false
 ·simp [h]
 ·rw [if_neg h]
  by_cases h3:X2R 30000 p=true
  ·simp [h3]
  ·rw [if_neg h3]
   by_cases h4:(Z8y f mark).At=p
   ·simp [h4]
   ·rw [if_neg h4]
    simp only [Bool.not_eq_true] at h3
    rw [X5x] at h3
    unfold Bd at hb h3
    have:=X7i (v:=Xg (Z8y f mark).At p) (by unfold Xg;simp only;omega) (fun q=>h4 (by unfold Xg at q;simp only at q;exact Zu.ext (by omega) (by omega)))
    simp only [ne_eq,not_true,if_false]
    omega

theorem X4X (a b:Zh):Zh.eqb a b=true↔a=b:=by
 obtain ⟨m,⟨x,y⟩⟩:=a
 obtain ⟨m',⟨x',y'⟩⟩:=b
 simp [Zh.eqb]
theorem X6k {v:Int} (s k:Zh):∀ m:List (Zh×Int),Z8z Zh.eqb s (Zgh Zh.eqb k v m)=bif Zh.eqb s k then some v else Z8z Zh.eqb s m
 | []=>by
  simp only [Zgh,Z8z]
 | (a,b)::m=>by
  have ih:=X6k (v:=v) s k m
  simp only [Zgh]
  have sym:∀ x y,Zh.eqb x y=Zh.eqb y x:=fun x y=>by
   cases h:Zh.eqb y x with
   | true=>rw [(X4X _ _).1 h,(X4X x x).2 rfl]
   | false=>cases h2:Zh.eqb x y with
    | false=>rfl
    | true=>rw [(X4X _ _).1 h2,(X4X y y).2 rfl] at h;cases h
  cases e:Zh.eqb a k with
  | true =>
   have:=(X4X _ _).1 e
   subst this
   simp only [e,cond_true,Z8z]
   cases Zh.eqb s a<;>rfl
  | false =>
   have e6:Zh.eqb k a=false:=by rw [sym];exact e
   simp only [e,e6,cond_false,Z8z,ih]
   cases h:Zh.eqb s k with
   | true =>
    have:=(X4X _ _).1 h
    subst this
    simp [e,e6]
   | false=>rfl

def X4q (f:ZJ) (m:List (Zh×Int)):Prop:=∀ (mark:Int) p n,0≤mark→mark<f.Chart.Marks.length→Z8z Zh.eqb ⟨mark,p⟩ m=some n→n=X3M f mark p
theorem X7n (f:ZJ):X4q f []:=fun _ _ _ _ _ h=>by cases h

theorem X7y {f:ZJ} (hg:X2m f) {mark:Int} (h0:0≤mark) (h1:mark<f.Chart.Marks.length) (p:Zu) (l:List Zn) (kit:Nat→Nat) {m:List (Zh×Int)} (hm:X4q f m) :
  ∃ m',X4q f m'∧XC (mark,p,f,l,kit,m)=some (X3M f mark p,f,l,kit,m'):=by
 rw [X35];unfold Xs
 cases hf:Z8z Zh.eqb ⟨mark,p⟩ m with
 | some n=>exact ⟨m,hm,by simp only [hf,Option.isSome_some,Bool.not_true,cond_false,Option.getD_some];rw [hm _ _ _ h0 h1 hf]⟩
 | none =>
  simp only [hf,Option.isSome_none,Bool.not_false,cond_true]
  rw [X6w hg mark h0 h1]
  have put:∀ v,v=X3M f mark p→X4q f (Zgh Zh.eqb ⟨mark,p⟩ v m):=fun v hv mk q n k0 k1 hq=>by
   rw [X6k] at hq
   cases e:Zh.eqb ⟨mk,q⟩ ⟨mark,p⟩ with
   | true =>
    rw [e] at hq
    cases (X4X _ _).1 e;cases hq;exact hv
   | false =>
    rw [e] at hq
    exact hm _ _ _ k0 k1 hq
  simp only [Option.bind_some]
  by_cases he:(X6o f mark p).2=0
  ·have hs:X3M f mark p=(X6o f mark p).1:=by unfold X3M;rw [if_neg (by simp [he])]
   refine ⟨_,put _ hs.symm,?_⟩
   simp only [he,bne_self_eq_false,cond_false,hs]
  ·have hs:X3M f mark p = -1:=by unfold X3M;rw [if_pos he]
   refine ⟨_,put _ hs.symm,?_⟩
   simp only [WY he,cond_true,hs]

def X7E (shown Z5R:Int):Int:=if (shown-Z5R+32) % 32>16 then (shown-Z5R+32) % 32-32 else (shown-Z5R+32) % 32
def X3E (a:Zt) (p:Zu):Bool := !X3 a.X.Lo a.X.Hi [p.X] && !X3 a.Y.Lo a.Y.Hi [p.Y]
def X5L (f:ZJ) (p:Zu):Option Zt:=f.Areas.find? fun a=>X3E a p
def X2h (f:ZJ) (p:Zu) (x:Zn):ZE×Bool :=
 if (X16 f x.Instrument).Lead then (match X5L f p with
  | none=>(⟨-20,20⟩,true)
  | some a=>(⟨x.Shown-a.Depth.Hi,x.Shown-a.Depth.Lo⟩,x.Ground==0||x.Ground==a.Ground))
 else (⟨X7E x.Shown (X3M f x.Mark p),X7E x.Shown (X3M f x.Mark p)⟩,decide (X3M f x.Mark p≥0))

theorem X4M {f:ZJ} {x:Zn} (h:X17 f x=0):(0≤x.Instrument∧x.Instrument<f.Instruments.length)∧((X16 f x.Instrument).Lead=true→0≤x.Shown∧x.Shown≤1000∧0≤x.Ground∧x.Ground≤4∧x.Mark=0) ∧
  ((X16 f x.Instrument).Lead=false→0≤x.Mark∧x.Mark<f.Chart.Marks.length∧X3Q f x.Mark=true∧0≤x.Shown∧x.Shown≤31∧x.Ground=0):=by
 unfold X17 at h
 cases h1:X3 0 ((f.Instruments.length:Int)-1) [x.Instrument]
 ·rw [h1] at h
  simp only [Bool.false_eq_true,if_false] at h
  simp at h1
  refine ⟨by omega,fun hL => ?_,fun hL => ?_⟩
  ·rw [if_pos hL] at h
   cases h2:X3 0 1000 [x.Shown]
   ·cases h3:X3 0 4 [x.Ground]
    ·rw [h2,h3] at h
     simp at h h2 h3
     omega
    ·rw [h2,h3] at h;simp at h
   ·rw [h2] at h;simp at h
  ·rw [if_neg (by simp [hL])] at h
   cases h2:X3 0 ((f.Chart.Marks.length:Int)-1) [x.Mark]
   ·rw [h2] at h
    cases h3:X3Q f x.Mark
    ·rw [h3] at h;simp at h
    ·cases h4:X3 0 31 [x.Shown]
     ·rw [h3,h4] at h
      simp at h h2 h4
      exact ⟨by omega,by omega,rfl,by omega,by omega,by omega⟩
     ·rw [h3,h4] at h;simp at h
   ·rw [h2] at h;simp at h
 ·rw [h1] at h;simp at h

theorem X79 {f:ZJ} (hg:X2m f) {x:Zn} (hx:X17 f x=0) (hL:(X16 f x.Instrument).Lead=false) (p:Zu) (l:List Zn) (kit:Nat→Nat) {m:List (Zh×Int)} (hm:X4q f m) :
  ∃ m',X4q f m'∧Xf (p,x,f,l,kit,m)=some ((X2h f p x).1,(X2h f p x).2,f,l,kit,m'):=by
 obtain ⟨h1,_,h3⟩:=X4M hx
 have h3:=h3 hL
 obtain ⟨m',hm',ht⟩:=X7y hg h3.1 h3.2.1 p l kit hm
 refine ⟨m',hm',?_⟩
 rw [X37];unfold Xt X2h X7E
 rw [ht,if_neg (by simp [hL])]
 have hs:=X7Z hg h3.1 h3.2.1 p
 generalize X3M f x.Mark p=s at *
 simp only [Option.bind_some]
 rw [w64 (x:=x.Shown-s) (by omega) (by omega),w64 (x:=x.Shown-s+32) (by omega) (by omega)]
 have ht:(x.Shown-s+32).tmod 32=(x.Shown-s+32) % 32:=Int.tmod_eq_emod_of_nonneg (by omega)
 rw [ht]
 by_cases hc:(x.Shown-s+32) % 32>16
 ·have hw:IntKind.wrap .i64 ((x.Shown-s+32) % 32-32)=(x.Shown-s+32) % 32-32:=by rw [w64]<;>omega
  simp only [hc,decide_true,cond_true,if_true,hw]
 ·simp only [hc,decide_false,cond_false,if_false]

theorem X7z {a:Zt} (h:X4e a=0):0≤a.Depth.Lo∧a.Depth.Lo≤a.Depth.Hi∧a.Depth.Hi≤1000∧a.X.Lo≤a.X.Hi∧a.Y.Lo≤a.Y.Hi∧1≤a.Ground∧a.Ground≤4:=by
 unfold X4e at h
 cases h1:(X3 (-30000) 30000 [a.X.Lo,a.X.Hi,a.Y.Lo,a.Y.Hi]||X3 0 1000 [a.Depth.Lo,a.Depth.Hi]||X3 1 4 [a.Ground])
 ·rw [h1] at h
  simp at h h1
  omega
 ·rw [h1] at h;simp at h

theorem X7S {f:ZJ} (hg:X2m f) {x:Zn} (hx:X17 f x=0) (hL:(X16 f x.Instrument).Lead=true) (p:Zu) (l:List Zn) (kit:Nat→Nat) (m:List (Zh×Int)) :
  XO (p,x,f,l,kit,m)=some ((X2h f p x).1,(X2h f p x).2,f,l,kit,m):=by
 obtain ⟨h1,h2,_⟩:=X4M hx
 have h2:=h2 hL
 rw [X3H];unfold XZ X2h
 rw [if_pos hL]
 have ha:=hg.areas
 refine (X6 (Xd (↑f.Areas.length) f.Areas p) _ f.Areas.length (fun i (_:Unit)=>(i:Int)) (fun _ _=>True) (fun i _=>match (f.Areas.drop i).find? fun a=>X3E a p with
   | none=>some (⟨-20,20⟩,true,f,l,kit,m)
   | some a=>some (⟨x.Shown-a.Depth.Hi,x.Shown-a.Depth.Lo⟩,x.Ground==0||x.Ground==a.Ground,f,l,kit,m)) ?_ ?_ 0 () (by omega) trivial).trans ?_
 ·intro b _ R
  simp [Xd,Xl]
 ·intro i b hi _ R hR
  have hR':=hR () trivial
  have hab:=X7z (hg.area _ (List.getElem_mem hi))
  simp only [Xd,Xl]
  rw [List.drop_eq_getElem_cons hi,List.find?_cons]
  have hw:IntKind.wrap .i64 ((i:Int)+1)=((i+1:Nat):Int):=by rw [w64]<;>omega
  simp only [Int.toNat_natCast,X0 _ _ _ hi,hw]
  rw [X2 _ _ _ (by simp),X2 _ _ _ (by simp)]
  have e1:decide ((i:Int)<↑f.Areas.length)=true:=by simp [hi]
  have e2:decide ((0:Int)≤↑i)=true:=by simp
  have e3:decide ((i:Int)<0)=false:=by simp
  simp only [e1,e2,Bool.and_self,cond_true,Option.bind_some]
  have w1:IntKind.wrap .i64 (x.Shown-f.Areas[i].Depth.Hi)=x.Shown-f.Areas[i].Depth.Hi:=by rw [w64]<;>omega
  have w2:IntKind.wrap .i64 (x.Shown-f.Areas[i].Depth.Lo)=x.Shown-f.Areas[i].Depth.Lo:=by rw [w64]<;>omega
  cases o1:X3 f.Areas[i].X.Lo f.Areas[i].X.Hi [p.X]
  ·cases o2:X3 f.Areas[i].Y.Lo f.Areas[i].Y.Hi [p.Y]
   ·have:X3E f.Areas[i] p=true:=by unfold X3E;rw [o1,o2];rfl
    simp only [this,Bool.not_false,cond_true,Option.bind_some,Sum.elim_inr,Sum.elim_inl,e3,cond_false,e1,e2,Bool.and_self,Int.toNat_natCast,X0 _ _ _ hi,w1,w2]
    by_cases hG:x.Ground=0
    ·simp [hG]
    ·simp [X5C hG]
   ·have:X3E f.Areas[i] p=false:=by unfold X3E;rw [o1,o2];rfl
    simp only [this,Bool.not_false,Bool.not_true,cond_true,cond_false,Option.bind_some,Sum.elim_inl]
    exact hR'
  ·have:X3E f.Areas[i] p=false:=by unfold X3E;rw [o1];rfl
   simp only [this,Bool.not_true,cond_false,Option.bind_some,Sum.elim_inl]
   exact hR'
 ·simp only [List.drop_zero,X5L]
  cases f.Areas.find? fun a=>X3E a p<;>rfl
end Nore
open Go Go.Ab
namespace Nore

def X6J (x k:Int):Bool:=IntKind.wrap IntKind.i64 (↑(BitVec.toNat (BitVec.ofInt (IntKind.bits IntKind.i64) (Int.fdiv x (2 ^ min (Int.toNat k) (IntKind.bits IntKind.i64))) &&& BitVec.ofInt (IntKind.bits IntKind.i64) 1)):Int)==1
theorem X7D (k:Int):X6J 0 k=false:=by
 unfold X6J
 rw [show Int.fdiv 0 (2 ^ min (Int.toNat k) (IntKind.bits IntKind.i64))=0 from Int.zero_fdiv _]
 decide

def X3k (f:ZJ) (ib mb:Int) (x:Zn):Bool:=X6J ib x.Instrument||(!(X16 f x.Instrument).Lead&&X6J mb x.Mark)
def X4Q (n a:ZE):ZE:=⟨if a.Lo>n.Lo then a.Lo else n.Lo,if a.Hi<n.Hi then a.Hi else n.Hi⟩
def atL (f:ZJ) (p:Zu) (ib mb:Int):(Nat→ZE)→List Zn→(Nat→ZE)×Bool
 | s,[]=>(s,true)
 | s,x::l=>if X3k f ib mb x then atL f p ib mb s l else
  if (X2h f p x).2=false∨(X4Q (X2h f p x).1 (s x.Instrument.toNat)).Lo>(X4Q (X2h f p x).1 (s x.Instrument.toNat)).Hi then (s,false) else
  atL f p ib mb (fun j=>if j=x.Instrument.toNat then X4Q (X2h f p x).1 (s x.Instrument.toNat) else s j) l
def X5 (f:ZJ) (i:Nat):ZE:=if h:i<f.Instruments.length then f.Instruments[i].Off else ⟨0,0⟩
def atN (f:ZJ) (l:List Zn) (p:Zu) (ib mb:Int):(Nat→ZE)×Bool:=atL f p ib mb (X5 f) l

theorem X7Q {γ:Type} (f:ZJ) (hi4:f.Instruments.length≤4) (x0 x2:Int) (l:List Zn) (kit:Nat→Nat) (m:List (Zh×Int)) (p:Zu) (k:(Nat→ZE)→Option γ) :
  Option.bind (X1J (↑f.Instruments.length) x0 x2 f.Instruments f l kit m p (0,fun _=>⟨0,0⟩)) k=k (X5 f):=by
 refine (X6 (Xh (↑f.Instruments.length) x0 x2 f.Instruments f l kit m p) k f.Instruments.length (fun i (b:Nat→ZE)=>((i:Int),b)) (fun i b=>∀ j,b j=if j<i then X5 f j else ⟨0,0⟩) (fun _ _=>k (X5 f)) ?_ ?_ 0 _ (by omega) (fun j=>by simp))
 ·intro b hb R
  have:b=X5 f:=by
   funext j
   rw [hb]
   by_cases h:j<f.Instruments.length
   ·simp [h]
   ·simp [h,X5]
  simp [Xh,Xp,this]
 ·intro i b hi hb R hR
  have hw:IntKind.wrap .i64 ((i:Int)+1)=((i+1:Nat):Int):=by rw [w64]<;>omega
  have e1:decide ((i:Int)<↑f.Instruments.length)=true:=by simp [hi]
  have e2:decide ((0:Int)≤↑i)=true:=by simp
  have e3:decide ((i:Int)<((4:Nat):Int))=true:=by simp;omega
  have e3':decide ((i:Int)<(4:Int))=true:=by simp;omega
  have e4:Nat.blt i 4=true:=by rw [Tr.blt_dec];simp;omega
  simp only [Xh,Xp,Int.toNat_natCast,X0 _ _ _ hi,hw,e1,e2,e3,e3',e4,Bool.and_self,cond_true,Option.bind_some,Sum.elim_inl]
  refine hR _ fun j => ?_
  rw [Tr.beq_dec]
  by_cases e:j=i
  ·subst e;simp [X5,hi]
  ·simp only [e,decide_false,cond_false,hb j]
   by_cases h:j<i
   ·simp [h,show j<i+1 by omega]
   ·simp [h,show ¬ j<i+1 by omega]

theorem X81 {f:ZJ} (hg:X2m f) {l:List Zn} (hl:∀ x∈l,X17 f x=0) (hll:l.length≤8) {kit:Nat→Nat} (hk:Kit f kit) {m:List (Zh×Int)} (hm:X4q f m) (p:Zu) (ib mb:Int) :
  ∃ m',X4q f m'∧Xm (ib,p,mb,f,l,kit,m)=some ((atN f l p ib mb).1,(atN f l p ib mb).2,f,l,kit,m'):=by
 rw [X3Z];unfold Wq atN
 rw [X7Q f hg.inst.2]
 have main:=X7L (Xi ib l mb (↑l.length) p) (fun o=>Sum.elim (fun (y:Bool×(Nat→ZE)×ZJ×List Zn×(Nat→Nat)×ZE×List (Zh×Int)×Zn)=>some (y.snd.fst,y.fst,y.snd.snd.fst,y.snd.snd.snd.fst,y.snd.snd.snd.snd.fst,y.snd.snd.snd.snd.snd.snd.fst)) (fun y=>Sum.elim (fun (y:Bool×(Nat→ZE)×ZJ×List Zn×(Nat→Nat)×ZE×List (Zh×Int)×Zn)=>some (y.snd.fst,y.fst,y.snd.snd.fst,y.snd.snd.snd.fst,y.snd.snd.snd.snd.fst,y.snd.snd.snd.snd.snd.snd.fst)) (fun (y:(Nat→ZE)×ZJ×List Zn×(Nat→Nat)×List (Zh×Int))=>some (y.fst,true,y.snd.fst,y.snd.snd.fst,y.snd.snd.snd.fst,y.snd.snd.snd.snd)) y) o) l.length
  (fun i (b:(Nat→ZE)×List (Zh×Int))=>((i:Int),b.1,f,l,kit,b.2)) (fun _ b=>X4q f b.2) (fun i b r=>∃ m',X4q f m'∧r=some ((atL f p ib mb b.1 (l.drop i)).1,(atL f p ib mb b.1 (l.drop i)).2,f,l,kit,m'))
  (by
   intro b hb R
   refine ⟨b.2,hb,?_⟩
   simp [Xi,Xq,atL])
  (by
   intro i b hi hb R hR
   have hx:=hl _ (List.getElem_mem hi)
   obtain ⟨x,hxd⟩:∃ x,l[i]=x:=⟨_,rfl⟩
   rw [hxd] at hx
   have hgd:l.getD i ⟨0,0,0,0⟩=x:=(X0 _ _ _ hi).trans hxd
   obtain ⟨h1,h2,h3⟩:=X4M hx
   have hi4:=hg.inst.2
   have hw:IntKind.wrap .i64 ((i:Int)+1)=((i+1:Nat):Int):=by rw [w64]<;>omega
   have e1:decide ((i:Int)<↑l.length)=true:=by simp [hi]
   have e2:decide ((0:Int)≤↑i)=true:=by simp
   simp only [Xi,Xq,Int.toNat_natCast,hgd,hw,e1,e2,Bool.and_self,cond_true]
   rw [List.drop_eq_getElem_cons hi,hxd]
   have hj:x.Instrument.toNat<f.Instruments.length:=by omega
   have i1:decide (0≤x.Instrument)=true:=by simp;omega
   have i2:decide (x.Instrument<((4:Nat):Int))=true:=by simp;omega
   have i2':decide (x.Instrument<(4:Int))=true:=by simp;omega
   have i3:Nat.blt x.Instrument.toNat 4=true:=by rw [Tr.blt_dec];simp;omega
   have i4:decide (x.Instrument<0)=false:=by simp;omega
   have hkk:=hk _ hj
   have hio:X16 f x.Instrument=f.Instruments[x.Instrument.toNat]:=X0 _ _ _ hj
   have hcut:∀ (n a:ZE),(⟨bif decide (a.Lo>n.Lo) then a.Lo else n.Lo,bif decide (a.Hi<n.Hi) then a.Hi else n.Hi⟩:ZE)=X4Q n a:=fun n a=>by
    unfold X4Q
    by_cases c1:a.Lo>n.Lo<;>by_cases c2:a.Hi<n.Hi<;>simp [c1,c2]
   have hcut1:∀ (n a:ZE),(bif decide (a.Lo>n.Lo) then a.Lo else n.Lo)=(X4Q n a).Lo:=fun n a=>by rw [←hcut]
   have hcut2:∀ (n a:ZE),(bif decide (a.Hi<n.Hi) then a.Hi else n.Hi)=(X4Q n a).Hi:=fun n a=>by rw [←hcut]
   have hfun:∀ (c:ZE) (s:Nat→ZE),(fun j=>bif Nat.beq j x.Instrument.toNat then c else s j)=fun j=>if j=x.Instrument.toNat then c else s j:=fun c s=>by
    funext j;rw [Tr.beq_dec];by_cases e:j=x.Instrument.toNat<;>simp [e]
   simp only [i1,i2,i2',i3,i4,Bool.and_self,cond_true,cond_false,atL]
   rcases Bool.eq_false_or_eq_true (X16 f x.Instrument).Lead with hL|hL
   rotate_left
   ·rw [←hio,hL] at hkk
    simp only [Bool.false_eq_true,if_false] at hkk
    have h3:=h3 hL
    have i5:decide (x.Mark<0)=false:=by simp;omega
    simp only [hkk,show Nat.beq 1 0=false from rfl,show Nat.beq 1 1=true from rfl,cond_false,cond_true,i5]
    have hib:(IntKind.wrap IntKind.i64 (↑(BitVec.toNat (BitVec.ofInt (IntKind.bits IntKind.i64) (Int.fdiv ib (2 ^ min (Int.toNat x.Instrument) (IntKind.bits IntKind.i64))) &&& BitVec.ofInt (IntKind.bits IntKind.i64) 1)):Int)==1)=X6J ib x.Instrument:=rfl
    have hmb:(IntKind.wrap IntKind.i64 (↑(BitVec.toNat (BitVec.ofInt (IntKind.bits IntKind.i64) (Int.fdiv mb (2 ^ min (Int.toNat x.Mark) (IntKind.bits IntKind.i64))) &&& BitVec.ofInt (IntKind.bits IntKind.i64) 1)):Int)==1)=X6J mb x.Mark:=rfl
    rw [hib,hmb]
    rcases Bool.eq_false_or_eq_true (X6J ib x.Instrument) with hb1|hb1
    rotate_left
    ·rcases Bool.eq_false_or_eq_true (X6J mb x.Mark) with hb2|hb2
     rotate_left
     ·have hsk:X3k f ib mb x=false:=by unfold X3k;rw [hL,hb1,hb2];rfl
      simp only [hb1,hb2,cond_false,hsk,Bool.false_eq_true,if_false]
      obtain ⟨m',hm',hc⟩:=X79 hg hx hL p l kit hb
      rw [hc]
      simp only [Option.bind_some,hcut,hcut1,hcut2,hfun]
      cases ho:(X2h f p x).2
      ·exact ⟨m',hm',by simp⟩
      ·by_cases hc:(X4Q (X2h f p x).1 (b.1 x.Instrument.toNat)).Lo>(X4Q (X2h f p x).1 (b.1 x.Instrument.toNat)).Hi
       ·exact ⟨m',hm',by simp [hc]⟩
       ·simp only [Bool.not_true,cond_false,hc,decide_false,Option.bind_some,Sum.elim_inl,Bool.true_eq_false,or_self,if_false]
        exact hR (_,m') hm'
     ·have hsk:X3k f ib mb x=true:=by unfold X3k;rw [hL,hb1,hb2];rfl
      simp only [hb1,hb2,cond_true,cond_false,Option.bind_some,Sum.elim_inl,hsk,if_true]
      exact hR b hb
    ·have hsk:X3k f ib mb x=true:=by unfold X3k;rw [hb1];rfl
     simp only [hb1,cond_true,Option.bind_some,Sum.elim_inl,hsk,if_true]
     exact hR b hb
   ·rw [←hio,hL] at hkk
    simp only [if_true] at hkk
    have h2:=h2 hL
    simp only [hkk,show Nat.beq 2 0=false from rfl,show Nat.beq 2 1=false from rfl,show Nat.beq 2 (1+1)=true from rfl,cond_false,cond_true]
    have hib:(IntKind.wrap IntKind.i64 (↑(BitVec.toNat (BitVec.ofInt (IntKind.bits IntKind.i64) (Int.fdiv ib (2 ^ min (Int.toNat x.Instrument) (IntKind.bits IntKind.i64))) &&& BitVec.ofInt (IntKind.bits IntKind.i64) 1)):Int)==1)=X6J ib x.Instrument:=rfl
    rw [hib]
    rcases Bool.eq_false_or_eq_true (X6J ib x.Instrument) with hb1|hb1
    rotate_left
    ·have hsk:X3k f ib mb x=false:=by unfold X3k;rw [hL,hb1];rfl
     simp only [hb1,cond_false,hsk,Bool.false_eq_true,if_false]
     rw [X7S hg hx hL p l kit]
     simp only [Option.bind_some,hcut,hcut1,hcut2,hfun]
     cases ho:(X2h f p x).2
     ·exact ⟨b.2,hb,by simp⟩
     ·by_cases hc:(X4Q (X2h f p x).1 (b.1 x.Instrument.toNat)).Lo>(X4Q (X2h f p x).1 (b.1 x.Instrument.toNat)).Hi
      ·exact ⟨b.2,hb,by simp [hc]⟩
      ·simp only [Bool.not_true,cond_false,hc,decide_false,Option.bind_some,Sum.elim_inl,Bool.true_eq_false,or_self,if_false]
       exact hR (_,b.2) hb
    ·have hsk:X3k f ib mb x=true:=by unfold X3k;rw [hb1];rfl
     simp only [hb1,cond_true,Option.bind_some,Sum.elim_inl,hsk,if_true]
     exact hR b hb)
 have:=main 0 (X5 f,m) (by omega) hm
 unfold X1K
 simpa using this
end Nore
open Go Go.Ab
namespace Nore

def X7B (f:ZJ) (x y:Int):Nat→List Zu
 | 0=>[]
 | n+1=>⟨x*f.Step,y*f.Step⟩::X7B f x (y+1) n
def X80 (f:ZJ):Nat:=(2*f.Half+1).toNat
def X7a (f:ZJ) (x:Int):Nat→List Zu
 | 0=>[]
 | n+1=>X7B f x (-f.Half) (X80 f)++X7a f (x+1) n
def X89 (f:ZJ):List Zu:=X7a f (-f.Half) (X80 f)
def X7Y (f:ZJ) (l:List Zn):List Zu:=(X89 f).filter fun p=>(atN f l p 0 0).2

structure X86 (f:ZJ) (l:List Zn):Prop where
 fix:X2m f
 len:l.length≤8
 each:∀ x∈l,X17 f x=0
theorem X6Q (f:ZJ):∀ (l:List Zn) (i:Nat),(Xw f i l).2=0→∀ x∈l,X17 f x=0
 | [],_,_,m,hm=>by cases hm
 | x::l,i,h,m,hm=>by
  simp only [Xw] at h
  by_cases h0:X17 f x=0
  ·simp only [h0,if_true] at h
   rcases List.mem_cons.1 hm with e|e
   ·subst e;exact h0
   ·exact X6Q f l _ h m e
  ·simp only [h0,if_false] at h
theorem X5m {f:ZJ} {l:List Zn} (h:(X1s f l).2=0):X86 f l:=by
 unfold X1s at h
 by_cases h1:(X2e f).2.2=0
 ·simp only [h1,ne_eq,not_true,if_false] at h
  by_cases h8:8<l.length
  ·rw [if_pos h8] at h;simp at h
  ·rw [if_neg h8] at h
   exact ⟨X5Z h1,by omega,X6Q f l 0 h⟩
 ·rw [if_pos h1] at h;exact absurd h h1
end Nore
open Go Go.Ab
namespace Nore

def inS (v:Int) (s:ZE):Prop:=s.Lo≤v∧v≤s.Hi
def X6v (f:ZJ) (p:Zu) (ib mb:Int) (s:Nat→ZE) (l:List Zn) (i:Nat) (v:Int):Prop :=
 inS v (s i)∧∀ x∈l,X3k f ib mb x=false→x.Instrument.toNat=i→(X2h f p x).2=true∧inS v (X2h f p x).1

theorem X6z (n a:ZE) (v:Int):inS v (X4Q n a)↔inS v n∧inS v a:=by
 unfold inS X4Q
 constructor
 ·rintro ⟨h1,h2⟩
  simp only at h1 h2
  split at h1<;>split at h2<;>omega
 ·rintro ⟨h1,h2⟩
  simp only
  constructor<;>split<;>omega

theorem X5z {f:ZJ} {p:Zu} {ib mb:Int} {s:Nat→ZE} {x:Zn} {l:List Zn} {i:Nat} {v:Int} :
  X6v f p ib mb s (x::l) i v↔X6v f p ib mb s l i v∧(X3k f ib mb x=false→x.Instrument.toNat=i→(X2h f p x).2=true∧inS v (X2h f p x).1):=by
 unfold X6v
 constructor
 ·rintro ⟨h1,h2⟩
  exact ⟨⟨h1,fun y hy=>h2 y (by simp [hy])⟩,h2 x (by simp)⟩
 ·rintro ⟨⟨h1,h2⟩,h3⟩
  refine ⟨h1,fun y hy => ?_⟩
  rcases List.mem_cons.1 hy with e|e
  ·subst e;exact h3
  ·exact h2 y e

theorem X5d (f:ZJ) (p:Zu) (ib mb:Int):∀ (l:List Zn) (s:Nat→ZE),(∀ i,(s i).Lo≤(s i).Hi) →
  ((atL f p ib mb s l).2=true→(∀ i,((atL f p ib mb s l).1 i).Lo≤((atL f p ib mb s l).1 i).Hi)∧∀ i v,inS v ((atL f p ib mb s l).1 i)↔X6v f p ib mb s l i v) ∧
  ((atL f p ib mb s l).2=false→∃ x∈l,X3k f ib mb x=false∧∀ v,¬ X6v f p ib mb s l x.Instrument.toNat v)
 | [],s,hs=>by
  simp only [atL]
  exact ⟨fun _=>⟨hs,fun i v=>by simp [X6v]⟩,fun h=>by cases h⟩
 | x::l,s,hs=>by
  simp only [atL]
  by_cases hk:X3k f ib mb x=true
  ·rw [if_pos hk]
   obtain ⟨h1,h2⟩:=X5d f p ib mb l s hs
   refine ⟨fun h=>⟨(h1 h).1,fun i v => ?_⟩,fun h => ?_⟩
   ·rw [(h1 h).2 i v,X5z]
    simp [hk]
   ·obtain ⟨y,hy,hy2,hy3⟩:=h2 h
    refine ⟨y,by simp [hy],hy2,fun v hv=>hy3 v ?_⟩
    exact (X5z.1 hv).1
  ·rw [if_neg hk]
   have hk':X3k f ib mb x=false:=by simpa using hk
   by_cases hc:(X2h f p x).2=false∨(X4Q (X2h f p x).1 (s x.Instrument.toNat)).Lo>(X4Q (X2h f p x).1 (s x.Instrument.toNat)).Hi
   ·rw [if_pos hc]
    refine ⟨fun h=>(by cases h),fun _=>⟨x,by simp,hk',fun v hv => ?_⟩⟩
    obtain ⟨h1,h2⟩:=X5z.1 hv
    obtain ⟨h3,h4⟩:=h2 hk' rfl
    rcases hc with hc|hc
    ·rw [hc] at h3;cases h3
    ·have:=(X6z (X2h f p x).1 (s x.Instrument.toNat) v).2 ⟨h4,h1.1⟩
     unfold inS at this;omega
   ·rw [if_neg hc]
    have hc1:(X2h f p x).2=true:=by
     cases h:(X2h f p x).2
     ·exact absurd (.inl h) hc
     ·rfl
    have hc2:(X4Q (X2h f p x).1 (s x.Instrument.toNat)).Lo≤(X4Q (X2h f p x).1 (s x.Instrument.toNat)).Hi:=Int.not_lt.1 fun q=>hc (.inr q)
    obtain ⟨h1,h2⟩:=X5d f p ib mb l (fun j=>if j=x.Instrument.toNat then X4Q (X2h f p x).1 (s x.Instrument.toNat) else s j) (fun i=>by
     by_cases e:i=x.Instrument.toNat
     ·simp only [e,if_true];exact hc2
     ·simp only [e,if_false];exact hs i)
    have key:∀ i v,X6v f p ib mb (fun j=>if j=x.Instrument.toNat then X4Q (X2h f p x).1 (s x.Instrument.toNat) else s j) l i v↔X6v f p ib mb s (x::l) i v:=fun i v=>by
     rw [X5z]
     unfold X6v
     by_cases e:i=x.Instrument.toNat
     ·subst e
      simp only [if_true,X6z,hk',hc1,true_and,forall_const]
      constructor
      ·rintro ⟨⟨a,b⟩,c⟩;exact ⟨⟨b,c⟩,a⟩
      ·rintro ⟨⟨b,c⟩,a⟩;exact ⟨⟨a,b⟩,c⟩
     ·simp only [e,if_false,hk',forall_const]
      constructor
      ·rintro ⟨a,b⟩;exact ⟨⟨a,b⟩,fun q=>absurd q.symm e⟩
      ·rintro ⟨⟨a,b⟩,_⟩;exact ⟨a,b⟩
    refine ⟨fun h=>⟨(h1 h).1,fun i v=>((h1 h).2 i v).trans (key i v)⟩,fun h => ?_⟩
    obtain ⟨y,hy,hy2,hy3⟩:=h2 h
    exact ⟨y,by simp [hy],hy2,fun v hv=>hy3 v ((key _ v).2 hv)⟩

theorem X60 {f:ZJ} (hg:X2m f) (i:Nat):(X5 f i).Lo≤(X5 f i).Hi:=by
 unfold X5
 split
 ·rename_i h
  exact (hg.off _ (List.getElem_mem h)).2.1
 ·simp

def Num (f:ZJ) (l:List Zn) (p:Zu) (ib mb:Int) (i:Nat) (v:Int):Prop:=X6v f p ib mb (X5 f) l i v

theorem X82 {f:ZJ} (hg:X2m f) (l:List Zn) (p:Zu) (ib mb:Int):(atN f l p ib mb).2=true↔∀ i,∃ v,Num f l p ib mb i v:=by
 obtain ⟨h1,h2⟩:=X5d f p ib mb l (X5 f) (X60 hg)
 unfold atN
 constructor
 ·intro h i
  obtain ⟨h3,h4⟩:=h1 h
  exact ⟨_,(h4 i ((atL f p ib mb (X5 f) l).1 i).Lo).1 ⟨Int.le_refl _,h3 i⟩⟩
 ·intro h
  cases hb:(atL f p ib mb (X5 f) l).2
  ·obtain ⟨x,_,_,h3⟩:=h2 hb
   obtain ⟨v,hv⟩:=h x.Instrument.toNat
   exact absurd hv (h3 v)
  ·rfl
theorem X7X {f:ZJ} (hg:X2m f) {l:List Zn} {p:Zu} {ib mb:Int} (h:(atN f l p ib mb).2=true) (i:Nat):((atN f l p ib mb).1 i).Lo≤((atN f l p ib mb).1 i).Hi∧∀ v,inS v ((atN f l p ib mb).1 i)↔Num f l p ib mb i v :=
 ⟨((X5d f p ib mb l (X5 f) (X60 hg)).1 h).1 i,((X5d f p ib mb l (X5 f) (X60 hg)).1 h).2 i⟩

end Nore
open Go Go.Ab
namespace Nore

def X7V:Nat→List Nat→List (List Nat)
 | 0,_=>[[]]
 | _+1,[]=>[]
 | n+1,t::l=>(X7V n l).map (t :: ·)++X7V (n+1) l

def X7R (ok:List Nat→Bool) (l:List Nat):Nat→Nat→Option (List Nat)
 | _,0=>none
 | n,k+1=>match (X7V n l).find? ok with
  | some s=>some s
  | none=>X7R ok l (n+1) k

def X7T (f:ZJ):Nat:=f.Chart.Marks.length
def X8a (f:ZJ) (s:List Nat) (x:Zn):Bool := !(s.contains (X7T f+x.Instrument.toNat))&&((X16 f x.Instrument).Lead || !(s.contains x.Mark.toNat))
def X8b (f:ZJ) (l:List Zn) (s:List Nat):List Zn:=l.filter (X8a f s)
def X8c (f:ZJ) (l:List Zn) (t:Nat):Bool:=l.any fun x=>decide (X7T f+x.Instrument.toNat=t)||(!(X16 f x.Instrument).Lead&&decide (x.Mark.toNat=t))
def X7W (f:ZJ) (l:List Zn):List Nat:=(List.range (X7T f+f.Instruments.length)).filter (X8c f l)
def okW (f:ZJ) (l:List Zn) (s:List Nat):Bool := !(X7Y f (X8b f l s)).isEmpty
structure X8d (f:ZJ) (l:List Zn) (s:List Nat):Prop where
 ok:okW f l s=true
 sub:s.Sublist (X7W f l)
 least:∀ r,r.Sublist (X7W f l)→okW f l r=true→s.length≤r.length
 first:X7R (okW f l) (X7W f l) 0 (f.Instruments.length+1)=some s
end Nore
open Go Go.Ab
namespace Nore

theorem X7b {f:ZJ} {x:Zn} (h:X17 f x=0):((x.Instrument.toNat:Nat):Int)=x.Instrument∧x.Instrument.toNat<f.Instruments.length:=by
 obtain ⟨⟨h1,h2⟩,_⟩:=X4M h;omega
theorem X7U {f:ZJ} {x:Zn} (h:X17 f x=0) (hL:(X16 f x.Instrument).Lead=false):((x.Mark.toNat:Nat):Int)=x.Mark∧x.Mark.toNat<f.Chart.Marks.length:=by
 obtain ⟨_,_,h3⟩:=X4M h;have:=h3 hL;omega

theorem X7N (f:ZJ) (x:Zn):X3k f 0 0 x=false:=by unfold X3k;simp [X7D]
end Nore
open Go Go.Ab
namespace Nore

end Nore
open Go Go.Ab
namespace Nore

abbrev PSt:=Int×Bool×ZJ×List Zn×(Nat→Nat)×Int×List (Zh×Int)
end Nore
open Go Go.Ab
namespace Nore

theorem X5v {β σ ω:Type} (st:σ→Option (σ⊕ω)) (n:Nat) (emb:Nat→β→σ) (P:Nat→β→Prop) (Q:ω→Prop)
  (hd:∀ b,P n b→∃ w,st (emb n b)=some (.inr w)∧Q w)
  (hn:∀ i b,i<n→P i b→(∃ w,st (emb i b)=some (.inr w)∧Q w)∨∃ b',st (emb i b)=some (.inl (emb (i+1) b'))∧P (i+1) b') :
  ∀ i b,i≤n→P i b→∃ w,Z8S st (emb i b)=some w∧Q w:=by
 intro i b hi hP
 induction hj:n-i generalizing i b with
 | zero =>
  have:i=n:=by omega
  subst this
  obtain ⟨w,h1,h2⟩:=hd b hP
  exact ⟨w,by rw [ZgX,h1];rfl,h2⟩
 | succ j ih =>
  rcases hn i b (by omega) hP with ⟨w,h1,h2⟩|⟨b',h1,h2⟩
  ·exact ⟨w,by rw [ZgX,h1];rfl,h2⟩
  ·obtain ⟨w,h3,h4⟩:=ih (i+1) b' (by omega) h2 (by omega)
   exact ⟨w,by rw [ZgX,h1];exact h3,h4⟩
end Nore
open Go Go.Ab
namespace Nore

end Nore
open Go Go.Ab
namespace Nore

end Nore
open Go Go.Ab Go.Proofs.YtehofdemanfenaaGreat
namespace Nore

theorem X7v (l:List ZE) (hl:l.length<1000000):X4o l l=some true:=by
 rw [X5p];unfold X1S
 obtain ⟨w,h1,h2⟩:=X5v (Wg l l) l.length (fun i (_:Unit)=>(i:Int)) (fun _ _=>True) (fun w=>w = .inr ())
  (fun _ _=>⟨.inr (),by simp [Wg,Wx],rfl⟩)
  (fun i _ hi _=>by
   right
   refine ⟨(),?_,trivial⟩
   have hw:IntKind.wrap .i64 ((i:Int)+1)=((i+1:Nat):Int):=by rw [w64]<;>omega
   have e1:decide ((i:Int)<↑l.length)=true:=by simp [hi]
   have e2:decide ((0:Int)≤↑i)=true:=by simp
   simp only [Wg,Wx,Int.toNat_natCast,hw,e1,e2,Bool.and_self,cond_true,beq_self_eq_true,Bool.not_true,cond_false]) 0 () (by omega) trivial
 subst h2
 have h1':X2I l l 0=some (.inr ()):=h1
 rw [h1'];simp
def X4d (f:ZJ) (l:List Zn) (p:Zu):List ZE:=(List.range f.Instruments.length).map (atN f l p 0 0).1
theorem X6V (f:ZJ) (l:List Zn) (p:Zu):X5X f l p=some (if (X1s f l).2=0 then (if X3 (-30000) 30000 [p.X,p.Y] then ([],7) else if (atN f l p 0 0).2 then (X4d f l p,0) else ([],9)) else ([],(X1s f l).2)):=by
 rw [X6e];unfold X2W
 rcases X7H f l with ⟨_,he,h0⟩|⟨kit,hg,h8,hk,he⟩
 ·rw [he]
  simp [h0,WY h0]
 ·rw [he]
  simp only [Option.bind_some,Sum.elim_inr]
  by_cases h0:(X1s f l).2=0
  ·simp only [h0,bne_self_eq_false,cond_false,if_true]
   rw [X2 _ _ _ (by simp)]
   simp only [Option.bind_some]
   have hs:=X5m h0
   cases ho:X3 (-30000) 30000 [p.X,p.Y]
   ·simp only [cond_false,Bool.false_eq_true,if_false]
    obtain ⟨m',_,hp⟩:=X81 hg hs.each hs.len hk (X7n f) p 0 0
    have hp':Xm (0,⟨p.X,p.Y⟩,0,f,l,kit,[])=some ((atN f l p 0 0).1,(atN f l p 0 0).2,f,l,kit,m'):=hp
    first|rw [hp]|rw [hp']
    simp only [Option.bind_some]
    cases ha:(atN f l p 0 0).2
    ·simp
    ·have hI:=hg.inst
     have e1:decide ((0:Int)≤(f.Instruments.length:Int))=true:=by simp
     have e2:decide ((f.Instruments.length:Int)≤((4:Nat):Int))=true:=by simp;omega
     have e2':decide ((f.Instruments.length:Int)≤(4:Int))=true:=by simp;omega
     simp only [Bool.not_true,cond_false,e1,e2,e2',Bool.and_self,cond_true,if_true,Int.toNat_natCast]
     have hl:List.drop 0 (List.take f.Instruments.length (List.map (atN f l p 0 0).1 (List.range 4)))=X4d f l p:=by
      rw [List.drop_zero,←List.map_take,List.take_range,Nat.min_eq_left hI.2];rfl
     rw [hl,WZ]
     unfold X4
     have hlen:(X4d f l p).length=f.Instruments.length:=by unfold X4d;simp
     have e3:(X4d f l p).isEmpty=false:=by
      cases hsp:X4d f l p with
      | nil=>rw [hsp] at hlen;simp at hlen;omega
      | cons a b=>rfl
     have e4:Nat.ble ((0+(X4d f l p).length)*(16+1)) 200000000000000=true:=by apply Nat.ble_eq_true_of_le;omega
     rw [e3,e4];rfl
   ·simp
  ·simp [h0,WY h0]

end Nore
open Go Go.Ab
namespace Nore

def X3N (p:Nat):Zu:=⟨Geo.vx p,Geo.vy p⟩
theorem X7C:∀ p,p<32 → -1000≤Geo.vx p∧Geo.vx p≤1000 ∧ -1000≤Geo.vy p∧Geo.vy p≤1000:=by decide
theorem X84 {a:Int} (h : -1000000≤a∧a≤1000000):IntKind.wrap .i64 (0-a) = -a:=by rw [w64]<;>omega

theorem X83 (q:Nat):∀ p,p<32→p / 8=q→(∀ n r,Z8p X8 n ((p:Int),())=some r→r=X3N p)∧(∃ n r,Z8p X8 n ((p:Int),())=some r):=by
 have base:∀ p:Nat,p<8→∀ n,Z8p X8 (n+1) ((p:Int),())=some (X3N p):=fun p hp n=>by
  have e:∀ p,p<8→(List.getD [Zu.mk 0 1000,Zu.mk 195 981,Zu.mk 383 924,Zu.mk 556 831,Zu.mk 707 707,Zu.mk 831 556,Zu.mk 924 383,Zu.mk 981 195] p (Zu.mk 0 0)).X=Geo.vx p∧(List.getD [Zu.mk 0 1000,Zu.mk 195 981,Zu.mk 383 924,Zu.mk 556 831,Zu.mk 707 707,Zu.mk 831 556,Zu.mk 924 383,Zu.mk 981 195] p (Zu.mk 0 0)).Y=Geo.vy p:=by decide
  have e':=e p hp
  simp only [Z8p,X8,X20,Int.toNat_natCast]
  have h1:decide ((p:Int)≥8)=false:=by simp;omega
  rw [h1]
  generalize List.getD _ p _=g at *
  have h2:decide ((0:Int)≤(p:Int))=true:=by simp
  have h3:decide ((p:Int)<((8:Nat):Int))=true:=by simp;omega
  have h4:Nat.blt p 8=true:=by simp [Nat.blt,Nat.ble_eq];omega
  simp only [cond_false,List.length_cons,List.length_nil,Nat.zero_add,Nat.reduceAdd]
  rw [h2,h3,h4]
  simp only [Bool.and_self,cond_true,X3N,Option.some.injEq]
  cases g
  simp only [Zu.mk.injEq]
  exact e'
 induction q with
 | zero =>
  intro p hp hq
  have hp8:p<8:=by omega
  refine ⟨fun n r h => ?_,⟨1,_,base p hp8 0⟩⟩
  cases n with
  | zero=>simp [Z8p] at h
  | succ n=>rw [base p hp8 n] at h;exact (Option.some.inj h).symm
 | succ q ih =>
  intro p hp hq
  obtain ⟨i1,m,s,i2⟩:=ih (p-8) (by omega) (by omega)
  have hstep:∀ n,Z8p X8 (n+1) ((p:Int),())=Option.bind (Z8p X8 n (((p-8:Nat):Int),())) fun v=>some ⟨v.Y,IntKind.wrap .i64 (0-v.X)⟩:=fun n=>by
   simp only [Z8p,X8,X20]
   have h1:decide ((p:Int)≥8)=true:=by simp;omega
   have h2:IntKind.wrap .i64 ((p:Int)-8)=((p-8:Nat):Int):=by rw [w64]<;>omega
   rw [h1,h2]
   rfl
  have tt:(⟨(X3N (p-8)).Y,-(X3N (p-8)).X⟩:Zu)=X3N p:=by
   have e:∀ p,p<24→Geo.vy p=Geo.vx (p+8) ∧ - Geo.vx p=Geo.vy (p+8):=by decide
   have e':=e (p-8) (by omega)
   rw [show p-8+8=p by omega] at e'
   simp only [X3N,Zu.mk.injEq]
   exact e'
  have bd:=X7C (p-8) (by omega)
  have wv:IntKind.wrap .i64 (0-(X3N (p-8)).X) = - (X3N (p-8)).X:=X84 (by simp only [X3N];omega)
  refine ⟨fun n r h => ?_,⟨m+1,X3N p,?_⟩⟩
  ·cases n with
   | zero=>simp [Z8p] at h
   | succ n =>
    rw [hstep] at h
    cases hr:Z8p X8 n (((p-8:Nat):Int),()) with
    | none=>rw [hr] at h;simp at h
    | some v =>
     rw [hr] at h
     have:=i1 n v hr
     subst this
     simp only [Option.bind_some,Option.some.injEq] at h
     rw [←h,wv,tt]
  ·rw [hstep,i2]
   have:=i1 m s i2
   subst this
   simp only [Option.bind_some,wv,tt]

theorem X1Z (p:Nat) (hp:p<32):X3q (p:Int)=some (X3N p):=by
 obtain ⟨h1,h2⟩:=X83 (p / 8) p hp rfl
 exact Zhk h1 h2

theorem X6U (p:Nat) (hp:p<32) (v:Zu) (hv:Bd 60000 v):IntKind.wrap .i64 (IntKind.wrap .i64 ((X3N p).X*v.Y)-IntKind.wrap .i64 ((X3N p).Y*v.X))=Geo.crs p v.X v.Y:=by
 have bd:=X7C p hp
 unfold Bd at hv
 rw [X7s 2000000 rfl (by simp only [X3N];omega) (by omega) (by simp only [X3N];omega) (by omega)]
 rfl

theorem X68 (v:Zu) (hv:Bd 60000 v) (h0:v.X≠0∨v.Y≠0):X2i v=some ((Geo.tow v.X v.Y:Nat):Int):=by
 have ht:=Geo.tow_spec h0
 unfold X2i
 have key:=X6 (XQ v) (fun o224=>some o224) (Geo.tow v.X v.Y) (fun i (_:Unit)=>(i:Int)) (fun _ _=>True) (fun _ _=>some ((Geo.tow v.X v.Y:Nat):Int))
  (by
   intro b _ R
   simp only [XQ,W1]
   generalize ht':Geo.tow v.X v.Y=t at *
   have hw:IntKind.wrap .i64 ((t:Int)+1)=((t+1:Nat):Int):=by rw [w64]<;>omega
   have hm:Int.tmod ((t+1:Nat):Int) 32=(((t+1) % 32:Nat):Int):=rfl
   rw [hw,hm,X1Z _ ht.1,X1Z _ (by omega)]
   simp only [Option.bind_some]
   rw [X6U _ ht.1 v hv,X6U _ (by omega) v hv]
   have a1:decide (Geo.crs t v.X v.Y>0)=false:=by simpa using ht.2.1
   have a2:decide (Geo.crs ((t+1) % 32) v.X v.Y≤0)=false:=by simpa using ht.2.2
   simp [a1,a2])
  (by
   intro i b hi _ R hR
   have hR':=hR () trivial
   simp only [XQ,W1]
   have hi32:i<32:=by omega
   have hw:IntKind.wrap .i64 ((i:Int)+1)=((i+1:Nat):Int):=by rw [w64]<;>omega
   have hm:Int.tmod ((i+1:Nat):Int) 32=(((i+1) % 32:Nat):Int):=rfl
   rw [hw,hm,X1Z _ hi32,X1Z _ (by omega)]
   simp only [Option.bind_some]
   rw [X6U _ hi32 v hv,X6U _ (by omega) v hv]
   by_cases a1:Geo.crs i v.X v.Y>0
   ·simp [a1];simpa using hR'
   ·by_cases a2:Geo.crs ((i+1) % 32) v.X v.Y≤0
    ·simp [a1,a2];simpa using hR'
    ·exfalso
     have:Geo.Tow i v.X v.Y:=⟨by omega,by omega⟩
     have:=Geo.tow_eq hi32 this
     omega)
 exact key 0 () (by omega) trivial


theorem X5y {X Y:Int} (hx:0≤X) (hy:0<Y):Geo.tow X Y+1=X5M ⟨X,Y⟩ X7∧1≤X5M ⟨X,Y⟩ X7∧X5M ⟨X,Y⟩ X7≤8:=by
 unfold X5M X7
 have c0:Geo.crs 0 X Y=0*Y-1000*X:=rfl
 have c1:Geo.crs 1 X Y=195*Y-981*X:=rfl
 have c2:Geo.crs 2 X Y=383*Y-924*X:=rfl
 have c3:Geo.crs 3 X Y=556*Y-831*X:=rfl
 have c4:Geo.crs 4 X Y=707*Y-707*X:=rfl
 have c5:Geo.crs 5 X Y=831*Y-556*X:=rfl
 have c6:Geo.crs 6 X Y=924*Y-383*X:=rfl
 have c7:Geo.crs 7 X Y=981*Y-195*X:=rfl
 have c8:Geo.crs 8 X Y=1000*Y-0*X:=rfl
 by_cases h1:195*Y-981*X≤0
 rotate_left
 ·have ht:Geo.tow X Y=0:=Geo.tow_eq (by omega) ⟨by omega,by show Geo.crs 1 X Y>0;omega⟩
  have d0:decide ((0:Int)*Y-1000*X≤0)=true:=by simp;omega
  have d1:decide ((195:Int)*Y-981*X≤0)=false:=by simp;omega
  have d2:decide ((383:Int)*Y-924*X≤0)=false:=by simp;omega
  have d3:decide ((556:Int)*Y-831*X≤0)=false:=by simp;omega
  have d4:decide ((707:Int)*Y-707*X≤0)=false:=by simp;omega
  have d5:decide ((831:Int)*Y-556*X≤0)=false:=by simp;omega
  have d6:decide ((924:Int)*Y-383*X≤0)=false:=by simp;omega
  have d7:decide ((981:Int)*Y-195*X≤0)=false:=by simp;omega
  rw [ht]
  simp [List.countP_cons,d0,d1,d2,d3,d4,d5,d6,d7,show 0≤1000*X by omega]
 by_cases h2:383*Y-924*X≤0
 rotate_left
 ·have ht:Geo.tow X Y=1:=Geo.tow_eq (by omega) ⟨by omega,by show Geo.crs 2 X Y>0;omega⟩
  have d0:decide ((0:Int)*Y-1000*X≤0)=true:=by simp;omega
  have d1:decide ((195:Int)*Y-981*X≤0)=true:=by simp;omega
  have d2:decide ((383:Int)*Y-924*X≤0)=false:=by simp;omega
  have d3:decide ((556:Int)*Y-831*X≤0)=false:=by simp;omega
  have d4:decide ((707:Int)*Y-707*X≤0)=false:=by simp;omega
  have d5:decide ((831:Int)*Y-556*X≤0)=false:=by simp;omega
  have d6:decide ((924:Int)*Y-383*X≤0)=false:=by simp;omega
  have d7:decide ((981:Int)*Y-195*X≤0)=false:=by simp;omega
  rw [ht]
  simp [List.countP_cons,d0,d1,d2,d3,d4,d5,d6,d7,show 0≤1000*X by omega]
 by_cases h3:556*Y-831*X≤0
 rotate_left
 ·have ht:Geo.tow X Y=2:=Geo.tow_eq (by omega) ⟨by omega,by show Geo.crs 3 X Y>0;omega⟩
  have d0:decide ((0:Int)*Y-1000*X≤0)=true:=by simp;omega
  have d1:decide ((195:Int)*Y-981*X≤0)=true:=by simp;omega
  have d2:decide ((383:Int)*Y-924*X≤0)=true:=by simp;omega
  have d3:decide ((556:Int)*Y-831*X≤0)=false:=by simp;omega
  have d4:decide ((707:Int)*Y-707*X≤0)=false:=by simp;omega
  have d5:decide ((831:Int)*Y-556*X≤0)=false:=by simp;omega
  have d6:decide ((924:Int)*Y-383*X≤0)=false:=by simp;omega
  have d7:decide ((981:Int)*Y-195*X≤0)=false:=by simp;omega
  rw [ht]
  simp [List.countP_cons,d0,d1,d2,d3,d4,d5,d6,d7,show 0≤1000*X by omega]
 by_cases h4:707*Y-707*X≤0
 rotate_left
 ·have ht:Geo.tow X Y=3:=Geo.tow_eq (by omega) ⟨by omega,by show Geo.crs 4 X Y>0;omega⟩
  have d0:decide ((0:Int)*Y-1000*X≤0)=true:=by simp;omega
  have d1:decide ((195:Int)*Y-981*X≤0)=true:=by simp;omega
  have d2:decide ((383:Int)*Y-924*X≤0)=true:=by simp;omega
  have d3:decide ((556:Int)*Y-831*X≤0)=true:=by simp;omega
  have d4:decide ((707:Int)*Y-707*X≤0)=false:=by simp;omega
  have d5:decide ((831:Int)*Y-556*X≤0)=false:=by simp;omega
  have d6:decide ((924:Int)*Y-383*X≤0)=false:=by simp;omega
  have d7:decide ((981:Int)*Y-195*X≤0)=false:=by simp;omega
  rw [ht]
  simp [List.countP_cons,d0,d1,d2,d3,d4,d5,d6,d7,show 0≤1000*X by omega]
 by_cases h5:831*Y-556*X≤0
 rotate_left
 ·have ht:Geo.tow X Y=4:=Geo.tow_eq (by omega) ⟨by omega,by show Geo.crs 5 X Y>0;omega⟩
  have d0:decide ((0:Int)*Y-1000*X≤0)=true:=by simp;omega
  have d1:decide ((195:Int)*Y-981*X≤0)=true:=by simp;omega
  have d2:decide ((383:Int)*Y-924*X≤0)=true:=by simp;omega
  have d3:decide ((556:Int)*Y-831*X≤0)=true:=by simp;omega
  have d4:decide ((707:Int)*Y-707*X≤0)=true:=by simp;omega
  have d5:decide ((831:Int)*Y-556*X≤0)=false:=by simp;omega
  have d6:decide ((924:Int)*Y-383*X≤0)=false:=by simp;omega
  have d7:decide ((981:Int)*Y-195*X≤0)=false:=by simp;omega
  rw [ht]
  simp [List.countP_cons,d0,d1,d2,d3,d4,d5,d6,d7,show 0≤1000*X by omega]
 by_cases h6:924*Y-383*X≤0
 rotate_left
 ·have ht:Geo.tow X Y=5:=Geo.tow_eq (by omega) ⟨by omega,by show Geo.crs 6 X Y>0;omega⟩
  have d0:decide ((0:Int)*Y-1000*X≤0)=true:=by simp;omega
  have d1:decide ((195:Int)*Y-981*X≤0)=true:=by simp;omega
  have d2:decide ((383:Int)*Y-924*X≤0)=true:=by simp;omega
  have d3:decide ((556:Int)*Y-831*X≤0)=true:=by simp;omega
  have d4:decide ((707:Int)*Y-707*X≤0)=true:=by simp;omega
  have d5:decide ((831:Int)*Y-556*X≤0)=true:=by simp;omega
  have d6:decide ((924:Int)*Y-383*X≤0)=false:=by simp;omega
  have d7:decide ((981:Int)*Y-195*X≤0)=false:=by simp;omega
  rw [ht]
  simp [List.countP_cons,d0,d1,d2,d3,d4,d5,d6,d7,show 0≤1000*X by omega]
 by_cases h7:981*Y-195*X≤0
 rotate_left
 ·have ht:Geo.tow X Y=6:=Geo.tow_eq (by omega) ⟨by omega,by show Geo.crs 7 X Y>0;omega⟩
  have d0:decide ((0:Int)*Y-1000*X≤0)=true:=by simp;omega
  have d1:decide ((195:Int)*Y-981*X≤0)=true:=by simp;omega
  have d2:decide ((383:Int)*Y-924*X≤0)=true:=by simp;omega
  have d3:decide ((556:Int)*Y-831*X≤0)=true:=by simp;omega
  have d4:decide ((707:Int)*Y-707*X≤0)=true:=by simp;omega
  have d5:decide ((831:Int)*Y-556*X≤0)=true:=by simp;omega
  have d6:decide ((924:Int)*Y-383*X≤0)=true:=by simp;omega
  have d7:decide ((981:Int)*Y-195*X≤0)=false:=by simp;omega
  rw [ht]
  simp [List.countP_cons,d0,d1,d2,d3,d4,d5,d6,d7,show 0≤1000*X by omega]
 have ht:Geo.tow X Y=7:=Geo.tow_eq (by omega) ⟨by omega,by show Geo.crs 8 X Y>0;omega⟩
 have d0:decide ((0:Int)*Y-1000*X≤0)=true:=by simp;omega
 have d1:decide ((195:Int)*Y-981*X≤0)=true:=by simp;omega
 have d2:decide ((383:Int)*Y-924*X≤0)=true:=by simp;omega
 have d3:decide ((556:Int)*Y-831*X≤0)=true:=by simp;omega
 have d4:decide ((707:Int)*Y-707*X≤0)=true:=by simp;omega
 have d5:decide ((831:Int)*Y-556*X≤0)=true:=by simp;omega
 have d6:decide ((924:Int)*Y-383*X≤0)=true:=by simp;omega
 have d7:decide ((981:Int)*Y-195*X≤0)=true:=by simp;omega
 rw [ht]
 simp [List.countP_cons,d0,d1,d2,d3,d4,d5,d6,d7,show 0≤1000*X by omega]

theorem X74:∀ t,t<32→Geo.vx ((t+8) % 32)=Geo.vy t∧Geo.vy ((t+8) % 32) = - Geo.vx t:=by decide
theorem X5U (t:Nat) (ht:t<32) (X Y:Int):Geo.crs ((t+8) % 32) Y (-X)=Geo.crs t X Y:=by
 have h:=X74 t ht
 unfold Geo.crs
 rw [h.1,h.2]
 rw [Int.mul_neg,Int.neg_mul]
 omega
theorem X2l {X Y:Int} (h:X≠0∨Y≠0):Geo.tow Y (-X)=(Geo.tow X Y+8) % 32:=by
 obtain ⟨h1,h2,h3⟩:=Geo.tow_spec h
 generalize Geo.tow X Y=t at *
 apply Geo.tow_eq (by omega)
 refine ⟨?_,?_⟩
 ·rw [X5U t h1];exact h2
 ·rw [show ((t+8) % 32+1) % 32=((t+1) % 32+8) % 32 by omega,X5U _ (by omega)];exact h3
theorem X7K {v:Zu} (hb : -60000≤v.X∧v.X≤60000 ∧ -60000≤v.Y∧v.Y≤60000) (h0:¬ (v.X=0∧v.Y=0)):X46 v=((Geo.tow v.X v.Y:Nat):Int):=by
 unfold X46 X47
 by_cases c1:0≤v.X∧0<v.Y
 ·rw [if_pos c1]
  have h:=X5y c1.1 c1.2
  have he:X5M ⟨v.X,v.Y⟩ X7=X5M v X7:=rfl
  rw [he] at h
  simp only
  omega
 ·rw [if_neg c1]
  by_cases c2:0<v.X∧v.Y≤0
  ·rw [if_pos c2]
   have h1:=X5y (X := -v.Y) (Y:=v.X) (by omega) c2.1
   have h2:=X2l (X := -v.Y) (Y:=v.X) (by omega)
   rw [Int.neg_neg] at h2
   simp only
   omega
  ·rw [if_neg c2]
   by_cases c3:v.X≤0∧v.Y<0
   ·rw [if_pos c3]
    have h1:=X5y (X := -v.X) (Y := -v.Y) (by omega) (by omega)
    have h2:=X2l (X := -v.X) (Y := -v.Y) (by omega)
    have h3:=X2l (X := -v.Y) (Y:=v.X) (by omega)
    rw [Int.neg_neg] at h2 h3
    simp only
    omega
   ·rw [if_neg c3]
    have h1:=X5y (X:=v.Y) (Y := -v.X) (by omega) (by omega)
    have h2:=X2l (X:=v.Y) (Y := -v.X) (by omega)
    have h3:=X2l (X := -v.X) (Y := -v.Y) (by omega)
    have h4:=X2l (X := -v.Y) (Y:=v.X) (by omega)
    rw [Int.neg_neg] at h3 h4
    simp only
    omega
theorem X69 {v:Zu} (hb : -60000≤v.X∧v.X≤60000 ∧ -60000≤v.Y∧v.Y≤60000) (h0:¬ (v.X=0∧v.Y=0)):X2i v=some (X46 v):=by
 rw [X68 v (by unfold Bd;omega) (by omega),X7K hb h0]
end Nore
open Go Go.Ab
namespace Nore

theorem X7m {f:ZJ} (hA:f.Areas.length≤6) (p:Zu):∃ k:Int,X3P f p=some k∧((k<0∧X5L f p=none)∨(0≤k∧k.toNat<f.Areas.length∧X5L f p=some (f.Areas.getD k.toNat ⟨⟨0,0⟩,⟨0,0⟩,⟨0,0⟩,0⟩))):=by
 rw [X58];unfold X1F
 obtain ⟨w,h1,h2⟩:=X5v (XT p f) f.Areas.length (fun i (_:Unit)=>(i:Int)) (fun i _=>X5L f p=(f.Areas.drop i).find? fun a=>X3E a p)
  (fun w=>(w = .inr ()∧X5L f p=none)∨∃ k:Nat,k<f.Areas.length∧w = .inl (k:Int)∧X5L f p=some (f.Areas.getD k ⟨⟨0,0⟩,⟨0,0⟩,⟨0,0⟩,0⟩))
  (fun _ hb=>⟨.inr (),by simp [XT,W3],.inl ⟨rfl,by simpa using hb⟩⟩)
  (fun i _ hi hb=>by
   have hw:IntKind.wrap .i64 ((i:Int)+1)=((i+1:Nat):Int):=by rw [w64]<;>omega
   have e1:decide ((i:Int)<↑f.Areas.length)=true:=by simp [hi]
   have e2:decide ((0:Int)≤↑i)=true:=by simp
   obtain ⟨a,ha⟩:∃ a,f.Areas[i]=a:=⟨_,rfl⟩
   have hgd:f.Areas.getD i ⟨⟨0,0⟩,⟨0,0⟩,⟨0,0⟩,0⟩=a:=(X0 _ _ _ hi).trans ha
   rw [List.drop_eq_getElem_cons hi,ha,List.find?_cons] at hb
   have hin:X3E a p=(inN p.X a.X.Lo a.X.Hi&&inN p.Y a.Y.Lo a.Y.Hi):=by
    unfold X3E inN
    rw [Bool.eq_iff_iff]
    simp<;>omega
   simp only [XT,W3,Int.toNat_natCast,hgd,hw,e1,e2,Bool.and_self,cond_true,Xn,Option.bind_some]
   cases c1:inN p.X a.X.Lo a.X.Hi
   ·right
    rw [hin,c1] at hb
    exact ⟨(),rfl,by simpa using hb⟩
   ·simp only [cond_true]
    cases c2:inN p.Y a.Y.Lo a.Y.Hi
    ·right
     rw [hin,c1,c2] at hb
     exact ⟨(),rfl,by simpa using hb⟩
    ·left
     rw [hin,c1,c2] at hb
     exact ⟨_,rfl,.inr ⟨i,hi,rfl,by rw [hgd];simpa using hb⟩⟩) 0 () (by omega) rfl
 have h1':X2t p f 0=some w:=h1
 rw [h1']
 simp only [Option.bind_some]
 rcases h2 with ⟨h3,h4⟩|⟨k,h3,h4,h5⟩
 ·subst h3
  exact ⟨-1,rfl,.inl ⟨by omega,h4⟩⟩
 ·subst h4
  exact ⟨(k:Int),rfl,.inr ⟨by omega,by simpa using h3,by simpa using h5⟩⟩

def X5K (f:ZJ) (x:Zn) (p:Zu) (v:Int):Bool:=(X2h f p x).2&&(decide ((X2h f p x).1.Lo≤v)&&decide (v≤(X2h f p x).1.Hi))
theorem X7l {f:ZJ} (hg:X2m f) {x:Zn} (hx:X17 f x=0) {p:Zu} (hp:Bd 30000 p) {v:Int} (hv : -X2U (X16 f x.Instrument)≤v∧v≤X2U (X16 f x.Instrument)):X3d f x p v=some (X5K f x p v):=by
 rw [X56];unfold X1E X5K X2h
 obtain ⟨h1,h2,h3⟩:=X4M hx
 have i1:decide (0≤x.Instrument)=true:=by simp;omega
 have i2:decide (x.Instrument<(↑f.Instruments.length:Int))=true:=by simp;omega
 have hgi:f.Instruments.getD x.Instrument.toNat ⟨ByteArray.empty,false,⟨0,0⟩⟩=X16 f x.Instrument:=rfl
 simp only [i1,i2,hgi,Bool.and_self,cond_true]
 cases hL:(X16 f x.Instrument).Lead
 ·have h3:=h3 hL
  have hfar:X2U (X16 f x.Instrument)=4:=by unfold X2U;rw [hL];rfl
  rw [hfar] at hv
  have m1:decide (0≤x.Mark)=true:=by simp;omega
  have m2:decide (x.Mark<(↑f.Chart.Marks.length:Int))=true:=by simp;omega
  have hgm:f.Chart.Marks.getD x.Mark.toNat ⟨ByteArray.empty,⟨0,0⟩,[]⟩=Z8y f x.Mark:=rfl
  have hma:=X6Y hg h3.1 h3.2.1
  unfold Bd at hma hp
  simp only [Bool.not_false,cond_true,m1,m2,hgm,Bool.and_self,Bool.and_true,Bool.false_eq_true,if_false]
  rw [w64 (x:=(Z8y f x.Mark).At.X-p.X) (by omega) (by omega),w64 (x:=(Z8y f x.Mark).At.Y-p.Y) (by omega) (by omega)]
  have hfp:X2R 30000 p=false:=by rw [X5x];unfold Bd;omega
  have hsn:X3M f x.Mark p=if (Z8y f x.Mark).At=p then -1 else X46 (Xg (Z8y f x.Mark).At p):=by
   unfold X3M X6o
   rw [h3.2.2.1,hfp]
   by_cases c:(Z8y f x.Mark).At=p<;>simp [c]
  by_cases c:(Z8y f x.Mark).At=p
  ·rw [if_pos c] at hsn
   rw [hsn,c]
   simp
  ·rw [if_neg c] at hsn
   have h00:¬ ((Z8y f x.Mark).At.X-p.X=0∧(Z8y f x.Mark).At.Y-p.Y=0):=fun q=>c (Zu.ext (by omega) (by omega))
   have e0:((Z8y f x.Mark).At.X-p.X==0&&(Z8y f x.Mark).At.Y-p.Y==0)=false:=by
    cases hc:((Z8y f x.Mark).At.X-p.X==0&&(Z8y f x.Mark).At.Y-p.Y==0)
    ·rfl
    ·exfalso;simp at hc;exact h00 ⟨by omega,by omega⟩
   simp only [e0,Bool.not_false,cond_true]
   rw [show (⟨(Z8y f x.Mark).At.X-p.X,(Z8y f x.Mark).At.Y-p.Y⟩:Zu)=Xg (Z8y f x.Mark).At p from rfl,X69 (by unfold Xg;simp only;omega) (by unfold Xg;exact h00)]
   simp only [Option.bind_some]
   have hpb:=X7i (v:=Xg (Z8y f x.Mark).At p) (by unfold Xg;simp only;omega) (by unfold Xg;exact h00)
   rw [hsn]
   generalize X46 (Xg (Z8y f x.Mark).At p)=s at *
   rw [w64 (x:=s+v) (by omega) (by omega),w64 (x:=s+v+32) (by omega) (by omega),Int.tmod_eq_emod_of_nonneg (by omega)]
   congr 1
   have hk:(((s+v+32) % 32==x.Shown)=true)↔(decide (s≥0)&&(decide (X7E x.Shown s≤v)&&decide (v≤X7E x.Shown s)))=true:=by
    simp only [beq_iff_eq,Bool.and_eq_true,decide_eq_true_eq]
    unfold X7E
    constructor
    ·intro h
     refine ⟨by omega,?_,?_⟩<;>split<;>omega
    ·rintro ⟨_,a,b⟩
     split at a<;>omega
   exact Bool.eq_iff_iff.2 hk
 ·have hfar:X2U (X16 f x.Instrument)=20:=by unfold X2U;rw [hL];rfl
  have h2:=h2 hL
  rw [hfar] at hv
  simp only [Bool.not_true,cond_false,if_true]
  obtain ⟨k,hk1,hk2⟩:=X7m (f:=f) hg.areas p
  rw [hk1]
  simp only [Option.bind_some]
  rcases hk2 with ⟨hk2,hk3⟩|⟨hk2,hk3,hk4⟩
  ·have e:decide (k<0)=true:=by simpa using hk2
   rw [e,hk3]
   simp only [cond_true,Bool.true_and]
   have a1:decide ((-20:Int)≤v)=true:=by simp;omega
   have a2:decide (v≤(20:Int))=true:=by simp;omega
   rw [a1,a2];rfl
  ·have e:decide (k<0)=false:=by simp;omega
   have e1:decide (0≤k)=true:=by simp;omega
   have e2:decide (k<(↑f.Areas.length:Int))=true:=by simp;omega
   rw [hk4]
   have ha:=X7z (hg.area _ (List.getElem_mem hk3))
   rw [X0 _ _ _ hk3] at *
   generalize f.Areas[k.toNat]=a at *
   simp only [e,e1,e2,cond_false,cond_true,Bool.and_self]
   rw [w64 (x:=x.Shown-v) (by omega) (by omega),Xn]
   simp only [Option.bind_some]
   have hin:inN (x.Shown-v) a.Depth.Lo a.Depth.Hi=(decide (x.Shown-a.Depth.Hi≤v)&&decide (v≤x.Shown-a.Depth.Lo)):=by
    unfold inN
    rw [Bool.eq_iff_iff]
    simp<;>omega
   rw [hin]
   cases (decide (x.Shown-a.Depth.Hi≤v)&&decide (v≤x.Shown-a.Depth.Lo))
   ·simp
   ·cases (x.Ground==0)<;>simp

def X2G (lo:Int):Nat→List Int
 | 0=>[]
 | n+1=>lo::X2G (lo+1) n
theorem X5Q:∀ (n:Nat) (lo v:Int),v∈X2G lo n↔lo≤v∧v<lo+n
 | 0,lo,v=>by simp only [X2G,List.not_mem_nil,false_iff];omega
 | n+1,lo,v=>by
  simp only [X2G,List.mem_cons,X5Q n]
  omega
def X3o (f:ZJ) (l:List Zn) (p:Zu) (i:Nat) (v:Int):Bool:=l.all fun x => !(decide (x.Instrument.toNat=i))||X5K f x p v
def X1R (f:ZJ) (l:List Zn) (p:Zu) (i:Nat):List Int:=(X2G (X5 f i).Lo ((X5 f i).Hi-(X5 f i).Lo+1).toNat).filter fun v=>X3o f l p i v

def X3a (f:ZJ) (marks:List Bool) (x:Zn):Bool:=(X16 f x.Instrument).Lead || !(marks.getD x.Mark.toNat false)

theorem X7h {f:ZJ} (hg:X2m f) {l:List Zn} (hl:∀ x∈l,X17 f x=0) (hll:l.length≤1000) {p:Zu} (hp:Bd 30000 p) (i:Nat) (hi:i<f.Instruments.length) (marks:List Bool) (hm:marks.length=f.Chart.Marks.length):X2y f l p (i:Int) marks=some (X1R f (l.filter (X3a f marks)) p i):=by
 rw [X4K];unfold X1n
 have hI:=hg.inst
 have i1:decide ((0:Int)≤(i:Int))=true:=by simp
 have i2:decide ((i:Int)<(↑f.Instruments.length:Int))=true:=by simp [hi]
 have hgd:f.Instruments.getD i ⟨ByteArray.empty,false,⟨0,0⟩⟩=f.Instruments[i]:=X0 _ _ _ hi
 have ho:=hg.off _ (List.getElem_mem hi)
 have hof:X5 f i=f.Instruments[i].Off:=by unfold X5;rw [dif_pos hi]
 have hfb:0≤X2U f.Instruments[i]∧X2U f.Instruments[i]≤20:=by unfold X2U;split<;>omega
 have hio:X16 f (i:Int)=f.Instruments[i]:=hgd
 simp only [i1,i2,Bool.and_self,cond_true,Int.toNat_natCast,hgd]
 have inner:∀ v:Int,-X2U f.Instruments[i]≤v∧v≤X2U f.Instruments[i]→X2c (i:Int) l marks v p f (true,0)=some (X3o f (l.filter (X3a f marks)) p i v):=fun v hv=>by
  obtain ⟨w,h1,h2⟩:=X5v (XF (i:Int) l marks v p f) l.length (fun k (c:Bool)=>(c,(k:Int))) (fun k c=>(c&&X3o f ((l.drop k).filter (X3a f marks)) p i v)=X3o f (l.filter (X3a f marks)) p i v) (fun w=>w=X3o f (l.filter (X3a f marks)) p i v)
   (fun c hc=>⟨c,by simp [XF,XJ],by
    rw [List.drop_length] at hc
    simpa [X3o] using hc⟩)
   (fun k c hk hc=>by
    have e1:decide ((k:Int)<↑l.length)=true:=by simp [hk]
    have e2:decide ((0:Int)≤↑k)=true:=by simp
    have hw:IntKind.wrap .i64 ((k:Int)+1)=((k+1:Nat):Int):=by rw [w64]<;>omega
    have hx:=hl _ (List.getElem_mem hk)
    obtain ⟨x,hxd⟩:∃ x,l[k]=x:=⟨_,rfl⟩
    rw [hxd] at hx
    have hgx:l.getD k ⟨0,0,0,0⟩=x:=(X0 _ _ _ hk).trans hxd
    obtain ⟨n1,n2⟩:=X7b hx
    rw [List.drop_eq_getElem_cons hk,hxd,List.filter_cons] at hc
    simp only [XF,XJ,e1,e2,hw,cond_true,Int.toNat_natCast,hgx,Bool.and_self]
    cases c
    ·left
     refine ⟨false,rfl,?_⟩
     simpa using hc
    ·right
     simp only [cond_true]
     rw [Bool.true_and] at hc
     by_cases ci:x.Instrument=(i:Int)
     ·have ec:(x.Instrument==(i:Int))=true:=by simpa using ci
      simp only [ec,cond_true,i1,i2,Bool.and_self,hgd]
      have hag:=X7l hg hx hp (v:=v) (by rw [ci,hio];exact hv)
      have hti:x.Instrument.toNat=i:=by omega
      cases hL:f.Instruments[i].Lead
      ·obtain ⟨m1,m2⟩:=X7U hx (by rw [ci,hio];exact hL)
       have d1:decide (0≤x.Mark)=true:=by simp;omega
       have d2:decide (x.Mark<(marks.length:Int))=true:=by simp;omega
       have hlm:X3a f marks x = !(marks.getD x.Mark.toNat false):=by unfold X3a;rw [ci,hio,hL];rfl
       rw [hlm] at hc
       simp only [cond_false,d1,d2,Bool.and_self,cond_true]
       cases hb:marks.getD x.Mark.toNat false
       ·simp only [Bool.not_false,cond_true,hag,Option.bind_some]
        rw [hb] at hc
        refine ⟨X5K f x p v,rfl,?_⟩
        rw [←hc]
        simp [X3o,hti]
       ·simp only [Bool.not_true,cond_false]
        rw [hb] at hc
        refine ⟨true,rfl,?_⟩
        rw [←hc]
        simp
      ·have hlm:X3a f marks x=true:=by unfold X3a;rw [ci,hio,hL];rfl
       rw [hlm] at hc
       simp only [cond_true,hag,Option.bind_some]
       refine ⟨X5K f x p v,rfl,?_⟩
       rw [←hc]
       simp [X3o,hti]
     ·have ec:(x.Instrument==(i:Int))=false:=by simpa using ci
      have hti:¬ x.Instrument.toNat=i:=by omega
      simp only [ec,cond_false]
      refine ⟨true,rfl,?_⟩
      rw [←hc]
      cases X3a f marks x<;>simp [X3o,hti]) 0 true (by omega) (by simp)
  exact h1.trans (by rw [h2])
 have hn:((((X5 f i).Hi-(X5 f i).Lo+1).toNat:Nat):Int)=(X5 f i).Hi-(X5 f i).Lo+1:=by rw [hof];omega
 obtain ⟨w,h1,h2⟩:=X5v (XE (i:Int) l marks p f) ((X5 f i).Hi-(X5 f i).Lo+1).toNat (fun k (b:List Int)=>((X5 f i).Lo+(k:Int),b)) (fun k b=>b.length≤k∧b++(X2G ((X5 f i).Lo+k) (((X5 f i).Hi-(X5 f i).Lo+1).toNat-k)).filter (fun v=>X3o f (l.filter (X3a f marks)) p i v)=X1R f (l.filter (X3a f marks)) p i) (fun w=>w=X1R f (l.filter (X3a f marks)) p i)
  (fun b hb=>⟨b,by
   have e:decide ((X5 f i).Lo+((((X5 f i).Hi-(X5 f i).Lo+1).toNat:Nat):Int)≤f.Instruments[i].Off.Hi)=false:=by rw [←hof];simp;omega
   simp only [XE,XI,i1,i2,Bool.and_self,cond_true,Int.toNat_natCast,hgd,e,cond_false],by
   have:=hb.2
   rw [Nat.sub_self] at this
   simpa [X2G] using this⟩)
  (fun k b hk hb=>by
   right
   obtain ⟨hb1,hb2⟩:=hb
   have e:decide ((X5 f i).Lo+(k:Int)≤f.Instruments[i].Off.Hi)=true:=by rw [←hof];simp;omega
   have hk':(k:Int)<f.Instruments[i].Off.Hi-f.Instruments[i].Off.Lo+1:=by rw [←hof];omega
   have hw:IntKind.wrap .i64 ((X5 f i).Lo+(k:Int)+1)=(X5 f i).Lo+((k+1:Nat):Int):=by rw [hof];rw [w64]<;>omega
   have ble:Nat.ble ((b.length+[(X5 f i).Lo+(k:Int)].length)*(8+1)) 200000000000000=true:=by
    apply Nat.ble_eq_true_of_le;simp only [List.length_cons,List.length_nil]
    have:k≤100:=by rw [hof] at hn hk;omega
    omega
   have hr:X2G ((X5 f i).Lo+(k:Int)) (((X5 f i).Hi-(X5 f i).Lo+1).toNat-k)=((X5 f i).Lo+(k:Int))::X2G ((X5 f i).Lo+((k+1:Nat):Int)) (((X5 f i).Hi-(X5 f i).Lo+1).toNat-(k+1)):=by
    rw [show ((X5 f i).Hi-(X5 f i).Lo+1).toNat-k=(((X5 f i).Hi-(X5 f i).Lo+1).toNat-(k+1))+1 by omega,X2G,show (X5 f i).Lo+(k:Int)+1=(X5 f i).Lo+((k+1:Nat):Int) by push_cast;omega]
   rw [hr,List.filter_cons] at hb2
   simp only [XE,XI,i1,i2,Bool.and_self,cond_true,Int.toNat_natCast,hgd,e,hw]
   rw [inner _ (by rw [hof] at *;omega)]
   simp only [Option.bind_some]
   cases hh:X3o f (l.filter (X3a f marks)) p i ((X5 f i).Lo+(k:Int))
   ·rw [hh] at hb2
    exact ⟨b,rfl,by omega,by simpa using hb2⟩
   ·rw [hh] at hb2
    simp only [cond_true,ble]
    exact ⟨b++[(X5 f i).Lo+(k:Int)],rfl,by simp;omega,by simpa using hb2⟩) 0 [] (by omega) ⟨by simp,by simp [X1R]⟩
 have h1':X2b (i:Int) l marks p f (f.Instruments[i].Off.Lo,[])=some w:=by
  rw [←hof]
  have:(X5 f i).Lo+((0:Nat):Int)=(X5 f i).Lo:=by omega
  rw [this] at h1
  exact h1
 rw [h1',h2];rfl

theorem X4E {f:ZJ} (hg:X2m f) (l:List Zn) (p:Zu) (i:Nat) (v:Int):v∈X1R f l p i↔Num f l p 0 0 i v:=by
 unfold X1R Num X6v
 have ho:=X60 hg i
 rw [List.mem_filter,X5Q]
 unfold X3o
 rw [List.all_eq_true]
 constructor
 ·rintro ⟨h1,h2⟩
  refine ⟨by unfold inS;omega,fun x hx _ he => ?_⟩
  have:=h2 x hx
  rw [he] at this
  simp only [decide_true,Bool.not_true,Bool.false_or] at this
  unfold X5K at this
  simp only [Bool.and_eq_true,decide_eq_true_eq] at this
  exact ⟨this.1,this.2.1,this.2.2⟩
 ·rintro ⟨h1,h2⟩
  unfold inS at h1
  refine ⟨by omega,fun x hx => ?_⟩
  by_cases c:x.Instrument.toNat=i
  ·obtain ⟨h3,h4⟩:=h2 x hx (X7N _ _) c
   unfold inS at h4
   unfold X5K
   simp [c,h3,h4.1,h4.2]
  ·simp [c]
end Nore
open Go Go.Ab
namespace Nore

def X5T (f:ZJ) (l:List Zn) (p:Zu) (marks insts:List Bool):Bool:=(List.range f.Instruments.length).all fun i=>insts.getD i false || !(X1R f (l.filter (X3a f marks)) p i).isEmpty
theorem X6c {f:ZJ} (hg:X2m f) {l:List Zn} (hl:∀ x∈l,X17 f x=0) (p:Zu):X5T f l p (List.replicate f.Chart.Marks.length false) (List.replicate f.Instruments.length false)=(atN f l p 0 0).2:=by
 have hf:l.filter (X3a f (List.replicate f.Chart.Marks.length false))=l:=by
  apply List.filter_eq_self.2
  intro x _
  unfold X3a
  have:(List.replicate f.Chart.Marks.length false).getD x.Mark.toNat false=false:=by
   rw [List.getD_eq_getElem?_getD,List.getElem?_replicate]
   split<;>rfl
  rw [this];simp
 rw [Bool.eq_iff_iff,X82 hg]
 unfold X5T
 rw [hf,List.all_eq_true]
 constructor
 ·intro h i
  by_cases c:i<f.Instruments.length
  ·have h1:=h i (List.mem_range.2 c)
   have h2:(List.replicate f.Instruments.length false).getD i false=false:=by
    rw [List.getD_eq_getElem?_getD,List.getElem?_replicate]
    split<;>rfl
   rw [h2,Bool.false_or] at h1
   cases hn:X1R f l p i with
   | nil=>rw [hn] at h1;cases h1
   | cons a r=>exact ⟨a,(X4E hg l p i a).1 (by rw [hn];simp)⟩
  ·refine ⟨0,?_,fun x hx _ he => ?_⟩
   ·unfold inS X5
    rw [dif_neg c];simp
   ·exfalso
    have:=(X7b (hl x hx)).2
    omega
 ·intro h i hi
  obtain ⟨v,hv⟩:=h i
  have:=(X4E hg l p i v).2 hv
  cases hn:X1R f l p i with
  | nil=>rw [hn] at this;cases this
  | cons a r=>simp

theorem X85 (n:Nat) (hn:n≤100):((n:Int)==(n:Int)&&decide (0≤(n:Int))&&Nat.ble (n*(1+1)) 200000000000000&&Nat.blt 0 1)=true:=by
 have b:Nat.ble (n*(1+1)) 200000000000000=true:=by apply Nat.ble_eq_true_of_le;omega
 rw [b]
 simp
theorem X6B:∀ (n:Nat) (lo:Int),(X2G lo n).Pairwise (· < ·)
 | 0,_=>List.Pairwise.nil
 | n+1,lo=>by
  unfold X2G
  refine List.pairwise_cons.2 ⟨fun v hv => ?_,X6B n (lo+1)⟩
  have:=(X5Q n (lo+1) v).1 hv
  omega
theorem X7P {l:List Int} (hp:l.Pairwise (· < ·)) (h:l≠[]):l.getD 0 0∈l∧l.getD (l.length-1) 0∈l∧∀ v∈l,l.getD 0 0≤v∧v≤l.getD (l.length-1) 0:=by
 have hlen:0<l.length:=List.length_pos_iff.2 h
 rw [X0 _ _ _ hlen,X0 _ _ _ (by omega)]
 refine ⟨List.getElem_mem _,List.getElem_mem _,fun v hv => ?_⟩
 obtain ⟨k,hk,rfl⟩:=List.getElem_of_mem hv
 rw [List.pairwise_iff_getElem] at hp
 constructor
 ·by_cases c:k=0
  ·subst c;exact Int.le_refl _
  ·exact Int.le_of_lt (hp 0 k hlen hk (by omega))
 ·by_cases c:k=l.length-1
  ·subst c;exact Int.le_refl _
  ·exact Int.le_of_lt (hp k (l.length-1) hk (by omega) (by omega))

theorem X71 (f:ZJ) (l:List Zn) (p:Zu):X4V f l p=some (if (X1s f l).2=0 then (if X3 (-30000) 30000 [p.X,p.Y] then ([],7) else if (atN f l p 0 0).2 then (X4d f l p,0) else ([],9)) else ([],(X1s f l).2)):=by
 rw [X5G];unfold X29
 rw [X3j]
 simp only [Option.bind_some]
 by_cases h0:(X1s f l).2=0
 ·have hs:=X5m h0
  have hg:=hs.fix
  have hI:=hg.inst
  have hM:=hg.marks
  simp only [h0,beq_self_eq_true,cond_true,bne_self_eq_false,cond_false,if_true]
  rw [X3F p 30000 (by omega)]
  simp only [Option.bind_some]
  have hfo:X2R 30000 p=X3 (-30000) 30000 [p.X,p.Y]:=rfl
  rw [←hfo]
  cases hfar:X2R 30000 p
  ·simp only [Bool.not_false,Bool.not_true,cond_false,Bool.false_eq_true,if_false]
   have hbd:Bd 30000 p:=(X5x 30000 p).1 hfar
   have hrep:l.filter (X3a f (List.replicate f.Chart.Marks.length false))=l:=by
    apply List.filter_eq_self.2
    intro x _
    unfold X3a
    have:(List.replicate f.Chart.Marks.length false).getD x.Mark.toNat false=false:=by
     rw [List.getD_eq_getElem?_getD,List.getElem?_replicate]
     split<;>rfl
    rw [this];simp
   have hnum:∀ i,i<f.Instruments.length→X2y f l p (i:Int) (List.replicate f.Chart.Marks.length false)=some (X1R f l p i):=fun i hi=>by
    rw [X7h hg hs.each (by have:=hs.len;omega) hbd i hi _ (by simp),hrep]
   obtain ⟨w,h1,h2⟩:=X5v (WK l p f) f.Instruments.length (fun i (b:List ZE)=>((i:Int),b)) (fun i b=>b.length=i∧((atN f l p 0 0).2=true→b=(List.range i).map (atN f l p 0 0).1)∧∀ k,k<i→X1R f l p k≠[])
    (fun w=>(w = .inr (X4d f l p)∧(atN f l p 0 0).2=true)∨∃ b c,w = .inl (9,b,c)∧(atN f l p 0 0).2=false)
    (fun b hb=>by
     obtain ⟨hbl,hb1,hb2⟩:=hb
     refine (fun hat:(atN f l p 0 0).2=true => ?_) ?_
     ·exact ⟨.inr b,by simp [WK,WU],.inl ⟨by rw [hb1 hat];rfl,hat⟩⟩
     rw [←X6c hg hs.each]
     unfold X5T
     rw [List.all_eq_true]
     intro k hk
     have:=hb2 k (List.mem_range.1 hk)
     rw [hrep]
     cases hn:X1R f l p k with
     | nil=>exact absurd hn this
     | cons a r=>simp)
    (fun i b hi hb=>by
     obtain ⟨hbl,hb1,hb2⟩:=hb
     have hw:IntKind.wrap .i64 ((i:Int)+1)=((i+1:Nat):Int):=by rw [w64]<;>omega
     have e1:decide ((i:Int)<↑f.Instruments.length)=true:=by simp [hi]
     simp only [WK,WU,e1,hw,cond_true,Int.toNat_natCast]
     rw [X85 _ (by omega)]
     simp only [cond_true]
     rw [hnum i hi]
     simp only [Option.bind_some]
     cases hn:X1R f l p i with
     | nil =>
      left
      refine ⟨_,rfl,.inr ⟨_,_,rfl,?_⟩⟩
      rw [←X6c hg hs.each]
      cases ha:X5T f l p (List.replicate f.Chart.Marks.length false) (List.replicate f.Instruments.length false)
      ·rfl
      ·exfalso
       unfold X5T at ha
       rw [List.all_eq_true] at ha
       have:=ha i (List.mem_range.2 hi)
       rw [hrep,hn] at this
       have h2:(List.replicate f.Instruments.length false).getD i false=false:=by
        rw [List.getD_eq_getElem?_getD,List.getElem?_replicate]
        split<;>rfl
       rw [h2] at this;cases this
     | cons a r =>
      right
      have hne:X1R f l p i≠[]:=by rw [hn];simp
      have hasc:(X1R f l p i).Pairwise (· < ·):=List.Pairwise.filter _ (X6B _ _)
      obtain ⟨a1,a2,a3⟩:=X7P hasc hne
      have hnl:(X1R f l p i).length≤1000:=by
       have h1:=List.length_filter_le (fun v=>X3o f l p i v) (X2G (X5 f i).Lo ((X5 f i).Hi-(X5 f i).Lo+1).toNat)
       have h2:∀ (n:Nat) (lo:Int),(X2G lo n).length=n:=fun n=>by
        induction n with
        | zero=>intro lo;rfl
        | succ n ih=>intro lo;simp [X2G,ih]
       rw [h2] at h1
       have ho:=hg.off _ (List.getElem_mem hi)
       have hf:X2U f.Instruments[i]≤20:=by unfold X2U;split<;>omega
       have hof:X5 f i=f.Instruments[i].Off:=by unfold X5;rw [dif_pos hi]
       rw [hof] at h1
       unfold X1R
       rw [hof]
       omega
      rw [←hn]
      have hpos:0<(X1R f l p i).length:=by rw [hn];simp
      have e0:(((X1R f l p i).length:Int)==0)=false:=by apply X5C;omega
      have e2:decide ((0:Int)<((X1R f l p i).length:Int))=true:=by simp;omega
      have hw2:IntKind.wrap .i64 (((X1R f l p i).length:Int)-1)=(((X1R f l p i).length-1:Nat):Int):=by rw [w64]<;>omega
      have e3:decide ((0:Int)≤(((X1R f l p i).length-1:Nat):Int))=true:=by simp
      have e4:decide ((((X1R f l p i).length-1:Nat):Int)<((X1R f l p i).length:Int))=true:=by simp;omega
      have ble:∀ y:ZE,Nat.ble ((b.length+[y].length)*(16+1)) 200000000000000=true:=fun y=>by
       apply Nat.ble_eq_true_of_le;simp only [List.length_cons,List.length_nil];omega
      simp only [e0,e2,hw2,e3,e4,Int.le_refl,Nat.le_refl,decide_true,cond_false,cond_true,Bool.and_self,ble,Int.toNat_natCast,show Int.toNat 0=0 from rfl]
      refine ⟨_,rfl,by simp;omega,fun hat => ?_,fun k hk => ?_⟩
      ·obtain ⟨s1,s2⟩:=X7X hg hat i
       have b1:=(s2 _).2 ((X4E hg l p i _).1 a1)
       have b2:=(s2 _).2 ((X4E hg l p i _).1 a2)
       have b3:=a3 _ ((X4E hg l p i _).2 ((s2 ((atN f l p 0 0).1 i).Lo).1 ⟨Int.le_refl _,s1⟩))
       have b4:=a3 _ ((X4E hg l p i _).2 ((s2 ((atN f l p 0 0).1 i).Hi).1 ⟨s1,Int.le_refl _⟩))
       unfold inS at b1 b2
       rw [hb1 hat,List.range_succ,List.map_append]
       congr 1
       simp only [List.map_cons,List.map_nil]
       congr 1
       exact ZE.ext (by simp only;omega) (by simp only;omega)
      ·by_cases c:k=i
       ·subst c;exact hne
       ·exact hb2 k (by omega)) 0 [] (by omega) ⟨rfl,fun _=>rfl,fun k hk=>by omega⟩
   have h1':X21 l p f (0,[])=some w:=h1
   rw [h1']
   rcases h2 with ⟨h3,h4⟩|⟨b,c,h3,h4⟩
   ·subst h3;simp [h4]
   ·subst h3;simp [h4]
  ·simp
 ·simp [h0,WY h0,X5C h0]
end Nore
open Go Go.Ab
namespace Nore

theorem X5B (f:ZJ) (l:List Zn):X2z f l=some (X1s f l):=by
 rw [X3V];unfold Wp
 rw [X42];unfold X1d
 rw [X4s]
 unfold X1s
 simp only [Option.bind_some]
 by_cases h:(X2e f).2.2=0
 ·have hg:=X5Z h
  simp only [h,bne_self_eq_false,cond_false,ne_eq,not_true,if_false]
  by_cases h8:8<l.length
  ·have:decide ((l.length:Int)>8)=true:=by simp;omega
   rw [this];simp [h8]
  ·have:decide ((l.length:Int)>8)=false:=by simp;omega
   rw [this]
   simp only [cond_false,h8,if_false]
   obtain ⟨kit,hk1,hk2⟩:=X7e f hg.inst.2
   rw [hk1,Option.bind_some]
   rw [X6O hg l (by omega) hk2]
   by_cases he:(Xw f 0 l).2=0
   ·have h0:∀ (l:List Zn) (i:Nat),(Xw f i l).2=0→Xw f i l=(0,0):=fun l=>by
     induction l with
     | nil=>intro i _;rfl
     | cons x l ih =>
      intro i h
      simp only [Xw] at h ⊢
      by_cases c:X17 f x=0
      ·simp only [c,if_true] at h ⊢;exact ih _ h
      ·simp only [c,if_false] at h ⊢
    rw [h0 l 0 he]
    simp
   ·simp [he]
 ·simp [h,WY h]

theorem X6R (f:ZJ) (l:List Zn) (p:Zu):X3p f l p=some true:=by
 rw [X4C];unfold X1j
 rw [X4s,X5a]
 simp only [Option.bind_some,bne_self_eq_false,cond_false]
 rw [X5B,X3j]
 simp only [Option.bind_some,bne_self_eq_false,cond_false]
 rw [X6V,X71]
 simp only [Option.bind_some]
 rw [X7v _ (by
  split
  ·rename_i h0
   have:=(X5m h0).fix.inst.2
   split
   ·simp
   ·split
    ·have:(X4d f l p).length=f.Instruments.length:=by unfold X4d;simp
     simp only;omega
    ·simp
  ·simp)]
 simp
end Nore
