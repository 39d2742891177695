/- The plain functions of the program and of the document answer alike. -/
import Derived.Test.YtehofdemanfenaaGreatD
import Derived.Test.YtehofdemanfenaaGreatY
set_option linter.unusedSectionVars false
set_option linter.unusedVariables false
set_option linter.unusedSimpArgs false
namespace Nore.Geo
def vxL:List Int:=[0,195,383,556,707,831,924,981,1000,981,924,831,707,556,383,195,0,-195,-383,-556,-707,-831,-924,-981,-1000,-981,-924,-831,-707,-556,-383,-195]
def vyL:List Int:=[1000,981,924,831,707,556,383,195,0,-195,-383,-556,-707,-831,-924,-981,-1000,-981,-924,-831,-707,-556,-383,-195,0,195,383,556,707,831,924,981]
def vx (p:Nat):Int:=vxL.getD p 0
def vy (p:Nat):Int:=vyL.getD p 0
def crs (p:Nat) (X Y:Int):Int:=vx p*Y-vy p*X
def cc (p q:Nat):Int:=vx p*vy q-vy p*vx q
theorem plucker (t u p:Nat) (X Y:Int):cc u t*crs p X Y=cc p t*crs u X Y+(- crs t X Y)*cc p u:=by
 unfold cc crs
 generalize vx t=a,vy t=b,vx u=c,vy u=d,vx p=e,vy p=f
 grind
def Tow (t:Nat) (X Y:Int):Prop:=crs t X Y≤0∧crs ((t+1) % 32) X Y>0
theorem tab0:∀ t,t<32→cc ((t+1) % 32) t>0:=by decide
theorem tab1:∀ t,t<32→∀ j,j<15→cc ((t+(j+1)) % 32) t>0∧cc ((t+(j+1)) % 32) ((t+1) % 32)≥0:=by decide
theorem tab2:∀ t,t<32→∀ j,j<16→cc ((t+(j+17)) % 32) t≤0∧cc ((t+(j+17)) % 32) ((t+1) % 32)≤0:=by decide
theorem tow_pos {t:Nat} {X Y:Int} (ht:t<32) (h:Tow t X Y) (j:Nat) (h1:1≤j) (h2:j≤15):crs ((t+j) % 32) X Y>0:=by
 obtain ⟨ha,hb⟩:=h
 have k0:=tab0 t ht
 have k1:=tab1 t ht (j-1) (by omega)
 rw [show j-1+1=j by omega] at k1
 have e:=plucker t ((t+1) % 32) ((t+j) % 32) X Y
 generalize crs ((t+j) % 32) X Y=z at *
 generalize crs ((t+1) % 32) X Y=y at *
 generalize crs t X Y=x at *
 obtain ⟨k1,k2⟩:=k1
 generalize cc ((t+1) % 32) t=K at *
 generalize cc ((t+j) % 32) t=A at *
 generalize cc ((t+j) % 32) ((t+1) % 32)=B at *
 have p1:A*y>0:=Int.mul_pos k1 hb
 have p2:(-x)*B≥0:=Int.mul_nonneg (by omega) k2
 have p3:K*z>0:=by omega
 exact Int.pos_of_mul_pos_right p3 k0 |> fun h=>h
theorem tow_neg {t:Nat} {X Y:Int} (ht:t<32) (h:Tow t X Y) (j:Nat) (h1:17≤j) (h2:j≤32):crs ((t+j) % 32) X Y≤0:=by
 obtain ⟨ha,hb⟩:=h
 have k0:=tab0 t ht
 have k1:=tab2 t ht (j-17) (by omega)
 rw [show j-17+17=j by omega] at k1
 have e:=plucker t ((t+1) % 32) ((t+j) % 32) X Y
 generalize crs ((t+j) % 32) X Y=z at *
 generalize crs ((t+1) % 32) X Y=y at *
 generalize crs t X Y=x at *
 obtain ⟨k1,k2⟩:=k1
 generalize cc ((t+1) % 32) t=K at *
 generalize cc ((t+j) % 32) t=A at *
 generalize cc ((t+j) % 32) ((t+1) % 32)=B at *
 have p1:A*y≤0:=Int.mul_nonpos_of_nonpos_of_nonneg k1 (by omega)
 have p2:(-x)*B≤0:=Int.mul_nonpos_of_nonneg_of_nonpos (by omega) k2
 have p3:K*z≤0:=by omega
 apply Int.not_lt.1
 intro hz
 have:=Int.mul_pos k0 hz
 omega
theorem tow_sign {t:Nat} {X Y:Int} (ht:t<32) (h:Tow t X Y) (p:Nat) (hp:p<32) (hne:p≠(t+16) % 32):(crs p X Y>0)↔(1≤(p+32-t) % 32∧(p+32-t) % 32≤15):=by
 have hj:(t+(p+32-t) % 32) % 32=p:=by omega
 constructor
 ·intro hs
  by_cases h1:1≤(p+32-t) % 32∧(p+32-t) % 32≤15
  ·exact h1
  ·exfalso
   by_cases h0:(p+32-t) % 32=0
   ·have:p=t:=by omega
    subst this
    have:=h.1
    omega
   ·have:=tow_neg ht h ((p+32-t) % 32) (by omega) (by omega)
    rw [hj] at this
    omega
 ·intro h1
  have:=tow_pos ht h _ h1.1 h1.2
  rw [hj] at this
  exact this
theorem tow_unique {t u:Nat} {X Y:Int} (ht:t<32) (hu:u<32) (h:Tow t X Y) (h':Tow u X Y):u=t:=by
 have a:=tow_sign ht h u hu
 have b:=tow_sign ht h ((u+1) % 32) (by omega)
 have a':=h'.1
 have b':=h'.2
 by_cases e:u=(t+16) % 32
 ·have e2:(u+1) % 32≠(t+16) % 32:=by omega
  have:=(b e2).1 b'
  omega
 ·by_cases e2:(u+1) % 32=(t+16) % 32
  ·have e3:(u+32-t) % 32=15:=by omega
   have:=(a e).2 (by omega)
   omega
  ·have:=(b e2).1 b'
   have e3:¬ (1≤(u+32-t) % 32∧(u+32-t) % 32≤15):=fun hh=>by have:=(a e).2 hh;omega
   omega
theorem opp:∀ p,p<16→vx (p+16) = - vx p∧vy (p+16) = - vy p:=by decide
theorem tow_exists {X Y:Int} (h:X≠0∨Y≠0):∃ t,t<32∧Tow t X Y:=by
 by_cases hx:∃ t,t<32∧Tow t X Y
 ·exact hx
 ·exfalso
  have hn:∀ t,t<32→crs t X Y≤0→crs ((t+1) % 32) X Y≤0:=fun t ht h1=>by
   apply Int.not_lt.1
   intro h2
   exact hx ⟨t,ht,h1,h2⟩
  have all:∀ t,t<32→crs t X Y≤0→∀ j,crs ((t+j) % 32) X Y≤0:=fun t ht h1 j=>by
   induction j with
   | zero=>rw [show (t+0) % 32=t by omega];exact h1
   | succ j ih =>
    have:=hn ((t+j) % 32) (by omega) ih
    rw [show ((t+j) % 32+1) % 32=(t+(j+1)) % 32 by omega] at this
    exact this
  have o:=opp
  have c0:crs 0 X Y = - (1000*X):=by unfold crs;simp only [show vx 0=0 from rfl,show vy 0=1000 from rfl];omega
  have c8:crs 8 X Y=1000*Y:=by unfold crs;simp only [show vx 8=1000 from rfl,show vy 8=0 from rfl];omega
  have c16:crs 16 X Y=1000*X:=by unfold crs;simp only [show vx 16=0 from rfl,show vy 16 = -1000 from rfl];omega
  have c24:crs 24 X Y = - (1000*Y):=by unfold crs;simp only [show vx 24 = -1000 from rfl,show vy 24=0 from rfl];omega
  have z:∃ t,t<32∧crs t X Y≤0:=by
   by_cases h0:crs 0 X Y≤0
   ·exact ⟨0,by omega,h0⟩
   ·exact ⟨16,by omega,by omega⟩
  obtain ⟨t,ht,h1⟩:=z
  have r:∀ p,p<32→crs p X Y≤0:=fun p hp=>by
   have:=all t ht h1 (p+32-t)
   rw [show (t+(p+32-t)) % 32=p by omega] at this
   exact this
  have r0:=r 0 (by omega)
  have r8:=r 8 (by omega)
  have r16:=r 16 (by omega)
  have r24:=r 24 (by omega)
  omega
def isTow (X Y:Int) (t:Nat):Bool:=decide (crs t X Y≤0)&&decide (crs ((t+1) % 32) X Y>0)
def tow (X Y:Int):Nat:=((List.range 32).find? (isTow X Y)).getD 0
theorem isTow_iff {X Y:Int} {t:Nat}:isTow X Y t=true↔Tow t X Y:=by simp [isTow,Tow]
theorem tow_spec {X Y:Int} (h:X≠0∨Y≠0):tow X Y<32∧Tow (tow X Y) X Y:=by
 obtain ⟨t,ht,hT⟩:=tow_exists h
 unfold tow
 cases hf:(List.range 32).find? (isTow X Y) with
 | none =>
  rw [List.find?_eq_none] at hf
  exact absurd (isTow_iff.2 hT) (hf t (by simp [ht]))
 | some u =>
  have h1:=List.find?_some hf
  have h2:=List.mem_of_find?_eq_some hf
  simp only [Option.getD_some]
  exact ⟨by simpa using h2,isTow_iff.1 h1⟩
theorem tow_eq {X Y:Int} {t:Nat} (ht:t<32) (hT:Tow t X Y):tow X Y=t:=by
 have h:X≠0∨Y≠0:=by
  apply Classical.byContradiction
  intro hc
  have:X=0∧Y=0:=by omega
  obtain ⟨rfl,rfl⟩:=this
  have:=hT.2
  simp [crs] at this
 have:=tow_spec h
 exact tow_unique ht this.1 hT this.2
end Nore.Geo
open Go Go.Ab
namespace Nore
theorem w64 {x:Int} (h1 : -9223372036854775808≤x) (h2:x≤9223372036854775807):IntKind.wrap .i64 x=x:=by
 simp only [IntKind.wrap,IntKind.signed,IntKind.bits]
 simp
 omega
theorem jS {α β:Type} (a:α) (f:α→Option β):Option.bind (some a) f=f a:=rfl
theorem kS (n:Nat):Int.toNat (n:Int)=n:=rfl
theorem wS (i:Nat) (h:i<9223372036854775807):IntKind.wrap .i64 ((i:Int)+1)=((i+1:Nat):Int):=by rw [w64]<;>omega
theorem z0S (i:Nat):decide ((0:Int)≤↑i)=true:=by simp
theorem X49 {σ ω γ:Type} (st:σ→Option (σ⊕ω)) (k:ω→Option γ) (s:σ):Option.bind (Z8S st s) k=Option.bind (st s) (Sum.elim (fun s'=>Option.bind (Z8S st s') k) k):=by
 rw [ZgX]
 cases st s with
 | none=>rfl
 | some r=>cases r<;>rfl
theorem X5 {β σ ω γ:Type} (st:σ→Option (σ⊕ω)) (k:ω→Option γ) (n:Nat) (emb:Nat→β→σ) (P:Nat→β→Prop) (nice:Nat→β→Option γ)
  (hd:∀ b,P n b→∀ R:σ→Option γ,Option.bind (st (emb n b)) (Sum.elim R k)=nice n b)
  (hn:∀ i b,i<n→P i b→∀ R:σ→Option γ,(∀ b',P (i+1) b'→R (emb (i+1) b')=nice (i+1) b')→Option.bind (st (emb i b)) (Sum.elim R k)=nice i b) :
  ∀ i b,i≤n→P i b→Option.bind (Z8S st (emb i b)) k=nice i b:=by
 intro i b hi hP
 induction hj:n-i generalizing i b with
 | zero =>
  have:i=n:=by omega
  subst this
  rw [X49];exact hd b hP _
 | succ j ih =>
  rw [X49]
  exact hn i b (by omega) hP _ fun b' hb'=>ih (i+1) b' (by omega) hb' (by omega)
theorem X2s {γ:Type} (o:Option γ):Option.bind o (fun x=>some x)=o:=by cases o<;>rfl
theorem X5j {β σ ω:Type} (st:σ→Option (σ⊕ω)) (n:Nat) (emb:Nat→β→σ) (P:Nat→β→Prop) (nice:Nat→β→Option ω)
  (hd:∀ b,P n b→∀ R:σ→Option ω,Option.bind (st (emb n b)) (Sum.elim R some)=nice n b)
  (hn:∀ i b,i<n→P i b→∀ R:σ→Option ω,(∀ b',P (i+1) b'→R (emb (i+1) b')=nice (i+1) b')→Option.bind (st (emb i b)) (Sum.elim R some)=nice i b)
  (i:Nat) (b:β) (hi:i≤n) (hP:P i b):Z8S st (emb i b)=nice i b:=by
 rw [←X2s (Z8S st (emb i b))]
 exact X5 st some n emb P nice hd hn i b hi hP
theorem X3I {a b:Int} (h:¬ a=b):(a==b)=false:=beq_eq_false_iff_ne.2 h
theorem W8 {a b:Int} (h:¬ a=b):(a != b)=true:=bne_iff_ne.2 h
theorem X0 {α:Type} (l:List α) (i:Nat) (d:α) (h:i<l.length):l.getD i d=l[i]:=by simp [List.getD,h]
def X4 (lo hi:Int) (l:List Int):Bool:=l.any fun n=>decide (n<lo)||decide (n>hi)
@[simp] theorem X7b (lo hi:Int):X4 lo hi []=false:=rfl
@[simp] theorem X4o (lo hi n:Int) (l:List Int):X4 lo hi (n::l)=(decide (n<lo)||decide (n>hi)||X4 lo hi l):=rfl
def inN (n lo hi:Int):Bool:=decide (lo≤n)&&decide (n≤hi)
theorem X14 (lo up:Int) (l:List Int) (hl:l.length<1000000):X1u lo up l=some (X4 lo up l):=by
 have key:=X5 (X1v (↑l.length) l up lo) (fun o3=>Sum.elim (fun y4:Int=>some (decide (y4≥0))) (fun _=>some (decide ((-1:Int)≥0))) o3) l.length (fun i (_:Unit)=>(i:Int)) (fun _ _=>True) (fun i _=>some (X4 lo up (l.drop i)))
  (by
   intro b _ R
   simp [X1v,X1C])
  (by
   intro i b hi _ R hR
   have hR':=hR () trivial
   simp only [X1v,X1C]
   rw [List.drop_eq_getElem_cons hi]
   simp only [kS,X0 _ _ _ hi,X4o]
   have hw:=wS i (by omega)
   rw [hw]
   have h1:decide ((i:Int)<↑l.length)=true:=by simp [hi]
   have h2:=z0S i
   simp only [h1,h2,Bool.and_self,cond_true]
   by_cases h3:l[i]<lo
   ·simp [h3]
   ·by_cases h4:l[i]>up
    ·simp [h3,h4]
    ·simp [h3,h4];exact hR')
 exact (key 0 () (by omega) trivial).trans (by simp)
theorem Wv (n lo hi:Int):WY n lo hi=some (inN n lo hi):=by
 unfold WY inN
 by_cases h:lo≤n<;>simp [h]
end Nore
open Go Go.Ab
namespace Nore
def X68:Int→List UInt8→Option Int
 | last,[]=>some last
 | last,c::l=>if 97≤(c.toNat:Int)∧(c.toNat:Int)≤122 then X68 c.toNat l else if (c.toNat:Int)≠45∨last=45 then none else X68 c.toNat l
def X4U:Option Int→Bool
 | none=>false
 | some last=>last != 45
def X69 (s:ByteArray):Bool:=decide (s.size≤14)&&X4U (X68 45 s.toList)
theorem X9w (s:ByteArray) (i:Nat) (h:(s.get! i).toNat<128):Utf8.decode s i=((s.get! i).toNat,1):=by
 unfold Utf8.decode;simp only [Nat.add_zero];rw [if_pos h]
theorem X9v (s:ByteArray) (i:Nat) (h:¬ (s.get! i).toNat<128):128≤(Utf8.decode s i).1:=by
 unfold Utf8.decode
 simp only [Nat.add_zero,Utf8.runeError]
 rw [if_neg h]
 repeat' split
 all_goals simp_all
 all_goals omega
theorem X23 (s:ByteArray):s.toList.length=s.size:=by rw [ByteArray.toList_eq];rfl
theorem X96 (s:ByteArray) (i:Nat) (h:i<s.toList.length):s.get! i=s.toList[i]:=by
 have hs:i<s.size:=by rw [←X23];exact h
 simp only [ByteArray.toList_eq]
 show s.data[i]! = _
 have h2:i<s.data.size:=hs
 rw [getElem!_pos s.data i h2]
 rfl
theorem X53 (s:ByteArray):X30 s=some (X69 s):=by
 have key:=X5 (X19 s s) (fun o0=>Sum.elim (fun y1:Bool×Nat=>some y1.fst) (fun y2:Int×Nat=>bif decide ((↑(ByteArray.size s):Int)≤14) then some (y2.fst != 45) else some false) o0) s.toList.length (fun i (b:Int)=>(b,i)) (fun _ _=>True) (fun i b=>some (decide (s.size≤14)&&X4U (X68 b (s.toList.drop i))))
  (by
   intro b _ R
   have hh:(decide ((↑s.size:Int)≤14))=decide (s.size≤14):=by rw [decide_eq_decide];omega
   have hd:s.toList.drop s.size=[]:=List.drop_eq_nil_of_le (by rw [X23];exact Nat.le_refl _)
   simp only [hd,X68,X4U,X19,X1b,X23,hh,Nat.lt_irrefl,decide_false,cond_false,jS,Sum.elim_inr]
   cases decide (s.size≤14)<;>simp)
  (by
   intro i b hi _ R hR
   have hs:i<s.size:=by rw [←X23];exact hi
   have hg:=X96 s i hi
   simp only [X19,X1b]
   rw [List.drop_eq_getElem_cons hi]
   simp only [X68]
   by_cases h:(s.get! i).toNat<128
   ·rw [X9w s i h]
    have hR':=hR ((s.get! i).toNat:Int) trivial
    rw [hg] at *
    generalize s.toList[i]=c at *
    simp only [hs,decide_true,cond_true]
    by_cases h1:97≤(c.toNat:Int)
    ·have q1:decide ((c.toNat:Int)≥97)=true:=decide_eq_true h1
     by_cases h2:(c.toNat:Int)≤122
     ·have q2:decide ((c.toNat:Int)≤122)=true:=decide_eq_true h2
      simp only [decide_true,decide_false,q1,q2,cond_true,jS,Sum.elim_inl,h1,h2,and_self,if_true]
      exact hR'
     ·have q2:decide ((c.toNat:Int)≤122)=false:=decide_eq_false h2
      have h3:¬ ((c.toNat:Int)=45):=by omega
      have q3:((c.toNat:Int) != 45)=true:=bne_iff_ne.2 h3
      simp only [decide_true,decide_false,q1,q2,q3,cond_true,cond_false,jS,Sum.elim_inl,Sum.elim_inr,h2,and_false,if_false,ne_eq,h3,not_false_iff,true_or,if_true,X4U,Bool.and_false]
    ·have q1:decide ((c.toNat:Int)≥97)=false:=decide_eq_false h1
     by_cases h3:(c.toNat:Int)=45
     ·have q3:((c.toNat:Int) != 45)=false:=by rw [h3];rfl
      by_cases h4:b=45
      ·have q4:(b==45)=true:=by rw [h4];rfl
       rw [q1,q3,q4,if_neg (fun hc=>h1 hc.1),if_pos (Or.inr h4)]
       simp [X4U]
      ·have q4:(b==45)=false:=beq_eq_false_iff_ne.2 h4
       simp only [decide_true,decide_false,q1,q3,q4,cond_true,cond_false,jS,Sum.elim_inl,Sum.elim_inr,h1,false_and,if_false,h4,ne_eq,h3,not_true,or_self,if_true]
       rw [h3] at hR'
       exact hR'
     ·have q3:((c.toNat:Int) != 45)=true:=bne_iff_ne.2 h3
      simp only [decide_true,decide_false,q1,q3,cond_true,cond_false,jS,Sum.elim_inl,Sum.elim_inr,h1,false_and,if_false,ne_eq,h3,not_false_iff,true_or,if_true,X4U,Bool.and_false]
   ·have h':=X9v s i h
    rw [hg] at h
    generalize s.toList[i]=c at *
    simp only [hs,decide_true,cond_true]
    generalize (Utf8.decode s i)=d at *
    have e1:((d.1:Nat):Int)≥97:=by omega
    have e2:¬ ((d.1:Nat):Int)≤122:=by omega
    have e3:¬ ((d.1:Nat):Int)=45:=by omega
    have e4:¬ ((c.toNat:Int)≤122):=by omega
    have e5:¬ ((c.toNat:Int)=45):=by omega
    have q1:decide (((d.1:Nat):Int)≥97)=true:=decide_eq_true e1
    have q2:decide (((d.1:Nat):Int)≤122)=false:=decide_eq_false e2
    have q3:(((d.1:Nat):Int) != 45)=true:=bne_iff_ne.2 e3
    simp only [decide_true,decide_false,q1,q2,q3,cond_true,cond_false,jS,Sum.elim_inl,Sum.elim_inr,e4,and_false,if_false,ne_eq,e5,not_false_iff,true_or,if_true,X4U,Bool.and_false])
 exact (key 0 45 (by omega) trivial).trans (by simp [X69])
theorem X8f (s:ByteArray):X4D s=some (X69 s):=by
 unfold X4D
 rw [Wv]
 simp only [jS]
 by_cases hsz:1≤s.size∧s.size≤14
 ·have e1:inN (↑s.size) 1 14=true:=by simp [inN];omega
  rw [e1]
  simp only [Bool.not_true,cond_false]
  have hl:=X23 s
  have key:=X5 (X1a s) (fun o0=>Sum.elim (fun y76:Bool=>some y76) (fun _:Unit=>some true) o0) s.toList.length (fun i (_:Int)=>(i:Int)) (fun i b=>b=if i=0 then 45 else ((s.toList.getD (i-1) 0).toNat:Int)) (fun i b=>some (if i<s.toList.length then X4U (X68 b (s.toList.drop i)) else true))
   (by
    intro b _ R
    simp [X1a,X1h,X23])
   (by
    intro i b hi hP R hR
    have hs:i<s.size:=by rw [←X23];exact hi
    simp only [X1a,X1h]
    rw [List.drop_eq_getElem_cons hi]
    have hR':=hR ((s.toList[i]).toNat:Int) (by simp [List.getD,hi])
    have hw:=wS i (by omega)
    have hw1:IntKind.wrap .i64 ((i:Int)-1)=((i:Int)-1):=by rw [w64]<;>omega
    have hw2:IntKind.wrap .i64 ((s.size:Int)-1)=((s.size:Int)-1):=by rw [w64]<;>omega
    simp only [X68,kS,X0 _ _ _ hi,hw,hw1,hw2]
    have d1:decide ((i:Int)<↑s.size)=true:=by simp [hs]
    have d2:=z0S i
    simp only [d1,d2,Bool.and_self,cond_true,hi,if_true]
    generalize hc:s.toList[i]=c at *
    by_cases h1:97≤(c.toNat:Int)∧(c.toNat:Int)≤122
    ·have q1:decide ((c.toNat:Int)≥97)=true:=decide_eq_true h1.1
     have q2:decide ((c.toNat:Int)≤122)=true:=decide_eq_true h1.2
     simp only [decide_true,decide_false,q1,q2,cond_true,jS,Sum.elim_inl,h1,and_self,if_true]
     have hne:¬ ((c.toNat:Int)=45):=by omega
     rw [hR']
     by_cases hi2:i+1<s.toList.length
     ·simp [hi2]
     ·have:s.toList.drop (i+1)=[]:=List.drop_eq_nil_of_le (by omega)
      simp [hi2,this,X68,X4U,hne]
    ·have g:(bif decide ((c.toNat:Int)≥97) then bif decide ((c.toNat:Int)≤122) then true else false else false)=false:=by
      by_cases a1:(c.toNat:Int)≥97
      ·by_cases a2:(c.toNat:Int)≤122
       ·exact absurd ⟨a1,a2⟩ h1
       ·simp [a1,a2]
      ·simp [a1]
     have g2:∀ (Z:Type) (x y:Z),(bif decide ((c.toNat:Int)≥97) then bif decide ((c.toNat:Int)≤122) then x else y else y)=y:=by
      intro Z x y
      by_cases a1:(c.toNat:Int)≥97
      ·by_cases a2:(c.toNat:Int)≤122
       ·exact absurd ⟨a1,a2⟩ h1
       ·simp [a1,a2]
      ·simp [a1]
     rw [g2,if_neg h1]
     by_cases h2:(c.toNat:Int)=45
     ·simp only [h2,bne_self_eq_false,cond_false]
      by_cases h3:i=0
      ·subst h3
       simp [hP,X4U]
      ·by_cases h4:i+1=s.size
       ·have:s.toList.drop (i+1)=[]:=List.drop_eq_nil_of_le (by omega)
        have e5:(i:Int)=(s.size:Int)-1:=by omega
        have e6:((s.size:Int)-1==0)=false:=by simp;omega
        simp only [e5,e6,this,X68]
        by_cases h5:b=45<;>simp [h5,X4U]
       ·have e5:((i:Int)==(s.size:Int)-1)=false:=by simp;omega
        have e6:((i:Int)==0)=false:=by simp;omega
        have e7:(0:Int)≤(i:Int)-1:=by omega
        have e8:(i:Int)-1<(s.size:Int):=by omega
        have e9:((i:Int)-1).toNat=i-1:=by omega
        simp only [e5,e6,e7,e8,e9,cond_false,decide_true,Bool.and_self,cond_true]
        simp only [h3,if_false] at hP
        rw [←hP]
        by_cases h5:b=45
        ·simp [h5,X4U]
        ·have q5:(b==45)=false:=beq_eq_false_iff_ne.2 h5
         rw [h2] at hR'
         rw [q5]
         simp only [cond_false,jS,Sum.elim_inl,ne_eq,not_true,false_or,h5,if_false]
         rw [hR']
         simp [show i+1<s.toList.length by omega]
     ·have:((c.toNat:Int) != 45)=true:=by simp [h2]
      simp [this,h2,X4U])
  have:=key 0 45 (by omega) (by simp)
  refine this.trans ?_
  simp [X69,show 0<s.toList.length by omega,hsz.2]
 ·have e1:inN (↑s.size) 1 14=false:=by
   simp [inN];omega
  rw [e1]
  simp only [Bool.not_false,cond_true,X69]
  by_cases h:s.size≤14
  ·have h0:s.toList=[]:=by
    apply List.eq_nil_of_length_eq_zero;rw [X23];omega
   simp [h0,X68,X4U]
  ·simp [h]
end Nore
open Go Go.Ab
namespace Nore
def X3k (m:Int) (p:Zu):Bool:=X4 (-m) m [p.X,p.Y]
def X4V:Int→List Zk→Int
 | _,[]=>0
 | last,p::l=>if X4 0 40000 [p.Day]||X4 0 4 [p.Colour] then 7 else if p.Day≤last then 2 else X4V p.Day l
def X3E (l:List Zk):Int:=if X4 1 4 [(l.length:Int)] then 3 else X4V (-1) l
def X8u (b:ZB) (m w:Int):Int:=if X4 (-m) m [b.X.Lo,b.X.Hi,b.Y.Lo,b.Y.Hi] then 7 else if X4 0 w [b.X.Hi-b.X.Lo,b.Y.Hi-b.Y.Lo] then 2 else 0
theorem X1n (n lo hi:Int):inN n lo hi = !X4 lo hi [n]:=by
 simp only [inN,X4o,X7b,Bool.or_false,Bool.not_or]
 congr 1<;>rw [←decide_not,decide_eq_decide]<;>omega
theorem X5n (m:Int) (hm:0≤m∧m≤1000000) (l:List Zu) (hl:l.length<1000000):X4n m l=some (l.any (X3k m)):=by
 have hm1:IntKind.wrap .i64 (0-m) = -m:=by rw [w64]<;>omega
 have key:=X5 (X1t (↑l.length) l m) (fun o7=>Sum.elim (fun y8:Int×Zu×(List Int)=>some (decide (y8.fst≥0))) (fun _=>some (decide ((-1:Int)≥0))) o7) l.length (fun i (_:Unit)=>(i:Int)) (fun _ _=>True) (fun i _=>some ((l.drop i).any (X3k m)))
  (by
   intro b _ R
   simp [X1t,X1B])
  (by
   intro i b hi _ R hR
   have hR':=hR () trivial
   simp only [X1t,X1B]
   rw [List.drop_eq_getElem_cons hi]
   have hw:=wS i (by omega)
   simp only [kS,X0 _ _ _ hi,List.any_cons,hm1,hw]
   rw [X14 _ _ _ (by simp)]
   have h1:decide ((i:Int)<↑l.length)=true:=by simp [hi]
   have h2:=z0S i
   simp only [h1,h2,Bool.and_self,cond_true,jS]
   change Option.bind (bif X3k m l[i] then _ else _) _=_
   cases h3:X3k m l[i]
   ·simp;exact hR'
   ·simp)
 exact (key 0 () (by omega) trivial).trans (by simp)
theorem X4d (p:Zu) (m:Int) (hm:0≤m∧m≤1000000):X2a p m=some (!X3k m p):=by
 have hm1:IntKind.wrap .i64 (0-m) = -m:=by rw [w64]<;>omega
 unfold X2a
 rw [Wv,Wv,hm1,X1n,X1n]
 simp only [jS,X3k,X4o,X7b,Bool.or_false]
 cases (decide (p.X < -m)||decide (p.X>m))<;>simp
theorem X7E (l:List Zk):X3j l=some (X3E l):=by
 unfold X3j X3E
 rw [X14 _ _ _ (by simp)]
 simp only [jS]
 cases hb:X4 1 4 [(l.length:Int)]
 ·simp only [cond_false,Bool.false_eq_true,if_false]
  have hl:1≤l.length∧l.length≤4:=by simp at hb;omega
  exact X5 (We (↑l.length) l [↑l.length]) _ l.length (fun i (b:Int)=>(b,(i:Int))) (fun _ _=>True) (fun i b=>some (X4V b (l.drop i)))
   (by
    intro b _ R
    simp [We,Wp,X4V])
   (by
    intro i b hi _ R hR
    have hR':=hR (l[i].Day) trivial
    simp only [We,Wp]
    rw [List.drop_eq_getElem_cons hi]
    have hw:=wS i (by omega)
    simp only [kS,X0 _ _ _ hi,X4V,hw]
    rw [X14 _ _ _ (by simp),X14 _ _ _ (by simp)]
    have h1:decide ((i:Int)<↑l.length)=true:=by simp [hi]
    have h2:=z0S i
    simp only [h1,h2,Bool.and_self,cond_true,jS]
    cases h3:X4 0 40000 [l[i].Day]
    ·cases h4:X4 0 4 [l[i].Colour]
     ·by_cases h5:l[i].Day≤b
      ·simp [h5]
      ·simp [h5];exact hR'
     ·simp
    ·simp) 0 (-1) (by omega) trivial
 ·simp
theorem X7H (l:List Zk):X2H l=some (X3E l):=by
 unfold X2H X3E
 rw [Wv,X1n]
 simp only [jS]
 cases hb:X4 1 4 [(l.length:Int)]
 ·simp only [Bool.not_false,Bool.not_true,cond_false,Bool.false_eq_true,if_false]
  have hl:1≤l.length∧l.length≤4:=by simp at hb;omega
  exact X5 (Wj l) _ l.length (fun i (_:Int)=>(i:Int)) (fun i b=>b=if i=0 then -1 else (l.getD (i-1) ⟨0,0⟩).Day) (fun i b=>some (X4V b (l.drop i)))
   (by
    intro b _ R
    simp [Wj,Ww,X4V])
   (by
    intro i b hi hP R hR
    have hR':=hR (l[i].Day) (by simp [List.getD,hi])
    simp only [Wj,Ww]
    rw [List.drop_eq_getElem_cons hi]
    have hw:=wS i (by omega)
    have hw1:IntKind.wrap .i64 ((i:Int)-1)=((i:Int)-1):=by rw [w64]<;>omega
    simp only [kS,X0 _ _ _ hi,X4V,hw,hw1]
    rw [Wv,Wv,X1n,X1n]
    have h1:decide ((i:Int)<↑l.length)=true:=by simp [hi]
    have h2:=z0S i
    simp only [h1,h2,Bool.and_self,cond_true,jS]
    cases h3:X4 0 40000 [l[i].Day]
    ·cases h4:X4 0 4 [l[i].Colour]
     ·by_cases h0:i=0
      ·subst h0
       simp at hP h3
       have h5:¬ l[0].Day≤b:=by omega
       simp [h5];simpa using hR'
      ·have e7:(0:Int)≤(i:Int)-1:=by omega
       have e8:(i:Int)-1<(l.length:Int):=by omega
       have e9:((i:Int)-1).toNat=i-1:=by omega
       have e10:(i:Int)>0:=by omega
       simp only [e7,e8,e9,e10,decide_true,Bool.and_self,cond_true]
       simp only [h0,if_false] at hP
       rw [←hP]
       by_cases h5:l[i].Day≤b
       ·simp [h5]
       ·simp [h5];exact hR'
     ·simp
    ·simp) 0 (-1) (by omega) (by simp)
 ·simp
theorem X8v (b:ZB) (m:Int) (hm:0≤m∧m≤1000000):X57 b m=some (X8u b m 40):=by
 have hm1:IntKind.wrap .i64 (0-m) = -m:=by rw [w64]<;>omega
 unfold X57 X8u
 rw [X14 _ _ _ (by simp),hm1]
 simp only [jS]
 cases hb:X4 (-m) m [b.X.Lo,b.X.Hi,b.Y.Lo,b.Y.Hi]
 ·simp at hb
  have h1:IntKind.wrap .i64 (b.X.Hi-b.X.Lo)=b.X.Hi-b.X.Lo:=by rw [w64]<;>omega
  have h2:IntKind.wrap .i64 (b.Y.Hi-b.Y.Lo)=b.Y.Hi-b.Y.Lo:=by rw [w64]<;>omega
  rw [h1,h2,X14 _ _ _ (by simp)]
  simp only [jS,cond_false,Bool.false_eq_true,if_false]
  cases X4 0 40 [b.X.Hi-b.X.Lo,b.Y.Hi-b.Y.Lo]<;>simp
 ·simp
def X2I (lo hi:Int):Int→List ZE→Int
 | e,[]=>e
 | e,s::l=>if X4 lo hi [s.Lo,s.Hi] then 7 else X2I lo hi (if s.Lo>s.Hi then 2 else e) l
theorem X2Y (l:List ZE) (lo hi:Int) (hl:l.length<1000000):X29 l lo hi=some (X2I lo hi 0 l):=by
 unfold X29
 exact X5 (Wh lo l hi) _ l.length (fun i (b:Int)=>(b,(i:Int))) (fun _ _=>True) (fun i b=>some (X2I lo hi b (l.drop i)))
   (by
    intro b _ R
    simp [Wh,Wt,X2I])
   (by
    intro i b hi' _ R hR
    simp only [Wh,Wt]
    rw [List.drop_eq_getElem_cons hi']
    have hw:=wS i (by omega)
    simp only [kS,X0 _ _ _ hi',X2I,hw]
    rw [Wv,Wv,X1n,X1n]
    have h1:decide ((i:Int)<↑l.length)=true:=by simp [hi']
    have h2:=z0S i
    simp only [h1,h2,Bool.and_self,cond_true,jS]
    have hsplit:X4 lo hi [l[i].Lo,l[i].Hi]=(X4 lo hi [l[i].Lo]||X4 lo hi [l[i].Hi]):=by simp
    rw [hsplit]
    cases h3:X4 lo hi [l[i].Lo]
    ·cases h4:X4 lo hi [l[i].Hi]
     ·by_cases h5:l[i].Lo>l[i].Hi
      ·have:=hR 2 trivial
       simp only [h5];simp;simpa using this
      ·have:=hR b trivial
       simp only [h5];simp;simpa using this
     ·simp
    ·simp) 0 0 (by omega) trivial
theorem X9g (b:ZB) (m w:Int) (hw:0≤w):(let e:=X2I (-m) m 0 [b.X,b.Y];if e=0 then (if b.X.Hi-b.X.Lo>w then 2 else if b.Y.Hi-b.Y.Lo>w then 2 else 0) else e)=X8u b m w:=by
 simp only [X2I,X8u,X4o,X7b,Bool.or_false]
 generalize b.X.Lo=x,b.X.Hi=X,b.Y.Lo=y,b.Y.Hi=Y
 by_cases a1:x < -m∨x>m∨X < -m∨X>m
 ·have e1:(decide (x < -m)||decide (x>m)||(decide (X < -m)||decide (X>m)))=true:=by simp;omega
  have e2:(decide (x < -m)||decide (x>m)||(decide (X < -m)||decide (X>m)||(decide (y < -m)||decide (y>m)||(decide (Y < -m)||decide (Y>m)))))=true:=by simp;omega
  rw [e1,e2];simp
 ·have e1:(decide (x < -m)||decide (x>m)||(decide (X < -m)||decide (X>m)))=false:=by simp;omega
  rw [e1]
  by_cases a2:y < -m∨y>m∨Y < -m∨Y>m
  ·have e2:(decide (y < -m)||decide (y>m)||(decide (Y < -m)||decide (Y>m)))=true:=by simp;omega
   have e3:(decide (x < -m)||decide (x>m)||(decide (X < -m)||decide (X>m)||(decide (y < -m)||decide (y>m)||(decide (Y < -m)||decide (Y>m)))))=true:=by simp;omega
   rw [e3,e2];simp
  ·have e2:(decide (y < -m)||decide (y>m)||(decide (Y < -m)||decide (Y>m)))=false:=by simp;omega
   have e3:(decide (x < -m)||decide (x>m)||(decide (X < -m)||decide (X>m)||(decide (y < -m)||decide (y>m)||(decide (Y < -m)||decide (Y>m)))))=false:=by simp;omega
   rw [e3,e2]
   simp only [Bool.false_eq_true,if_false]
   by_cases b1:Y<y
   ·have e4:(decide (X-x<0)||decide (X-x>w)||(decide (Y-y<0)||decide (Y-y>w)))=true:=by simp;omega
    rw [e4]
    simp [b1]
   ·by_cases b2:X<x
    ·have e4:(decide (X-x<0)||decide (X-x>w)||(decide (Y-y<0)||decide (Y-y>w)))=true:=by simp;omega
     rw [e4]
     simp [b1,b2]
    ·simp only [gt_iff_lt,b1,b2,if_false]
     by_cases b3:X-x>w
     ·have e4:(decide (X-x<0)||decide (w<X-x)||(decide (Y-y<0)||decide (w<Y-y)))=true:=by simp;omega
      rw [e4];simp;omega
     ·by_cases b4:Y-y>w
      ·have e4:(decide (X-x<0)||decide (w<X-x)||(decide (Y-y<0)||decide (w<Y-y)))=true:=by simp;omega
       rw [e4];simp;omega
      ·have e4:(decide (X-x<0)||decide (w<X-x)||(decide (Y-y<0)||decide (w<Y-y)))=false:=by simp;omega
       rw [e4];simp;omega
theorem X9G (lo hi:Int) (b:ZB) (h:X2I lo hi 0 [b.X,b.Y]=0):lo≤b.X.Lo∧b.X.Hi≤hi∧b.X.Lo≤b.X.Hi∧lo≤b.Y.Lo∧b.Y.Hi≤hi∧b.Y.Lo≤b.Y.Hi:=by
 simp only [X2I,X4o,X7b,Bool.or_false] at h
 split at h
 ·simp at h
 ·split at h
  ·simp at h
  ·rename_i h1 h2
   simp at h1 h2
   split at h
   ·simp at h
   ·split at h
    ·simp at h
    ·omega
theorem X8E (b:ZB) (m:Int) (hm:0≤m∧m≤1000000):X5f b (-m) m=some (X8u b m 40):=by
 unfold X5f
 rw [X2Y _ _ _ (by simp)]
 rw [←X9g b m 40 (by omega)]
 simp only [jS]
 by_cases h:X2I (-m) m 0 [b.X,b.Y]=0
 ·have hb:=X9G _ _ _ h
  have h1:IntKind.wrap .i64 (b.X.Hi-b.X.Lo)=b.X.Hi-b.X.Lo:=by rw [w64]<;>omega
  have h2:IntKind.wrap .i64 (b.Y.Hi-b.Y.Lo)=b.Y.Hi-b.Y.Lo:=by rw [w64]<;>omega
  rw [h1,h2,h]
  by_cases h3:b.X.Hi-b.X.Lo>40
  ·simp [h3]
  ·by_cases h4:b.Y.Hi-b.Y.Lo>40<;>simp [h3,h4]
 ·have h':(X2I (-m) m 0 [b.X,b.Y]==0)=false:=beq_eq_false_iff_ne.2 h
  rw [h',if_neg h];rfl
end Nore
open Go Go.Ab
namespace Nore
theorem X3U {a b:Int} (A B:Int) (h1 : -A≤a) (h2:a≤A) (h3 : -B≤b) (h4:b≤B) : -(A*B)≤a*b∧a*b≤A*B:=by
 have p1:=Int.mul_nonneg (show 0≤A-a by omega) (show 0≤B+b by omega)
 have p2:=Int.mul_nonneg (show 0≤A+a by omega) (show 0≤B-b by omega)
 have p3:=Int.mul_nonneg (show 0≤A-a by omega) (show 0≤B-b by omega)
 have p4:=Int.mul_nonneg (show 0≤A+a by omega) (show 0≤B+b by omega)
 constructor<;>grind
def X2D (p:Nat→Bool):Nat→Nat→Bool
 | _,0=>true
 | i,k+1=>p i&&X2D p (i+1) k
theorem X7m (p:Nat→Bool) (k i:Nat):X2D p i k=true↔∀ j,i≤j→j<i+k→p j=true:=by
 induction k generalizing i with
 | zero=>simp [X2D];intro j h1 h2;omega
 | succ k ih =>
  simp only [X2D,Bool.and_eq_true,ih]
  constructor
  ·rintro ⟨h1,h2⟩ j h3 h4
   by_cases h:j=i
   ·subst h;exact h1
   ·exact h2 j (by omega) (by omega)
  ·intro h
   exact ⟨h i (by omega) (by omega),fun j h1 h2=>h j (by omega) (by omega)⟩
def XT (a b:Zu):Zu:=⟨a.X-b.X,a.Y-b.Y⟩
def X21 (a b:Zu):Int:=a.X*b.Y-a.Y*b.X
def P0:Zu:=⟨0,0⟩
def X8q (l:List Zu) (i:Nat):Bool :=
 X2D (fun m=>m==i||m==(i+1) % l.length||decide (0<X21 (XT (l.getD ((i+1) % l.length) P0) (l.getD i P0)) (XT (l.getD m P0) (l.getD i P0)))) 0 l.length
def X7k (l:List Zu):Bool:=X2D (X8q l) 0 l.length
def X7f (s:CtSand):Int :=
 if X4 3 8 [(s.Corners.length:Int)] then 3 else if s.Corners.any (X3k 10000) then 7 else if X8u s.Moves 500 40=0 then (if X7k s.Corners then 0 else 9) else X8u s.Moves 500 40
def Bd (A:Int) (p:Zu):Prop := -A≤p.X∧p.X≤A ∧ -A≤p.Y∧p.Y≤A
theorem X6V (A:Int) (p:Zu):X3k A p=false↔Bd A p:=by
 simp [X3k,Bd];omega
theorem X6j {A:Int} {l:List Zu} (h:l.any (X3k A)=false) (i:Nat) (hi:i<l.length):Bd A l[i]:=by
 rw [List.any_eq_false] at h
 rw [←X6V]
 simpa using h l[i] (List.getElem_mem hi)
theorem X7B {a b:Int} (A:Int) (hA:A≤1000000) (h1 : -A≤a∧a≤A) (h2 : -A≤b∧b≤A):IntKind.wrap .i64 (a-b)=a-b:=by rw [w64]<;>omega
theorem X9a {a b c d:Int} (A:Int) (hA:A=2000000) (h1 : -A≤a∧a≤A) (h2 : -A≤b∧b≤A) (h3 : -A≤c∧c≤A) (h4 : -A≤d∧d≤A):IntKind.wrap .i64 (IntKind.wrap .i64 (a*b)-IntKind.wrap .i64 (c*d))=a*b-c*d:=by
 subst hA
 have p:=X3U _ _ h1.1 h1.2 h2.1 h2.2
 have q:=X3U _ _ h3.1 h3.2 h4.1 h4.2
 rw [w64 (x:=a*b),w64 (x:=c*d),w64]<;>omega
theorem X8i (l:List Zu) (hl:3≤l.length∧l.length≤8) (hf:l.any (X3k 10000)=false) (i:Nat) (hi:i<l.length) :
  X2b (i:Int) l (((i+1) % l.length:Nat):Int) 0=some (if X8q l i then .inr () else .inl false):=by
 have hk:(i+1) % l.length<l.length:=Nat.mod_lt _ (by omega)
 unfold X8q
 generalize hkk:(i+1) % l.length=k at *
 have key:=X5j (WJ (i:Int) l (k:Int)) l.length (fun j (_:Unit)=>(j:Int)) (fun _ _=>True) (fun j _=>some (if X2D (fun m=>m==i||m==k||decide (0<X21 (XT (l.getD k P0) (l.getD i P0)) (XT (l.getD m P0) (l.getD i P0)))) j (l.length-j) then .inr () else .inl false))
  (by
   intro b _ R
   simp [WJ,X10,X2D])
  (by
   intro m b hm _ R hR
   have hR':=hR () trivial
   rw [show l.length-m=(l.length-(m+1))+1 by omega]
   simp only [X2D]
   simp only [WJ,X10]
   have hw:=wS m (by omega)
   simp only [kS,X0 _ _ _ hm,X0 _ _ _ hi,X0 _ _ _ hk,hw]
   have b1:=X6j hf m hm
   have b2:=X6j hf i hi
   have b3:=X6j hf k hk
   unfold Bd at b1 b2 b3
   rw [X7B 10000 (by omega) ⟨b3.1,b3.2.1⟩ ⟨b2.1,b2.2.1⟩,X7B 10000 (by omega) b1.2.2 b2.2.2,X7B 10000 (by omega) b3.2.2 b2.2.2,X7B 10000 (by omega) ⟨b1.1,b1.2.1⟩ ⟨b2.1,b2.2.1⟩]
   rw [X9a 2000000 rfl (by omega) (by omega) (by omega) (by omega)]
   have d1:decide ((m:Int)<↑l.length)=true:=by simp [hm]
   have d2:=z0S m
   have d3:decide ((i:Int)<↑l.length)=true:=by simp [hi]
   have d4:=z0S i
   have d5:decide ((k:Int)<↑l.length)=true:=by simp [hk]
   have d6:=z0S k
   simp only [d1,d2,d3,d4,d5,d6,Bool.and_self,cond_true]
   change Option.bind (bif ((m:Int) != ↑i) then bif ((m:Int) != ↑k) then bif decide (X21 (XT l[k] l[i]) (XT l[m] l[i])≤0) then _ else _ else _ else _) _=_
   by_cases e1:m=i
   ·have:((m:Int) != (i:Int))=false:=by simp [e1]
    rw [this];simp [e1];simpa [e1,hi,hk] using hR'
   ·have t1:((m:Int) != (i:Int))=true:=by simp;omega
    by_cases e2:m=k
    ·have:((m:Int) != (k:Int))=false:=by simp [e2]
     rw [t1,this];simp [e2];simpa [e2,hi,hk] using hR'
    ·have t2:((m:Int) != (k:Int))=true:=by simp;omega
     rw [t1,t2]
     by_cases e3:X21 (XT l[k] l[i]) (XT l[m] l[i])≤0
     ·have t3:¬ 0<X21 (XT l[k] l[i]) (XT l[m] l[i]):=by omega
      simp [e1,e2,e3,t3]
     ·have t3:0<X21 (XT l[k] l[i]) (XT l[m] l[i]):=by omega
      simp [e1,e2,e3,t3];simpa [hi,hk] using hR')
 have:=key 0 () (by omega) trivial
 simpa [X2b] using this
theorem X81 (l:List Zu) (hl:3≤l.length∧l.length≤8) (hf:l.any (X3k 10000)=false):X44 l=some (X7k l):=by
 unfold X44 X7k
 have key:=X5 (WI l) (fun o103=>Sum.elim (fun y104:Bool=>some y104) (fun _:Unit=>some true) o103) l.length (fun i (_:Unit)=>(i:Int)) (fun _ _=>True) (fun i _=>some (X2D (X8q l) i (l.length-i)))
  (by
   intro b _ R
   simp [WI,WZ,X2D])
  (by
   intro i b hi _ R hR
   have hR':=hR () trivial
   rw [show l.length-i=(l.length-(i+1))+1 by omega]
   simp only [X2D]
   simp only [WI,WZ]
   have hw:=wS i (by omega)
   have hm:Int.tmod ((i+1:Nat):Int) (l.length:Int)=(((i+1) % l.length:Nat):Int):=rfl
   have d1:decide ((i:Int)<↑l.length)=true:=by simp [hi]
   have d2:((l.length:Int)==0)=false:=by simp;intro h;simp [h] at hl
   simp only [hw,hm,d1,d2,cond_true,cond_false]
   rw [X8i l hl hf i hi]
   simp only [jS]
   cases h:X8q l i
   ·simp
   ·simp;simpa using hR')
 exact (key 0 () (by omega) trivial).trans (by simp)
theorem X8g (s:CtSand):X4F s=some (X7f s):=by
 unfold X4F X7f
 rw [Wv,X1n]
 simp only [jS]
 cases hb:X4 3 8 [(s.Corners.length:Int)]
 ·have hl:3≤s.Corners.length∧s.Corners.length≤8:=by simp at hb;omega
  simp only [Bool.not_false,Bool.not_true,cond_false,Bool.false_eq_true,if_false]
  have key:=X5j (Wk s) s.Corners.length (fun i (_:Unit)=>(i:Int)) (fun _ _=>True) (fun i _=>some (if (s.Corners.drop i).any (X3k 10000) then .inl 7 else .inr ()))
   (by
    intro b _ R
    simp [Wk,X1i])
   (by
    intro i b hi _ R hR
    have hR':=hR () trivial
    simp only [Wk,X1i]
    rw [List.drop_eq_getElem_cons hi]
    have hw:=wS i (by omega)
    simp only [kS,X0 _ _ _ hi,List.any_cons,hw]
    rw [X4d _ _ (by omega)]
    have h1:decide ((i:Int)<↑s.Corners.length)=true:=by simp [hi]
    have h2:=z0S i
    simp only [h1,h2,Bool.and_self,cond_true,jS]
    by_cases h3:X3k 10000 s.Corners[i]=true
    ·simp [h3]
    ·simp [h3];simpa using hR')
  have k0:=key 0 () (by omega) trivial
  simp only [List.drop_zero,Int.natCast_zero] at k0
  unfold X3F
  have k0':Z8S (Wk s) 0=some (if s.Corners.any (X3k 10000) then .inl 7 else .inr ()):=k0
  rw [k0']
  simp only [jS]
  cases hf:s.Corners.any (X3k 10000)
  ·simp only [Bool.false_eq_true,if_false,Sum.elim_inr]
   rw [X8E _ _ (by omega),X81 _ hl hf]
   simp only [jS]
   by_cases h:X8u s.Moves 500 40=0
   ·rw [h]
    cases X7k s.Corners<;>simp
   ·simp [h,X3I h]
  ·simp
 ·simp
end Nore
open Go Go.Ab
namespace Nore
theorem Xaa {α:Type} (P:α→Bool) (l:List α):l.countP P=0↔∀ m,(h:m<l.length)→P l[m]=false:=by
 rw [List.countP_eq_zero]
 constructor
 ·intro h m hm;simpa using h l[m] (List.getElem_mem hm)
 ·intro h a ha
  obtain ⟨m,hm,rfl⟩:=List.getElem_of_mem ha
  simp [h m hm]
theorem Xa7 {α:Type} (P:α→Bool) (l:List α):∀ i,(hi:i<l.length)→P l[i]=true→(l.countP P=1↔∀ m,(h:m<l.length)→m≠i→P l[m]=false):=by
 induction l with
 | nil=>intro i hi;simp at hi
 | cons a t ih =>
  intro i hi hP
  cases i with
  | zero =>
   simp only [List.getElem_cons_zero] at hP
   rw [List.countP_cons_of_pos hP]
   rw [show (t.countP P+1=1)↔t.countP P=0 by omega,Xaa]
   constructor
   ·intro h m hm hne
    cases m with
    | zero=>exact absurd rfl hne
    | succ m=>simpa using h m (by simpa using hm)
   ·intro h m hm
    exact h (m+1) (by simpa using hm) (by omega)
  | succ i =>
   simp only [List.getElem_cons_succ] at hP
   have hi':i<t.length:=by simpa using hi
   have hpos:0<t.countP P:=by
    rw [List.countP_pos_iff];exact ⟨t[i],List.getElem_mem hi',hP⟩
   have ih':=ih i hi' hP
   cases ha:P a
   ·rw [List.countP_cons_of_neg (by simp [ha]),ih']
    constructor
    ·intro h m hm hne
     cases m with
     | zero=>simpa using ha
     | succ m=>simpa using h m (by simpa using hm) (by omega)
    ·intro h m hm hne
     exact h (m+1) (by simpa using hm) (by omega)
   ·rw [List.countP_cons_of_pos ha]
    constructor
    ·intro h;omega
    ·intro h
     have:=h 0 (by simp) (by omega)
     simp [ha] at this
theorem Xa8 {α:Type} (P:α→Bool) (l:List α):∀ i k,(hi:i<l.length)→(hk:k<l.length)→i<k→P l[i]=true→P l[k]=true→(l.countP P=2↔∀ m,(h:m<l.length)→m≠i→m≠k→P l[m]=false):=by
 induction l with
 | nil=>intro i k hi;simp at hi
 | cons a t ih =>
  intro i k hi hk hik hP hQ
  cases k with
  | zero=>omega
  | succ k =>
   simp only [List.getElem_cons_succ] at hQ
   have hk':k<t.length:=by simpa using hk
   cases i with
   | zero =>
    simp only [List.getElem_cons_zero] at hP
    rw [List.countP_cons_of_pos hP]
    rw [show (t.countP P+1=2)↔t.countP P=1 by omega,Xa7 P t k hk' hQ]
    constructor
    ·intro h m hm hne hne2
     cases m with
     | zero=>exact absurd rfl hne
     | succ m=>simpa using h m (by simpa using hm) (by omega)
    ·intro h m hm hne
     exact h (m+1) (by simpa using hm) (by omega) (by omega)
   | succ i =>
    simp only [List.getElem_cons_succ] at hP
    have hi':i<t.length:=by simpa using hi
    have ih':=ih i k hi' hk' (by omega) hP hQ
    cases ha:P a
    ·rw [List.countP_cons_of_neg (by simp [ha]),ih']
     constructor
     ·intro h m hm hne hne2
      cases m with
      | zero=>simpa using ha
      | succ m=>simpa using h m (by simpa using hm) (by omega) (by omega)
     ·intro h m hm hne hne2
      exact h (m+1) (by simpa using hm) (by omega) (by omega)
    ·have hpos:2≤t.countP P:=by
      have h1:=Xa7 P t i hi' hP
      have:0<t.countP P:=by
       rw [List.countP_pos_iff];exact ⟨t[i],List.getElem_mem hi',hP⟩
      by_cases e:t.countP P=1
      ·have:=h1.1 e k hk' (by omega)
       simp [hQ] at this
      ·omega
     rw [List.countP_cons_of_pos ha]
     constructor
     ·intro h;omega
     ·intro h
      have:=h 0 (by simp) (by omega) (by omega)
      simp [ha] at this
def X4w (l:List Zu) (a b:Zu):Bool :=
 (l.countP fun p=>decide (X21 (XT b a) (XT p a)≤0))==2 && !((b.X-a.X==0)&&(b.Y-a.Y==0))
def X56 (l:List Zu):Zu→List Zu→Bool
 | _,[]=>true
 | last,p::r=>X4w l last p&&X56 l p r
theorem X9y (a b:Zu):X21 (XT b a) (XT b a)=0:=by simp [X21,Int.mul_comm]
theorem X9z (a b:Zu):X21 (XT b a) (XT a a)=0:=by simp [X21,XT]
theorem X8z (l:List Zu) (hl:3≤l.length) (i k:Nat) (hi:i<l.length) (hk:k<l.length) (hne:i≠k) :
  X4w l l[i] l[k]=X2D (fun m=>m==i||m==k||decide (0<X21 (XT (l.getD k P0) (l.getD i P0)) (XT (l.getD m P0) (l.getD i P0)))) 0 l.length:=by
 rw [Bool.eq_iff_iff,X7m]
 have hPi:decide (X21 (XT l[k] l[i]) (XT l[i] l[i])≤0)=true:=by rw [X9z];rfl
 have hPk:decide (X21 (XT l[k] l[i]) (XT l[k] l[i])≤0)=true:=by rw [X9y];rfl
 have hc:(l.countP fun p=>decide (X21 (XT l[k] l[i]) (XT p l[i])≤0))=2↔∀ m,(h:m<l.length)→m≠i→m≠k→decide (X21 (XT l[k] l[i]) (XT l[m] l[i])≤0)=false:=by
  by_cases hik:i<k
  ·exact Xa8 (fun p=>decide (X21 (XT l[k] l[i]) (XT p l[i])≤0)) l i k hi hk hik hPi hPk
  ·have:=Xa8 (fun p=>decide (X21 (XT l[k] l[i]) (XT p l[i])≤0)) l k i hk hi (by omega) hPk hPi
   rw [this]
   constructor
   ·intro h m hm h1 h2;exact h m hm h2 h1
   ·intro h m hm h1 h2;exact h m hm h2 h1
 simp only [X4w,Bool.and_eq_true,beq_iff_eq,hc]
 constructor
 ·rintro ⟨h,_⟩ m _ hm
  have hm':m<l.length:=by omega
  by_cases e1:m=i
  ·simp [e1]
  ·by_cases e2:m=k
   ·simp [e2]
   ·have:=h m hm' e1 e2
    simp only [X0 _ _ _ hm',X0 _ _ _ hi,X0 _ _ _ hk]
    simp at this
    simp [this]
 ·intro h
  have h':∀ m,(hm:m<l.length)→m≠i→m≠k→0<X21 (XT l[k] l[i]) (XT l[m] l[i]):=fun m hm e1 e2=>by
   have:=h m (by omega) (by omega)
   simp only [X0 _ _ _ hm,X0 _ _ _ hi,X0 _ _ _ hk] at this
   simpa [e1,e2] using this
  refine ⟨fun m hm e1 e2 => ?_,?_⟩
  ·have:=h' m hm e1 e2
   simp;omega
  ·have:∃ m,m<l.length∧m≠i∧m≠k:=by
    by_cases a0:0≠i∧0≠k
    ·exact ⟨0,by omega,a0⟩
    ·by_cases a1:1≠i∧1≠k
     ·exact ⟨1,by omega,a1⟩
     ·exact ⟨2,by omega,by omega,by omega⟩
   obtain ⟨m,hm,e1,e2⟩:=this
   have:=h' m hm e1 e2
   rw [Bool.not_eq_true',Bool.eq_false_iff]
   intro hz
   simp only [Bool.and_eq_true,beq_iff_eq] at hz
   simp [X21,XT,hz.1,hz.2] at this
theorem X9f (l:List Zu):∀ k i,i+k=l.length→1≤i→(hi:i-1<l.length)→(X56 l l[i-1] (l.drop i)=true↔∀ j,(h1:i≤j)→(h2:j<l.length)→X4w l l[j-1] l[j]=true):=by
 intro k
 induction k with
 | zero =>
  intro i hk h1 hi
  rw [List.drop_eq_nil_of_le (by omega)]
  simp [X56]
  intro j h1 h2;omega
 | succ k ih =>
  intro i hk h1 hi
  have hi2:i<l.length:=by omega
  rw [List.drop_eq_getElem_cons hi2]
  simp only [X56,Bool.and_eq_true]
  have:=ih (i+1) (by omega) (by omega) (by omega)
  simp only [Nat.add_sub_cancel] at this
  rw [this]
  constructor
  ·rintro ⟨g,h⟩ j a b
   by_cases e:j=i
   ·subst e;exact g
   ·exact h j (by omega) b
  ·intro h
   exact ⟨h i (by omega) hi2,fun j a b=>h j (by omega) b⟩
theorem X8X (l:List Zu) (hl:3≤l.length):X56 l (l.getD (l.length-1) P0) l=X7k l:=by
 rw [Bool.eq_iff_iff]
 have e:X56 l (l.getD (l.length-1) P0) l=(X4w l l[l.length-1] l[0]&&X56 l l[1-1] (l.drop 1)):=by
  conv=>lhs;rw [show l=l[0]::l.drop 1 by rw [←List.drop_eq_getElem_cons (by omega)];rfl]
  rw [←show l=l[0]::l.drop 1 by rw [←List.drop_eq_getElem_cons (by omega)];rfl]
  rw [X0 _ _ _ (by omega)]
  conv=>lhs;arg 3;rw [show l=l[0]::l.drop 1 by rw [←List.drop_eq_getElem_cons (by omega)];rfl]
  rfl
 rw [e]
 simp only [Bool.and_eq_true]
 rw [X9f l (l.length-1) 1 (by omega) (by omega) (by omega)]
 unfold X7k
 rw [X7m]
 have hside:∀ i,(hi:i<l.length)→X8q l i=X4w l l[i] (l[(i+1) % l.length]'(Nat.mod_lt _ (by omega))):=fun i hi=>by
  have hk:(i+1) % l.length<l.length:=Nat.mod_lt _ (by omega)
  have hne:i≠(i+1) % l.length:=by
   by_cases h:i+1<l.length
   ·rw [Nat.mod_eq_of_lt h];omega
   ·have:i+1=l.length:=by omega
    rw [this,Nat.mod_self];omega
  rw [X8z l hl i _ hi hk hne]
  rfl
 constructor
 ·rintro ⟨h0,h⟩ i _ hi
  have hi':i<l.length:=by omega
  rw [hside i hi']
  by_cases hh:i+1<l.length
  ·have:=h (i+1) (by omega) hh
   simp only [Nat.mod_eq_of_lt hh]
   simpa using this
  ·have e1:i=l.length-1:=by omega
   subst e1
   simp only [show l.length-1+1=l.length by omega,Nat.mod_self]
   exact h0
 ·intro h
  constructor
  ·have:=h (l.length-1) (by omega) (by omega)
   rw [hside _ (by omega)] at this
   simpa only [show l.length-1+1=l.length by omega,Nat.mod_self] using this
  ·intro j h1 h2
   have:=h (j-1) (by omega) (by omega)
   rw [hside _ (by omega)] at this
   simpa only [show j-1+1=j by omega,Nat.mod_eq_of_lt h2] using this
theorem X7D (l:List Zu) (hl:l.length≤8) (hf:l.any (X3k 10000)=false) (x4:Z8) (x5:Bool) (x6:Int) (x7:Bool) (x8:Z8) (x9:Bool) (x10:Int) (x11:Z8) (s:Z6) (a b:Zu) (ha:Bd 10000 a) (hb:Bd 10000 b) (hs:s=⟨a,XT b a⟩) :
  WA (↑l.length) l x4 x5 x6 x7 x8 x9 x10 x11 s (0,0)=some ((l.countP fun p=>decide (X21 (XT b a) (XT p a)≤0):Nat):Int):=by
 subst hs
 unfold Bd at ha hb
 have key:=X5j (Xq (↑l.length) l x4 x5 x6 x7 x8 x9 x10 x11 ⟨a,XT b a⟩) l.length (fun i (c:Nat)=>((c:Int),(i:Int))) (fun i c=>c≤i) (fun i c=>some (((c+(l.drop i).countP fun p=>decide (X21 (XT b a) (XT p a)≤0):Nat)):Int))
  (by
   intro b _ R
   simp [Xq,Xy])
  (by
   intro i c hi hc R hR
   simp only [Xq,Xy]
   rw [List.drop_eq_getElem_cons hi]
   have hw:=wS i (by omega)
   have hw2:=wS c (by omega)
   have bp:=X6j hf i hi
   unfold Bd at bp
   simp only [kS,X0 _ _ _ hi,hw,hw2,XT]
   rw [X7B 10000 (by omega) bp.2.2 ha.2.2,X7B 10000 (by omega) ⟨bp.1,bp.2.1⟩ ⟨ha.1,ha.2.1⟩]
   rw [X9a 2000000 rfl (by omega) (by omega) (by omega) (by omega)]
   have h1:decide ((i:Int)<↑l.length)=true:=by simp [hi]
   have h2:=z0S i
   simp only [h1,h2,Bool.and_self,cond_true]
   change Option.bind (bif decide (X21 (XT b a) (XT l[i] a)≤0) then _ else _) _=_
   change _=some (((c+List.countP (fun p=>decide (X21 (XT b a) (XT p a)≤0)) (l[i]::List.drop (i+1) l):Nat)):Int)
   by_cases h:X21 (XT b a) (XT l[i] a)≤0
   ·rw [List.countP_cons_of_pos (by simpa using h)]
    simp only [h,decide_true,cond_true,jS,Sum.elim_inl]
    rw [hR (c+1) (by omega)]
    congr 1
    show ((_:Nat):Int)=((_:Nat):Int)
    congr 1
    show c+1+_=c+(_+1)
    simp only [XT]
    omega
   ·rw [List.countP_cons_of_neg (by simpa using h)]
    simp only [h,decide_false,cond_false,jS,Sum.elim_inl]
    rw [hR c (by omega)])
 have:=key 0 0 (by omega) (by omega)
 simpa [WA] using this
theorem X6t (s:Z8):X1U s=some (X7f s.CtSand):=by
 obtain ⟨s⟩:=s
 unfold X1U X7f
 rw [X14 _ _ _ (by simp)]
 simp only [jS]
 cases hb:X4 3 8 [(s.Corners.length:Int)]
 ·have hl:3≤s.Corners.length∧s.Corners.length≤8:=by simp at hb;omega
  simp only [cond_false,Bool.false_eq_true,if_false]
  rw [X5n _ (by omega) _ (by omega)]
  simp only [jS]
  cases hf:s.Corners.any (X3k 10000)
  ·simp only [cond_false,Bool.false_eq_true,if_false]
   rw [X8v _ _ (by omega)]
   simp only [jS]
   by_cases h:X8u s.Moves 500 40=0
   ·have hw:IntKind.wrap .i64 ((s.Corners.length:Int)-1)=(s.Corners.length:Int)-1:=by rw [w64]<;>omega
    have ht:((s.Corners.length:Int)-1).toNat=s.Corners.length-1:=by omega
    have h1:decide ((0:Int)≤(s.Corners.length:Int)-1)=true:=by simp;omega
    have h2:decide ((s.Corners.length:Int)-1<(s.Corners.length:Int))=true:=by simp;omega
    simp only [h,hw,ht,h1,h2,bne_self_eq_false,cond_false,Bool.and_self,cond_true,if_true]
    rw [←X8X _ hl.1]
    have hlast:Bd 10000 (s.Corners.getD (s.Corners.length-1) P0):=by
     rw [X0 _ _ _ (by omega)];exact X6j hf _ (by omega)
    refine (X5 (Xp (↑s.Corners.length) s.Corners ⟨s⟩ false 0 false ⟨s⟩ false 0 ⟨s⟩ [(↑s.Corners.length:Int)]) _ s.Corners.length (fun i (b:Zu)=>((i:Int),b)) (fun _ b=>Bd 10000 b) (fun i b=>some (if X56 s.Corners b (s.Corners.drop i) then 0 else 9)) ?_ ?_ 0 _ (by omega) hlast).trans (by simp)
    ·intro b _ R
     simp [Xp,Xx,X56]
    ·intro i b hi hP R hR
     have bp:=X6j hf i hi
     have hR':=hR s.Corners[i] bp
     simp only [Xp,Xx]
     rw [List.drop_eq_getElem_cons hi]
     have hw:=wS i (by omega)
     simp only [kS,X0 _ _ _ hi,hw,X56]
     have bp':=bp
     have hP':=hP
     unfold Bd at bp' hP'
     rw [X7B 10000 (by omega) bp'.2.2 hP'.2.2,X7B 10000 (by omega) ⟨bp'.1,bp'.2.1⟩ ⟨hP'.1,hP'.2.1⟩]
     rw [X7D s.Corners hl.2 hf _ _ _ _ _ _ _ _ ⟨⟨b.X,b.Y⟩,⟨s.Corners[i].X-b.X,s.Corners[i].Y-b.Y⟩⟩ b s.Corners[i] hP bp rfl]
     have h1:decide ((i:Int)<↑s.Corners.length)=true:=by simp [hi]
     have h2:=z0S i
     simp only [h1,h2,Bool.and_self,cond_true,jS]
     have hg:X4w s.Corners b s.Corners[i]=((s.Corners.countP fun p=>decide (X21 (XT s.Corners[i] b) (XT p b)≤0))==2 && !((s.Corners[i].X-b.X==0)&&(s.Corners[i].Y-b.Y==0))):=rfl
     generalize (s.Corners.countP fun p=>decide (X21 (XT s.Corners[i] b) (XT p b)≤0))=c at hg ⊢
     by_cases h3:c=2
     ·subst h3
      cases h4:(s.Corners[i].X-b.X==0)
      ·simp only [h4,Bool.false_and,Bool.not_false,Bool.and_true,beq_self_eq_true] at hg
       simp [hg];simpa using hR'
      ·cases h5:(s.Corners[i].Y-b.Y==0)
       ·simp only [h4,h5,Bool.and_false,Bool.not_false,Bool.and_true,beq_self_eq_true] at hg
        simp [hg];simpa using hR'
       ·simp only [h4,h5,Bool.and_self,Bool.not_true,Bool.and_false] at hg
        simp [hg]
     ·have h3':(((c:Nat):Int) != 2)=true:=by simp;omega
      have h3'':(c==2)=false:=by simp [h3]
      rw [h3'',Bool.false_and] at hg
      simp [h3',hg]
   ·rw [W8 h,if_neg h];rfl
  ·simp
 ·simp
end Nore
open Go Go.Ab
namespace Nore
theorem Z7X (a b:ByteArray):(a==b)=(a.data==b.data):=by cases a;cases b;rfl
instance:LawfulBEq ByteArray where
 rfl:=by intro a;rw [Z7X];simp
 eq_of_beq:=by
  intro a b h
  rw [Z7X] at h
  have:=eq_of_beq h
  cases a;cases b
  simp only at this
  rw [this]
instance:DecidableEq ByteArray:=fun a b=>if h:(a==b)=true then isTrue (eq_of_beq h) else isFalse (fun e=>h (by rw [e];simp))
theorem X6R {v:Int} (s k:ByteArray):∀ m:List (ByteArray×Int),Z8z (fun a b=>a==b) s (Zgh (fun a b=>a==b) k v m)=if s=k then some v else Z8z (fun a b=>a==b) s m
 | []=>by
  by_cases h:s=k
  ·simp [Zgh,Z8z,h]
  ·have h':(s==k)=false:=beq_eq_false_iff_ne.2 h
   simp [Zgh,Z8z,h,h']
 | (k',v')::m=>by
  have ih:=X6R s k m (v:=v)
  simp only [Zgh]
  by_cases h1:k=k'
  ·subst h1
   simp only [beq_self_eq_true,cond_true,Z8z]
   by_cases h:s=k
   ·simp [h]
   ·have h':(s==k)=false:=beq_eq_false_iff_ne.2 h
    simp [h,h']
  ·have:(k==k')=false:=by simp [h1]
   simp only [this,cond_false,Z8z]
   by_cases h2:s=k'
   ·subst h2
    have h3:s≠k:=fun h=>h1 h.symm
    simp [h3]
   ·have:(s==k')=false:=by simp [h2]
    simp only [this,cond_false,ih]
def X1g (s:ByteArray) (names:List ByteArray):Int:=if X69 s then (if s∈names then 5 else 0) else 6
theorem X6S {a b:ByteArray} (h:a.toList=b.toList):a=b:=by
 cases a;cases b
 simp only [ByteArray.toList_eq] at h
 congr 1
 exact Array.ext' h
theorem X4C (s:ByteArray) (names:List ByteArray) (hl:names.length<1000000):X2A s names=some (X1g s names):=by
 unfold X2A X1g
 rw [X8f]
 simp only [jS]
 cases X69 s
 ·simp
 ·simp only [Bool.not_true,cond_false,if_true]
  unfold X4Y
  have key:=X5 (W1 s names) (fun o78=>Option.bind (Sum.elim (fun y79:Int=>some y79) (fun _:Unit=>some (-1)) o78) fun r82=>bif decide (r82≥0) then some (5:Int) else some 0) names.length (fun i (_:Unit)=>(i:Int)) (fun _ _=>True) (fun i _=>some (if s∈names.drop i then 5 else 0))
   (by
    intro b _ R
    simp [W1,WX])
   (by
    intro i b hi _ R hR
    have hR':=hR () trivial
    simp only [W1,WX]
    rw [List.drop_eq_getElem_cons hi]
    have hw:=wS i (by omega)
    simp only [kS,X0 _ _ _ hi,hw]
    have h1:decide ((i:Int)<↑names.length)=true:=by simp [hi]
    have h2:=z0S i
    simp only [h1,h2,Bool.and_self,cond_true]
    by_cases h:names[i]=s
    ·simp [h]
    ·have h':(names[i].toList==s.toList)=false:=by
      simp only [beq_eq_false_iff_ne];intro hh;exact h (X6S hh)
     have h'':¬ s=names[i]:=fun hh=>h hh.symm
     simp only [h',cond_false,jS,Sum.elim_inl,List.mem_cons,h'',false_or]
     exact hR')
  have:=key 0 () (by omega) trivial
  simp only [List.drop_zero] at this
  rw [←this]
  show Option.bind (Option.bind _ _) _=Option.bind _ _
  unfold X33
  simp only [Int.natCast_zero]
  cases Z8S (W1 s names) 0<;>rfl
def X3M (m:Zw) (names:List ByteArray):Int:=if X1g m.Name names=0 then (if X3k 30000 m.At then 7 else X3E m.Paints) else X1g m.Name names
def X5P (s:CtSand) (names:List ByteArray):Int:=if X1g s.Name names=0 then X7f s else X1g s.Name names
def X55:Nat→List ByteArray→List CtSand→Int×Int×Int
 | _,_,[]=>(0,0,0)
 | i,names,s::l=>if X5P s names=0 then X55 (i+1) (names++[s.Name]) l else (2,(i:Int),X5P s names)
def X54 (sands:List CtSand):Nat→List ByteArray→List Zw→Int×Int×Int
 | _,names,[]=>if 4<sands.length then (2,0,3) else X55 0 names sands
 | i,names,m::l=>if X3M m names=0 then X54 sands (i+1) (names++[m.Name]) l else (1,(i:Int),X3M m names)
def X4a (c:Zl):Int×Int×Int:=if 8<c.Marks.length then (1,0,3) else X54 c.Sands 0 [] c.Marks
def Z2P (m:List (ByteArray×Int)) (names:List ByteArray):Prop:=∀ s,Option.getD (Z8z (fun a b=>a==b) s m) 0=if s∈names then 1 else 0
theorem X8R {m:List (ByteArray×Int)} {names:List ByteArray} (h:Z2P m names) (s:ByteArray) (hs:s∉names):Z2P (Zgh (fun a b=>a==b) s (IntKind.wrap .i64 (Option.getD (Z8z (fun a b=>a==b) s m) 0+1)) m) (names++[s]):=by
 intro t
 rw [X6R,h s,if_neg hs]
 by_cases e:t=s
 ·simp [e];rfl
 ·simp [e];simpa using h t
theorem X7R {m:List (ByteArray×Int)} {names:List ByteArray} (h:Z2P m names) (s:ByteArray):decide (Option.getD (Z8z (fun a b=>a==b) s (Zgh (fun a b=>a==b) s (IntKind.wrap .i64 (Option.getD (Z8z (fun a b=>a==b) s m) 0+1)) m)) 0>1)=decide (s∈names):=by
 rw [X6R,h s]
 simp only [if_true,Option.getD_some]
 by_cases e:s∈names
 ·simp only [e,if_true];rfl
 ·simp only [e,if_false];rfl
theorem X8N (c:Zl) (hl:c.Sands.length≤4) (m:List (ByteArray×Int)) (names:List ByteArray) (hm:Z2P m names) (k:_→Option (Int×Int×Int))
  (hk:k=fun o56=>Sum.elim (fun (y57:Int×Int×Int×(List (ByteArray×Int))×CtSand)=>some (y57.snd.snd.fst,y57.fst,y57.snd.fst)) (fun y58=>Sum.elim (fun (y59:Int×Int×Int×(List (ByteArray×Int))×CtSand)=>some (y59.snd.snd.fst,y59.fst,y59.snd.fst)) (fun y60=>Sum.elim (fun (y61:Int×Int×Int×(List (ByteArray×Int))×CtSand)=>some (y61.snd.snd.fst,y61.fst,y61.snd.fst)) (fun (_:List (ByteArray×Int))=>some (0,0,0)) y60) y58) o56) :
  Option.bind (X24 (↑c.Sands.length) c.Sands c (0,m)) k=some (X55 0 names c.Sands):=by
 subst hk
 unfold X24
 exact X5 (Wz (↑c.Sands.length) c.Sands c) _ c.Sands.length (fun i (b:List (ByteArray×Int)×List ByteArray)=>((i:Int),b.1)) (fun _ b=>Z2P b.1 b.2) (fun i b=>some (X55 i b.2 (c.Sands.drop i)))
  (by
   intro b _ R
   simp [Wz,WN,X55])
  (by
   intro i b hi hP R hR
   simp only [Wz,WN]
   rw [List.drop_eq_getElem_cons hi]
   have hw:=wS i (by omega)
   simp only [kS,X0 _ _ _ hi,hw,X55]
   rw [X53,X6t,X7R hP]
   have h1:decide ((i:Int)<↑c.Sands.length)=true:=by simp [hi]
   have h2:=z0S i
   simp only [h1,h2,Bool.and_self,cond_true,jS]
   by_cases hn:X69 c.Sands[i].Name=true
   ·by_cases he:c.Sands[i].Name∈b.2
    ·have hE:X5P c.Sands[i] b.2=5:=by simp [X5P,X1g,hn,he]
     simp [hn,he,hE]
    ·have e0:(⟨c.Sands[i].Name,c.Sands[i].Corners,c.Sands[i].Moves⟩:CtSand)=c.Sands[i]:=rfl
     have hE:X5P c.Sands[i] b.2=X7f c.Sands[i]:=by simp [X5P,X1g,hn,he]
     rw [e0]
     simp only [hn,he,Bool.not_true,decide_false,cond_false,hE]
     by_cases hs:X7f c.Sands[i]=0
     ·simp only [hs,bne_self_eq_false,cond_false,if_true,jS,Sum.elim_inl]
      exact hR (_,b.2++[c.Sands[i].Name]) (X8R hP _ he)
     ·simp [hs,W8 hs]
   ·have hE:X5P c.Sands[i] b.2=6:=by simp [X5P,X1g,hn]
    simp [hn,hE]) 0 (m,names) (by omega) hm
theorem X5U (c:Zl):X38 c=some (X4a c):=by
 unfold X38 X4a
 by_cases h8:8<c.Marks.length
 ·have:decide ((c.Marks.length:Int)>8)=true:=by simp;omega
  rw [this];simp [h8]
 ·have:decide ((c.Marks.length:Int)>8)=false:=by simp;omega
  rw [this]
  simp only [cond_false,h8,if_false]
  exact X5 (Wy (↑c.Marks.length) c.Marks c) _ c.Marks.length (fun i (b:List (ByteArray×Int)×List ByteArray)=>((i:Int),b.1)) (fun _ b=>Z2P b.1 b.2) (fun i b=>some (X54 c.Sands i b.2 (c.Marks.drop i)))
   (by
    intro b hP R
    simp only [Wy,WM]
    have h1:decide ((c.Marks.length:Int)<↑c.Marks.length)=false:=by simp
    simp only [h1,cond_false,jS,Sum.elim_inr,List.drop_length,X54]
    by_cases h4:4<c.Sands.length
    ·have:decide ((c.Sands.length:Int)>4)=true:=by simp;omega
     rw [this];simp [h4]
    ·have:decide ((c.Sands.length:Int)>4)=false:=by simp;omega
     rw [this]
     simp only [cond_false,h4,if_false]
     exact X8N c (by omega) _ _ hP _ rfl)
   (by
    intro i b hi hP R hR
    simp only [Wy,WM]
    rw [List.drop_eq_getElem_cons hi]
    have hw:=wS i (by omega)
    simp only [kS,X0 _ _ _ hi,hw,X54]
    rw [X53,X7E,X7R hP,X5n _ (by omega) _ (by simp)]
    have h1:decide ((i:Int)<↑c.Marks.length)=true:=by simp [hi]
    have h2:=z0S i
    simp only [h1,h2,Bool.and_self,cond_true,jS,List.any_cons,List.any_nil,Bool.or_false]
    by_cases hn:X69 c.Marks[i].Name=true
    ·by_cases he:c.Marks[i].Name∈b.2
     ·have hE:X3M c.Marks[i] b.2=5:=by simp [X3M,X1g,hn,he]
      simp [hn,he,hE]
     ·by_cases hfar:X3k 30000 c.Marks[i].At=true
      ·have hE:X3M c.Marks[i] b.2=7:=by simp [X3M,X1g,hn,he,hfar]
       simp [hn,he,hfar,hE]
      ·have hE:X3M c.Marks[i] b.2=X3E c.Marks[i].Paints:=by simp [X3M,X1g,hn,he,hfar]
       simp only [hn,he,hfar,Bool.not_true,decide_false,cond_false,hE]
       by_cases hs:X3E c.Marks[i].Paints=0
       ·simp only [hs,bne_self_eq_false,cond_false,if_true,jS,Sum.elim_inl]
        exact hR (_,b.2++[c.Marks[i].Name]) (X8R hP _ he)
       ·simp [hs,W8 hs]
    ·have hE:X3M c.Marks[i] b.2=6:=by simp [X3M,X1g,hn]
     simp [hn,hE]) 0 ([],[]) (by omega) (by intro s;simp [Z8z])
theorem X8V (c:Zl) (hl:c.Sands.length≤4) (names:List ByteArray) (hm:names.length≤8) (k:_→Option (Int×Int×Int))
  (hk:k=fun o134=>Sum.elim (fun (y135:Int×Int×Int×(List ByteArray)×(List ByteArray))=>some (y135.snd.snd.fst,y135.fst,y135.snd.fst)) (fun y136=>Sum.elim (fun (y137:Int×Int×Int×(List ByteArray)×(List ByteArray))=>some (y137.snd.snd.fst,y137.fst,y137.snd.fst)) (fun (_:List ByteArray)=>some (0,0,0)) y136) o134) :
  Option.bind (X28 c (0,names)) k=some (X55 0 names c.Sands):=by
 subst hk
 unfold X28
 exact X5 (WH c) _ c.Sands.length (fun i (b:List ByteArray)=>((i:Int),b)) (fun i b=>b.length≤8+i) (fun i b=>some (X55 i b (c.Sands.drop i)))
  (by
   intro b _ R
   simp [WH,WW,X55])
  (by
   intro i b hi hP R hR
   simp only [WH,WW]
   rw [List.drop_eq_getElem_cons hi]
   have hw:=wS i (by omega)
   simp only [kS,X0 _ _ _ hi,hw,X55]
   rw [X4C _ _ (by omega),X8g]
   have h1:decide ((i:Int)<↑c.Sands.length)=true:=by simp [hi]
   have h2:=z0S i
   have h3:Nat.ble ((b.length+[c.Sands[i].Name].length)*(16+1)) 200000000000000=true:=by
    rw [Nat.ble_eq];simp;omega
   simp only [h1,h2,h3,Bool.and_self,cond_true,jS]
   by_cases hf:X1g c.Sands[i].Name b=0
   ·have hE:X5P c.Sands[i] b=X7f c.Sands[i]:=by simp [X5P,hf]
    simp only [hf,hE,beq_self_eq_true,cond_true]
    by_cases hs:X7f c.Sands[i]=0
    ·simp only [hs,bne_self_eq_false,cond_false,if_true,jS,Sum.elim_inl]
     exact hR (b++[c.Sands[i].Name]) (by simp;omega)
    ·simp [hs,W8 hs]
   ·have hE:X5P c.Sands[i] b=X1g c.Sands[i].Name b:=by simp [X5P,hf]
    simp [hE,hf,X3I hf,W8 hf]) 0 names (by omega) (by omega)
theorem X6a (c:Zl):X3d c=some (X4a c):=by
 unfold X3d X4a
 by_cases h8:8<c.Marks.length
 ·have:decide ((c.Marks.length:Int)>8)=true:=by simp;omega
  rw [this];simp [h8]
 ·have:decide ((c.Marks.length:Int)>8)=false:=by simp;omega
  rw [this]
  simp only [cond_false,h8,if_false]
  exact X5 (WG c) _ c.Marks.length (fun i (b:List ByteArray)=>((i:Int),b)) (fun i b=>b.length≤i) (fun i b=>some (X54 c.Sands i b (c.Marks.drop i)))
   (by
    intro b hP R
    simp only [WG,WV]
    have h1:decide ((c.Marks.length:Int)<↑c.Marks.length)=false:=by simp
    simp only [h1,cond_false,jS,Sum.elim_inr,List.drop_length,X54]
    by_cases h4:4<c.Sands.length
    ·have:decide ((c.Sands.length:Int)>4)=true:=by simp;omega
     rw [this];simp [h4]
    ·have:decide ((c.Sands.length:Int)>4)=false:=by simp;omega
     rw [this]
     simp only [cond_false,h4,if_false]
     exact X8V c (by omega) _ (by omega) _ rfl)
   (by
    intro i b hi hP R hR
    simp only [WG,WV]
    rw [List.drop_eq_getElem_cons hi]
    have hw:=wS i (by omega)
    simp only [kS,X0 _ _ _ hi,hw,X54]
    rw [X4C _ _ (by omega),X7H,X4d _ _ (by omega)]
    have h1:decide ((i:Int)<↑c.Marks.length)=true:=by simp [hi]
    have h2:=z0S i
    have h3:Nat.ble ((b.length+[c.Marks[i].Name].length)*(16+1)) 200000000000000=true:=by
     rw [Nat.ble_eq];simp;omega
    simp only [h1,h2,h3,Bool.and_self,cond_true,jS]
    by_cases hf:X1g c.Marks[i].Name b=0
    ·by_cases hfar:X3k 30000 c.Marks[i].At=true
     ·have hE:X3M c.Marks[i] b=7:=by simp [X3M,hf,hfar]
      simp [hf,hfar,hE]
     ·have hE:X3M c.Marks[i] b=X3E c.Marks[i].Paints:=by simp [X3M,hf,hfar]
      simp only [hf,hfar,hE,Bool.not_false,Bool.not_true,cond_false,beq_self_eq_true,cond_true]
      by_cases hs:X3E c.Marks[i].Paints=0
      ·simp only [hs,bne_self_eq_false,cond_false,if_true,jS,Sum.elim_inl]
       exact hR (b++[c.Marks[i].Name]) (by simp;omega)
      ·simp [hs,W8 hs]
    ·have hE:X3M c.Marks[i] b=X1g c.Marks[i].Name b:=by simp [X3M,hf]
     simp [hE,hf,X3I hf,W8 hf]) 0 [] (by omega) (by simp)
end Nore
open Go Go.Ab
namespace Nore
theorem X3 (lo up:Int) (l:List Int) (hl:l.length<1000000):X2 lo up l=some (X4 lo up l):=by
 rw [X61];unfold X2f
 have key:=X5 (WF (↑l.length) l up lo) (fun o3=>Sum.elim (fun y4:Int=>some (decide (y4≥0))) (fun _=>some (decide ((-1:Int)≥0))) o3) l.length (fun i (_:Unit)=>(i:Int)) (fun _ _=>True) (fun i _=>some (X4 lo up (l.drop i)))
  (by
   intro b _ R
   simp [WF,WT])
  (by
   intro i b hi _ R hR
   have hR':=hR () trivial
   simp only [WF,WT]
   rw [List.drop_eq_getElem_cons hi]
   simp only [kS,X0 _ _ _ hi,X4o]
   have hw:=wS i (by omega)
   rw [hw]
   have h1:decide ((i:Int)<↑l.length)=true:=by simp [hi]
   have h2:=z0S i
   simp only [h1,h2,Bool.and_self,cond_true]
   by_cases h3:l[i]<lo
   ·simp [h3]
   ·by_cases h4:l[i]>up
    ·simp [h3,h4]
    ·simp [h3,h4];exact hR')
 exact (key 0 () (by omega) trivial).trans (by simp)
theorem W2 (n lo hi:Int):X1k n lo hi=some (inN n lo hi):=by
 rw [X7z];unfold X3G inN
 by_cases h:lo≤n<;>simp [h]
def X3Y (x:Z5):Int:=if x.Lead then 20 else 4
theorem X8h (x:Z5):X5i x=some (X3Y x):=by
 rw [X7d];unfold X2W X3Y
 cases x.Lead<;>rfl
def X7s (x:Z5) (names:List ByteArray):Int :=
 if X1g x.Name names≠0 then X1g x.Name names else if X4 (-X3Y x) (X3Y x) [x.Off.Lo,x.Off.Hi] then 7 else if x.Off.Lo>x.Off.Hi then 2 else 0
theorem X97 (x:Z5) (l:List Z5) (hl:l.length<1000000) (k:(Int×Z5)⊕Unit→Option Int) (r1 r2:Option Int) (h1:∀ (i:Nat) y,k (.inl ((i:Int),y))=r1) (h2:k (.inr ())=r2) :
  Option.bind (X2l (↑l.length) l x 0) k=if x.Name∈l.map (·.Name) then r1 else r2:=by
 have key:=X5 (XO (↑l.length) l x) k l.length (fun i (_:Unit)=>(i:Int)) (fun _ _=>True) (fun i _=>if x.Name∈(l.drop i).map (·.Name) then r1 else r2)
  (by
   intro b _ R
   simp [XO,XY,h2])
  (by
   intro i b hi _ R hR
   have hR':=hR () trivial
   simp only [XO,XY]
   rw [List.drop_eq_getElem_cons hi]
   simp only [kS,X0 _ _ _ hi,List.map_cons,List.mem_cons]
   have hw:=wS i (by omega)
   rw [hw]
   have e1:decide ((i:Int)<↑l.length)=true:=by simp [hi]
   have e2:=z0S i
   simp only [e1,e2,Bool.and_self,cond_true]
   by_cases h3:l[i].Name.toList=x.Name.toList
   ·have h4:x.Name=l[i].Name:=X6S h3.symm
    simp [h3,h4,h1]
   ·have h4:¬ x.Name=l[i].Name:=fun e=>h3 (by rw [e])
    have h5:(l[i].Name.toList==x.Name.toList)=false:=beq_eq_false_iff_ne.2 h3
    simp only [h5,cond_false,h4,false_or]
    exact hR')
 exact (key 0 () (by omega) trivial).trans (by simp)
theorem X98 (x:Z5) (l:List Z5) (hl:l.length<1000000) (k:(Int×Z5)⊕Unit→Option Int) (r1 r2:Option Int) (h1:∀ (i:Nat) y,k (.inl ((i:Int),y))=r1) (h2:k (.inr ())=r2) :
  Option.bind (X2m (↑l.length) l x 0) k=if x.Name∈l.map (·.Name) then r1 else r2:=by
 have key:=X5 (XP (↑l.length) l x) k l.length (fun i (_:Unit)=>(i:Int)) (fun _ _=>True) (fun i _=>if x.Name∈(l.drop i).map (·.Name) then r1 else r2)
  (by
   intro b _ R
   simp [XP,XZ,h2])
  (by
   intro i b hi _ R hR
   have hR':=hR () trivial
   simp only [XP,XZ]
   rw [List.drop_eq_getElem_cons hi]
   simp only [kS,X0 _ _ _ hi,List.map_cons,List.mem_cons]
   have hw:=wS i (by omega)
   rw [hw]
   have e1:decide ((i:Int)<↑l.length)=true:=by simp [hi]
   have e2:=z0S i
   simp only [e1,e2,Bool.and_self,cond_true]
   by_cases h3:l[i].Name.toList=x.Name.toList
   ·have h4:x.Name=l[i].Name:=X6S h3.symm
    simp [h3,h4,h1]
   ·have h4:¬ x.Name=l[i].Name:=fun e=>h3 (by rw [e])
    have h5:(l[i].Name.toList==x.Name.toList)=false:=beq_eq_false_iff_ne.2 h3
    simp only [h5,cond_false,h4,false_or]
    exact hR')
 exact (key 0 () (by omega) trivial).trans (by simp)
theorem X6O (x:Z5) (l:List Z5) (hl:l.length<1000000):X3B x l=some (X7s x (l.map (·.Name))):=by
 rw [X4P];unfold X1f X7s X1g X3Y
 have hw20:IntKind.wrap .i64 (0-20) = -20:=by rw [w64]<;>omega
 have hw4:IntKind.wrap .i64 (0-4) = -4:=by rw [w64]<;>omega
 rw [X53]
 simp only [jS,hw20,hw4]
 cases hb:x.Lead
 ·simp only [cond_false,Bool.false_eq_true,if_false]
  cases hn:X69 x.Name
  ·simp
  ·simp only [Bool.not_true,cond_false,if_true]
   rw [X98 x l hl _ (some 5) (if X4 (-4) 4 [x.Off.Lo,x.Off.Hi] then some 7 else if x.Off.Lo>x.Off.Hi then some 2 else some 0) (fun i y=>by simp) (by
    simp only [Sum.elim_inr]
    rw [X3 _ _ _ (by simp)]
    simp only [jS]
    cases X4 (-4) 4 [x.Off.Lo,x.Off.Hi]
    ·by_cases h:x.Off.Lo>x.Off.Hi<;>simp [h]
    ·simp)]
   by_cases hm:x.Name∈l.map (·.Name)
   ·simp [hm]
   ·simp only [hm,if_false,ne_eq,not_true]
    cases X4 (-4) 4 [x.Off.Lo,x.Off.Hi]
    ·by_cases h:x.Off.Lo>x.Off.Hi<;>simp [h]
    ·simp
 ·simp only [cond_true,if_true]
  cases hn:X69 x.Name
  ·simp
  ·simp only [Bool.not_true,cond_false,if_true]
   rw [X97 x l hl _ (some 5) (if X4 (-20) 20 [x.Off.Lo,x.Off.Hi] then some 7 else if x.Off.Lo>x.Off.Hi then some 2 else some 0) (fun i y=>by simp) (by
    simp only [Sum.elim_inr]
    rw [X3 _ _ _ (by simp)]
    simp only [jS]
    cases X4 (-20) 20 [x.Off.Lo,x.Off.Hi]
    ·by_cases h:x.Off.Lo>x.Off.Hi<;>simp [h]
    ·simp)]
   by_cases hm:x.Name∈l.map (·.Name)
   ·simp [hm]
   ·simp only [hm,if_false,ne_eq,not_true]
    cases X4 (-20) 20 [x.Off.Lo,x.Off.Hi]
    ·by_cases h:x.Off.Lo>x.Off.Hi<;>simp [h]
    ·simp
def X4L (a:Zt):Int:=if X4 (-30000) 30000 [a.X.Lo,a.X.Hi,a.Y.Lo,a.Y.Hi]||X4 0 1000 [a.Depth.Lo,a.Depth.Hi]||X4 1 4 [a.Ground] then 7 else if a.X.Lo>a.X.Hi∨a.Y.Lo>a.Y.Hi∨a.Depth.Lo>a.Depth.Hi then 2 else 0
theorem X8y (a:Zt):X73 a=some (X4L a):=by
 rw [X7q];unfold X3n X4L
 rw [X3 _ _ _ (by simp),X3 _ _ _ (by simp),X3 _ _ _ (by simp)]
 simp only [jS]
 cases X4 (-30000) 30000 [a.X.Lo,a.X.Hi,a.Y.Lo,a.Y.Hi]
 ·cases X4 0 1000 [a.Depth.Lo,a.Depth.Hi]
  ·cases X4 1 4 [a.Ground]
   ·by_cases h1:a.X.Lo>a.X.Hi
    ·simp [h1]
    ·by_cases h2:a.Y.Lo>a.Y.Hi
     ·simp [h1,h2]
     ·by_cases h3:a.Depth.Lo>a.Depth.Hi<;>simp [h1,h2,h3]
   ·simp
  ·simp
 ·simp
theorem X7F (i:Int) (a:Zt):X3Z i a=some (X4L a):=by
 rw [X5V];unfold X2c
 rw [X8y];rfl
theorem Xab (lo hi a b c d:Int):X4 lo hi [a,b,c,d]=(X4 lo hi [a,b]||X4 lo hi [c,d]):=by simp [Bool.or_assoc]
theorem X82 (a:Zt):X5y a=some (X4L a):=by
 rw [X6H];unfold X2C X4L X3e
 rw [X2Y _ _ _ (by simp),X2Y _ _ _ (by simp),W2,X1n,Xab]
 simp only [jS,X2I]
 cases X4 (-30000) 30000 [a.X.Lo,a.X.Hi]
 ·cases X4 (-30000) 30000 [a.Y.Lo,a.Y.Hi]
  ·cases X4 0 1000 [a.Depth.Lo,a.Depth.Hi]
   ·cases X4 1 4 [a.Ground]
    ·by_cases h1:a.X.Lo>a.X.Hi<;>by_cases h2:a.Y.Lo>a.Y.Hi<;>by_cases h3:a.Depth.Lo>a.Depth.Hi<;>simp [h1,h2,h3]
    ·by_cases h1:a.X.Lo>a.X.Hi<;>by_cases h2:a.Y.Lo>a.Y.Hi<;>by_cases h3:a.Depth.Lo>a.Depth.Hi<;>simp [h1,h2,h3]
   ·by_cases h1:a.X.Lo>a.X.Hi<;>by_cases h2:a.Y.Lo>a.Y.Hi<;>simp [h1,h2]
  ·simp
 ·simp
def X1Z:Nat→List ByteArray→List Z5→Int×Int×Int
 | _,_,[]=>(0,0,0)
 | i,names,x::l=>if X7s x names=0 then X1Z (i+1) (names++[x.Name]) l else (3,(i:Int),X7s x names)
def X2Z:Nat→List Zt→Int×Int×Int
 | _,[]=>(0,0,0)
 | i,a::l=>if X4L a=0 then X2Z (i+1) l else (4,(i:Int),X4L a)
def X1P (f:ZJ):Int×Int×Int :=
 if (X4a f.Chart).2.2≠0 then (1,0,(X4a f.Chart).2.2) else
 if X4 0 40000 [f.Day]||X4 1 500 [f.Step]||X4 0 8 [f.Half] then (2,0,7) else
 if X4 1 4 [(f.Instruments.length:Int)] then (3,0,3) else
 if (X1Z 0 [] f.Instruments).2.2≠0 then X1Z 0 [] f.Instruments else
 if 6<f.Areas.length then (4,0,3) else X2Z 0 f.Areas
theorem X8I (l:List Zt) (hl:l.length≤6) (k:(Int×Int×Zt)⊕Unit→Option (Int×Int×Int)) (h1:∀ (i e:Int) y,e≠0→k (.inl (e,i,y))=some (4,i,e)) (h2:k (.inr ())=some (0,0,0)) :
  Option.bind (X3Q l (↑l.length) 0) k=some (X2Z 0 l):=by
 have key:=X5 (X1x l (↑l.length)) k l.length (fun i (_:Unit)=>(i:Int)) (fun _ _=>True) (fun i _=>some (X2Z i (l.drop i)))
  (by
   intro b _ R
   simp [X1x,X1E,h2,X2Z])
  (by
   intro i b hi _ R hR
   have hR':=hR () trivial
   simp only [X1x,X1E]
   rw [List.drop_eq_getElem_cons hi]
   simp only [kS,X0 _ _ _ hi,X2Z]
   have hw:=wS i (by omega)
   rw [hw,X7F]
   have e1:decide ((i:Int)<↑l.length)=true:=by simp [hi]
   have e2:=z0S i
   simp only [e1,e2,Bool.and_self,cond_true,jS]
   by_cases h3:X4L l[i]=0
   ·simp only [h3,bne_self_eq_false,cond_false,jS,Sum.elim_inl,if_true]
    exact hR'
   ·simp [h3,W8 h3,h1])
 exact (key 0 () (by omega) trivial).trans (by simp)
theorem X8J (l:List Zt) (hl:l.length≤6) (k:(Int×Int×Zt)⊕Unit→Option (Int×Int×Int)) (h1:∀ (i e:Int) y,e≠0→k (.inl (e,i,y))=some (4,i,e)) (h2:k (.inr ())=some (0,0,0)) :
  Option.bind (X2E l (↑l.length) 0) k=some (X2Z 0 l):=X8I l hl k h1 h2
theorem X99 (f:ZJ) (hl:f.Instruments.length≤4) (k:(Int×Int×Z5×Z5)⊕Unit→Option (Int×Int×Int)) (r:Option (Int×Int×Int)) (h1:∀ (i e:Int) y y',e≠0→k (.inl (e,i,y,y'))=some (3,i,e)) (h2:k (.inr ())=r) :
  Option.bind (X3P f.Instruments (↑f.Instruments.length) f 0) k=if (X1Z 0 [] f.Instruments).2.2≠0 then some (X1Z 0 [] f.Instruments) else r:=by
 have key:=X5 (X1w f.Instruments (↑f.Instruments.length) f) k f.Instruments.length (fun i (_:Unit)=>(i:Int)) (fun _ _=>True) (fun i _=>if (X1Z i ((f.Instruments.take i).map (·.Name)) (f.Instruments.drop i)).2.2≠0 then some (X1Z i ((f.Instruments.take i).map (·.Name)) (f.Instruments.drop i)) else r)
  (by
   intro b _ R
   simp [X1w,X1D,h2,X1Z])
  (by
   intro i b hi _ R hR
   have hR':=hR () trivial
   simp only [X1w,X1D]
   rw [List.drop_eq_getElem_cons hi]
   rw [←List.take_concat_get hi] at hR'
   simp only [List.concat_eq_append,List.map_append,List.map_cons,List.map_nil] at hR'
   simp only [kS,X0 _ _ _ hi,X1Z,List.drop_zero]
   have hw:=wS i (by omega)
   rw [hw,X6O _ _ (by simp;omega)]
   have e1:decide ((i:Int)<↑f.Instruments.length)=true:=by simp [hi]
   have e2:=z0S i
   have e3:decide ((i:Int)≤↑f.Instruments.length)=true:=by simp;omega
   simp only [e1,e2,e3,Bool.and_self,cond_true,jS]
   by_cases h3:X7s f.Instruments[i] ((f.Instruments.take i).map (·.Name))=0
   ·simp only [h3,bne_self_eq_false,cond_false,jS,Sum.elim_inl,if_true]
    exact hR'
   ·simp only [W8 h3,cond_true,jS,Sum.elim_inr,h1 _ _ _ _ h3,if_neg h3]
    rw [if_pos h3])
 exact (key 0 () (by omega) trivial).trans (by simp)
theorem X8b (f:ZJ):X6m f=some (X1P f):=by
 rw [X6W];unfold X2O X1P
 rw [X5U,X3 _ _ _ (by simp),X3 _ _ _ (by simp),X3 _ _ _ (by simp),X3 _ _ _ (by simp)]
 simp only [jS]
 by_cases h1:(X4a f.Chart).2.2=0
 ·simp only [h1,bne_self_eq_false,cond_false,ne_eq,not_true,if_false]
  cases X4 0 40000 [f.Day]
  ·cases X4 1 500 [f.Step]
   ·cases X4 0 8 [f.Half]
    ·cases hi:X4 1 4 [(f.Instruments.length:Int)]
     ·have hl:f.Instruments.length≤4:=by simp at hi;omega
      simp only [cond_false,Bool.or_self,Bool.false_eq_true,if_false]
      have ha:(bif decide ((f.Areas.length:Int)>6) then some (4,0,3) else Option.bind (X2E f.Areas (↑f.Areas.length) 0) fun o257↦Sum.elim (fun y258↦bif y258.fst != 0 then some (4,y258.snd.fst,y258.fst) else some ((0:Int),(0:Int),(0:Int))) (fun y259↦some (0,0,0)) o257)=(some (if 6<f.Areas.length then (4,0,3) else X2Z 0 f.Areas):Option (Int×Int×Int)):=by
       by_cases h6:6<f.Areas.length
       ·have:decide ((f.Areas.length:Int)>6)=true:=by simp;omega
        rw [this];simp [h6]
       ·have:decide ((f.Areas.length:Int)>6)=false:=by simp;omega
        rw [this]
        simp only [cond_false,h6,if_false]
        exact X8J _ (by omega) _ (fun i e y he=>by simp [W8 he]) rfl
      rw [X99 f hl _ _ (fun i e y y' he=>by simp [W8 he]) (by simp only [Sum.elim_inr];exact ha)]
      by_cases h3:(X1Z 0 [] f.Instruments).2.2=0<;>simp [h3]
     ·simp
    ·simp
   ·simp
  ·simp
 ·simp [h1,W8 h1]
theorem X84 (f:ZJ) (hl:f.Instruments.length≤4) (k:(Int×Int×Int×List ByteArray×List ByteArray×Z5)⊕((Int×Int×Int×List ByteArray×List ByteArray×Z5)⊕List ByteArray)→Option (Int×Int×Int)) (r:Option (Int×Int×Int))
  (h1:∀ (i e:Int) y y' z,k (.inl (i,e,3,y,y',z))=some (3,i,e)) (h1':∀ (i e:Int) y y' z,k (.inr (.inl (i,e,3,y,y',z)))=some (3,i,e)) (h2:∀ l,k (.inr (.inr l))=r) :
  Option.bind (X34 f (0,[])) k=if (X1Z 0 [] f.Instruments).2.2≠0 then some (X1Z 0 [] f.Instruments) else r:=by
 have key:=X5 (WK f) k f.Instruments.length (fun i (b:List ByteArray)=>((i:Int),b)) (fun i b=>b=(f.Instruments.take i).map (·.Name)) (fun i b=>if (X1Z i b (f.Instruments.drop i)).2.2≠0 then some (X1Z i b (f.Instruments.drop i)) else r)
  (by
   intro b _ R
   simp [WK,X11,h2,X1Z])
  (by
   intro i b hi hb R hR
   have hR':=hR (b++[f.Instruments[i].Name]) (by rw [hb,←List.take_concat_get hi,List.concat_eq_append,List.map_append];rfl)
   have hbl:b.length≤4:=by rw [hb];simp;omega
   simp only [WK,X11]
   rw [List.drop_eq_getElem_cons hi]
   simp only [kS,X0 _ _ _ hi,X1Z]
   have hw:=wS i (by omega)
   rw [hw,X4C _ _ (by omega),X8h]
   have e1:decide ((i:Int)<↑f.Instruments.length)=true:=by simp [hi]
   have e2:=z0S i
   have e3:Nat.ble ((b.length+[f.Instruments[i].Name].length)*(16+1)) 200000000000000=true:=by
    apply Nat.ble_eq_true_of_le;simp;omega
   have hf:IntKind.wrap .i64 (0-X3Y f.Instruments[i]) = -X3Y f.Instruments[i]:=by unfold X3Y;split<;>(rw [w64]<;>omega)
   simp only [e1,e2,e3,Bool.and_self,cond_true,jS,hf,X3e]
   rw [X2Y _ _ _ (by simp)]
   unfold X7s
   by_cases h3:X1g f.Instruments[i].Name b=0
   ·simp only [h3,beq_self_eq_true,cond_true,ne_eq,not_true,if_false,jS,X2I]
    cases ho:X4 (-X3Y f.Instruments[i]) (X3Y f.Instruments[i]) [f.Instruments[i].Off.Lo,f.Instruments[i].Off.Hi]
    ·by_cases h4:f.Instruments[i].Off.Lo>f.Instruments[i].Off.Hi
     ·simp [h4,h1]
     ·simp only [h4,Bool.false_eq_true,if_false,bne_self_eq_false,cond_false,jS,Sum.elim_inl,if_true]
      exact hR'
    ·simp [h1]
   ·have h5:=W8 h3
    simp [h3,X3I h3,h5,h1'])
 exact (key 0 [] (by omega) (by simp)).trans (by simp)
theorem X83 (f:ZJ) (hl:f.Areas.length≤6) (k:(Int×Int×Int)⊕Unit→Option (Int×Int×Int)) (h1:∀ (i e:Int),k (.inl (i,e,4))=some (4,i,e)) (h2:k (.inr ())=some (0,0,0)) :
  Option.bind (X35 f 0) k=some (X2Z 0 f.Areas):=by
 have key:=X5 (WL f) k f.Areas.length (fun i (_:Unit)=>(i:Int)) (fun _ _=>True) (fun i _=>some (X2Z i (f.Areas.drop i)))
  (by
   intro b _ R
   simp [WL,X12,h2,X2Z])
  (by
   intro i b hi _ R hR
   have hR':=hR () trivial
   simp only [WL,X12]
   rw [List.drop_eq_getElem_cons hi]
   simp only [kS,X0 _ _ _ hi,X2Z]
   have hw:=wS i (by omega)
   rw [hw,X82]
   have e1:decide ((i:Int)<↑f.Areas.length)=true:=by simp [hi]
   have e2:=z0S i
   simp only [e1,e2,Bool.and_self,cond_true,jS]
   by_cases h3:X4L f.Areas[i]=0
   ·simp only [h3,bne_self_eq_false,cond_false,jS,Sum.elim_inl,if_true]
    exact hR'
   ·simp [h3,W8 h3,h1])
 exact (key 0 () (by omega) trivial).trans (by simp)
theorem X5O (f:ZJ):X45 f=some (X1P f):=by
 rw [X6e];unfold X2j X1P
 rw [X6a,W2,W2,W2,W2,X1n,X1n,X1n,X1n]
 simp only [jS,Bool.not_not]
 by_cases h1:(X4a f.Chart).2.2=0
 ·simp only [h1,bne_self_eq_false,cond_false,ne_eq,not_true,if_false]
  cases X4 0 40000 [f.Day]
  ·cases X4 1 500 [f.Step]
   ·cases X4 0 8 [f.Half]
    ·cases hi:X4 1 4 [(f.Instruments.length:Int)]
     ·have hl:f.Instruments.length≤4:=by simp at hi;omega
      simp only [cond_false,Bool.or_self,Bool.false_eq_true,if_false]
      rw [X84 f hl _ (some (if 6<f.Areas.length then (4,0,3) else X2Z 0 f.Areas)) (fun i e y y' z=>rfl) (fun i e y y' z=>rfl) (fun l=>by
       simp only [Sum.elim_inr]
       by_cases h6:6<f.Areas.length
       ·have:decide ((f.Areas.length:Int)>6)=true:=by simp;omega
        rw [this];simp [h6]
       ·have:decide ((f.Areas.length:Int)>6)=false:=by simp;omega
        rw [this]
        simp only [cond_false,h6,if_false]
        exact X83 f (by omega) _ (fun i e=>rfl) rfl)]
      by_cases h3:(X1Z 0 [] f.Instruments).2.2=0<;>simp [h3]
     ·simp
    ·simp
   ·simp
  ·simp
 ·simp [h1,W8 h1]
end Nore
open Go Go.Ab
namespace Nore
def X4y (d:Int):Int→List Zk→Int
 | c,[]=>c
 | c,p::l=>X4y d (if p.Day≤d then p.Colour else c) l
def X4z (m:Zw) (d:Int):Int:=X4y d 0 m.Paints
theorem X7y (d:Int) (p:Zk):∀ (l:List Zk) (c:Int),X4y d c (l++[p])=if p.Day≤d then p.Colour else X4y d c l
 | [],c=>rfl
 | q::l,c=>by simp only [List.cons_append,X4y,X7y d p l]
theorem X4X (m:Zw) (d:Int) (hl:m.Paints.length<1000000):X2V m d=some (X4z m d):=by
 rw [X5g];unfold X1K X4z
 have key:=X5 (W7 d m) (fun o=>some o) m.Paints.length (fun i (b:Int)=>(b,(i:Int))) (fun _ _=>True) (fun i b=>some (X4y d b (m.Paints.drop i)))
  (by
   intro b _ R
   simp [W7,Wb,X4y])
  (by
   intro i b hi _ R hR
   simp only [W7,Wb]
   rw [List.drop_eq_getElem_cons hi]
   simp only [kS,X0 _ _ _ hi,X4y]
   have hw:=wS i (by omega)
   rw [hw]
   have e1:decide ((i:Int)<↑m.Paints.length)=true:=by simp [hi]
   have e2:=z0S i
   simp only [e1,e2,Bool.and_self,cond_true]
   by_cases h3:m.Paints[i].Day≤d
   ·simp only [h3,decide_true,cond_true,jS,Sum.elim_inl,if_true]
    exact hR _ trivial
   ·simp only [h3,decide_false,cond_false,jS,Sum.elim_inl,if_false]
    exact hR _ trivial)
 exact key 0 0 (by omega) trivial
theorem X8S (d:Int) (l:List Zk) (hl:l.length<1000000) (k:(Zk×Int×Int)⊕Unit→Option (Zw×Int×Int)) (mk:Zw) (h1:∀ p c e,k (.inl (p,c,e))=some (mk,c,e)) (h2:k (.inr ())=some (mk,0,0)) :
  Option.bind (X1N d l ((l.length:Int)-1)) k=some (mk,X4y d 0 l,0):=by
 have key:=X5 (Wd d l) k l.length (fun i (_:Unit)=>(l.length:Int)-1-i) (fun _ _=>True) (fun i _=>some (mk,X4y d 0 (l.take (l.length-i)),0))
  (by
   intro b _ R
   have:decide ((l.length:Int)-1-l.length≥0)=false:=by simp;omega
   simp only [Wd,Wo,this,cond_false,jS,Sum.elim_inr,h2]
   simp [X4y])
  (by
   intro i b hi _ R hR
   have hR':=hR () trivial
   have ht:((l.length:Int)-1-i).toNat=l.length-1-i:=by omega
   have hj:l.length-1-i<l.length:=by omega
   simp only [Wd,Wo,ht,X0 _ _ _ hj]
   have e1:decide ((l.length:Int)-1-i≥0)=true:=by simp;omega
   have e2:decide ((0:Int)≤(l.length:Int)-1-i)=true:=by simp;omega
   have e3:decide ((l.length:Int)-1-i<l.length)=true:=by simp;omega
   have hw:IntKind.wrap .i64 ((l.length:Int)-1-i-1)=(l.length:Int)-1-((i+1:Nat):Int):=by rw [w64]<;>omega
   simp only [e1,e2,e3,Bool.and_self,cond_true,hw]
   have hs:l.take (l.length-i)=l.take (l.length-(i+1))++[l[l.length-1-i]]:=by
    have:=List.take_concat_get hj
    rw [show l.length-i=l.length-1-i+1 by omega,←this,List.concat_eq_append,show l.length-(i+1)=l.length-1-i by omega]
   rw [hs,X7y]
   by_cases h3:l[l.length-1-i].Day≤d
   ·simp [h3,h1]
   ·simp only [h3,decide_false,cond_false,jS,Sum.elim_inl,if_false]
    exact hR')
 have:=key 0 () (by omega) trivial
 unfold X1N
 simpa using this
theorem X9c (l:List Zk) (h:X3E l=0):l.length≤4:=by
 unfold X3E at h
 cases ho:X4 1 4 [(l.length:Int)]
 ·simp at ho;omega
 ·rw [ho] at h;simp at h
theorem X8T (sands:List CtSand):∀ (l:List Zw) (i:Nat) (names:List ByteArray),(X54 sands i names l).2.2=0→∀ m∈l,X3k 30000 m.At=false∧m.Paints.length≤4
 | [],_,_,_,m,hm=>by cases hm
 | x::l,i,names,h,m,hm=>by
  simp only [X54] at h
  by_cases h0:X3M x names=0
  ·simp only [h0,if_true] at h
   rcases List.mem_cons.1 hm with e|e
   ·subst e
    unfold X3M at h0
    by_cases h1:X1g m.Name names=0
    ·simp only [h1,if_true] at h0
     cases hf:X3k 30000 m.At
     ·rw [hf] at h0
      exact ⟨rfl,X9c _ (by simpa using h0)⟩
     ·rw [hf] at h0;simp at h0
    ·simp only [h1,if_false] at h0
   ·exact X8T sands l _ _ h m e
  ·simp only [h0,if_false] at h
structure Wn (f:ZJ):Prop where
 chart:(X4a f.Chart).2.2=0
 marks:f.Chart.Marks.length≤8
 mark:∀ m∈f.Chart.Marks,X3k 30000 m.At=false∧m.Paints.length≤4
 day:0≤f.Day∧f.Day≤40000
 step:1≤f.Step∧f.Step≤500
 half:0≤f.Half∧f.Half≤8
 inst:1≤f.Instruments.length∧f.Instruments.length≤4
 off:∀ x∈f.Instruments,-X3Y x≤x.Off.Lo∧x.Off.Lo≤x.Off.Hi∧x.Off.Hi≤X3Y x
 areas:f.Areas.length≤6
 area:∀ a∈f.Areas,X4L a=0
theorem X8Q:∀ (l:List Z5) (i:Nat) (names:List ByteArray),(X1Z i names l).2.2=0→∀ x∈l,-X3Y x≤x.Off.Lo∧x.Off.Lo≤x.Off.Hi∧x.Off.Hi≤X3Y x
 | [],_,_,_,m,hm=>by cases hm
 | x::l,i,names,h,m,hm=>by
  simp only [X1Z] at h
  by_cases h0:X7s x names=0
  ·simp only [h0,if_true] at h
   rcases List.mem_cons.1 hm with e|e
   ·subst e
    unfold X7s at h0
    by_cases h1:X1g m.Name names=0
    ·simp only [h1,ne_eq,not_true,if_false] at h0
     cases ho:X4 (-X3Y m) (X3Y m) [m.Off.Lo,m.Off.Hi]
     ·rw [ho] at h0
      simp at ho h0
      omega
     ·rw [ho] at h0;simp at h0
    ·simp only [ne_eq,h1,not_false_eq_true,if_true] at h0
   ·exact X8Q l _ _ h m e
  ·simp only [h0,if_false] at h
theorem X8K:∀ (l:List Zt) (i:Nat),(X2Z i l).2.2=0→∀ x∈l,X4L x=0
 | [],_,_,m,hm=>by cases hm
 | x::l,i,h,m,hm=>by
  simp only [X2Z] at h
  by_cases h0:X4L x=0
  ·simp only [h0,if_true] at h
   rcases List.mem_cons.1 hm with e|e
   ·subst e;exact h0
   ·exact X8K l _ h m e
  ·simp only [h0,if_false] at h
theorem X74 {f:ZJ} (h:(X1P f).2.2=0):Wn f:=by
 unfold X1P at h
 by_cases h1:(X4a f.Chart).2.2=0
 ·simp only [h1,ne_eq,not_true,if_false] at h
  cases h2:(X4 0 40000 [f.Day]||X4 1 500 [f.Step]||X4 0 8 [f.Half])
  ·rw [h2] at h
   cases h3:X4 1 4 [(f.Instruments.length:Int)]
   ·rw [h3] at h
    simp only [Bool.false_eq_true,if_false] at h
    by_cases h4:(X1Z 0 [] f.Instruments).2.2=0
    ·simp only [h4,ne_eq,not_true,if_false] at h
     by_cases h5:6<f.Areas.length
     ·rw [if_pos h5] at h;simp at h
     ·rw [if_neg h5] at h
      simp at h2 h3
      have hm:¬ 8<f.Chart.Marks.length:=fun q=>by unfold X4a at h1;rw [if_pos q] at h1;simp at h1
      have h1':=h1
      unfold X4a at h1'
      rw [if_neg hm] at h1'
      exact ⟨h1,by omega,X8T _ _ _ _ h1',by omega,by omega,by omega,by omega,X8Q _ _ _ h4,by omega,X8K _ _ h⟩
    ·exfalso
     rw [if_pos h4] at h;exact h4 h
   ·rw [h3] at h;simp at h
  ·rw [h2] at h;simp at h
 ·rw [if_pos h1] at h;exact absurd h h1
theorem X59 {f:ZJ} (hg:Wn f) (mark:Int) (h0:0≤mark) (h1:mark<f.Chart.Marks.length) :
  X3i f.Chart f.Day mark=some (f.Chart.Marks.getD mark.toNat ⟨ByteArray.empty,⟨0,0⟩,[]⟩,X4z (f.Chart.Marks.getD mark.toNat ⟨ByteArray.empty,⟨0,0⟩,[]⟩) f.Day,0):=by
 rw [X5E];unfold X1T
 have hm:=hg.marks
 have hd:=hg.day
 have hj:mark.toNat<f.Chart.Marks.length:=by omega
 have hp:=(hg.mark _ (List.getElem_mem hj)).2
 have hw:IntKind.wrap .i64 ((f.Chart.Marks.length:Int)-1)=(f.Chart.Marks.length:Int)-1:=by rw [w64]<;>omega
 rw [X5U,X14 _ _ _ (by simp),X14 _ _ _ (by simp),hw]
 have o1:X4 0 40000 [f.Day]=false:=by simp;omega
 have o2:X4 0 ((f.Chart.Marks.length:Int)-1) [mark]=false:=by simp;omega
 have e1:decide (0≤mark)=true:=by simp [h0]
 have e2:decide (mark<(f.Chart.Marks.length:Int))=true:=by simp [h1]
 simp only [jS,hg.chart,bne_self_eq_false,cond_false,o1,o2,e1,e2,Bool.and_self,cond_true,X0 _ _ _ hj]
 have hw2:IntKind.wrap .i64 ((f.Chart.Marks[mark.toNat].Paints.length:Int)-1)=(f.Chart.Marks[mark.toNat].Paints.length:Int)-1:=by rw [w64]<;>omega
 rw [hw2]
 exact X8S f.Day _ (by omega) _ _ (fun p c e=>rfl) rfl
def Z8y (f:ZJ) (mark:Int):Zw:=f.Chart.Marks.getD mark.toNat ⟨ByteArray.empty,⟨0,0⟩,[]⟩
def X3H (f:ZJ) (mark:Int):Bool:=X4z (Z8y f mark) f.Day != 0
theorem X9h {f:ZJ} (hg:Wn f) (mark:Int) (h0:0≤mark) (h1:mark<f.Chart.Marks.length) (l:List Zn) (kit:Nat→Nat) (m:List (Zh×Int)) :
  W4 (mark,f,l,kit,m)=some (X3H f mark,f,l,kit,m):=by
 rw [X3s];unfold XJ
 rw [X5C];unfold X1S
 rw [X59 hg mark h0 h1]
 rfl
def Kit (f:ZJ) (kit:Nat→Nat):Prop:=∀ i,(h:i<f.Instruments.length)→kit i=if f.Instruments[i].Lead then 2 else 1
def X1s (f:ZJ) (i:Int):Z5:=f.Instruments.getD i.toNat ⟨ByteArray.empty,false,⟨0,0⟩⟩
def XB (f:ZJ) (x:Zn):Int :=
 if X4 0 ((f.Instruments.length:Int)-1) [x.Instrument] then 4 else
 if (X1s f x.Instrument).Lead then (if X4 0 1000 [x.Shown]||X4 0 4 [x.Ground] then 7 else if x.Mark≠0 then 2 else 0)
 else if X4 0 ((f.Chart.Marks.length:Int)-1) [x.Mark] then 4 else if X3H f x.Mark=false then 9 else if X4 0 31 [x.Shown] then 7 else if x.Ground≠0 then 7 else 0
theorem X9D {f:ZJ} (hg:Wn f) (x:Zn) (l:List Zn) {kit:Nat→Nat} (hk:Kit f kit) (m:List (Zh×Int)) :
  X1d (x,f,l,kit,m)=some (XB f x,f,l,kit,m):=by
 rw [X3K];unfold XX XB
 have hm:=hg.marks
 have hi:=hg.inst
 have hw:IntKind.wrap .i64 ((f.Chart.Marks.length:Int)-1)=(f.Chart.Marks.length:Int)-1:=by rw [w64]<;>omega
 have hw2:IntKind.wrap .i64 ((f.Instruments.length:Int)-1)=(f.Instruments.length:Int)-1:=by rw [w64]<;>omega
 simp only [hw,hw2]
 rw [X3 _ _ _ (by simp),X3 _ _ _ (by simp),X3 _ _ _ (by simp),X3 _ _ _ (by simp),X3 _ _ _ (by simp)]
 simp only [jS]
 cases ho:X4 0 ((f.Instruments.length:Int)-1) [x.Instrument]
 ·simp at ho
  have hj:x.Instrument.toNat<f.Instruments.length:=by omega
  have e1:decide (0≤x.Instrument)=true:=by simp;omega
  have e2:decide (x.Instrument<((4:Nat):Int))=true:=by simp;omega
  have e3:Nat.blt x.Instrument.toNat 4=true:=by rw [Tr.blt_dec];simp;omega
  have hkk:=hk _ hj
  have hio:X1s f x.Instrument=f.Instruments[x.Instrument.toNat]:=X0 _ _ _ hj
  rw [hio]
  have e2':decide (x.Instrument<(4:Int))=true:=by simp;omega
  simp only [cond_false,Bool.false_eq_true,if_false,e1,e2,e2',e3,Bool.and_self,cond_true]
  cases hL:f.Instruments[x.Instrument.toNat].Lead
  ·rw [hL] at hkk
   simp only [Bool.false_eq_true,if_false] at hkk
   simp only [hkk,show Nat.beq 1 0=false from rfl,show Nat.beq 1 1=true from rfl,cond_false,cond_true,Bool.false_eq_true,if_false]
   cases hmk:X4 0 ((f.Chart.Marks.length:Int)-1) [x.Mark]
   ·simp at hmk
    simp only [cond_false,Bool.false_eq_true,if_false]
    rw [X9h hg x.Mark (by omega) (by omega)]
    simp only [jS]
    cases X3H f x.Mark
    ·simp
    ·cases X4 0 31 [x.Shown]
     ·by_cases h5:x.Ground=0<;>simp [h5,W8]
     ·simp
   ·simp
  ·rw [hL] at hkk
   simp only [if_true] at hkk
   simp only [hkk,show Nat.beq 2 0=false from rfl,show Nat.beq 2 1=false from rfl,show Nat.beq 2 (1+1)=true from rfl,cond_false,cond_true,if_true]
   cases X4 0 1000 [x.Shown]
   ·cases X4 0 4 [x.Ground]
    ·by_cases h5:x.Mark=0<;>simp [h5,W8]
    ·simp
   ·simp
 ·simp
theorem X7I {f:ZJ} (hg:Wn f) (x:Zn):X51 f x=some (XB f x):=by
 rw [X6g];unfold X2k XB
 have hm:=hg.marks
 have hi:=hg.inst
 have hw:IntKind.wrap .i64 ((f.Chart.Marks.length:Int)-1)=(f.Chart.Marks.length:Int)-1:=by rw [w64]<;>omega
 have hw2:IntKind.wrap .i64 ((f.Instruments.length:Int)-1)=(f.Instruments.length:Int)-1:=by rw [w64]<;>omega
 simp only [hw,hw2]
 rw [W2,W2,W2,W2,W2,X1n,X1n,X1n,X1n,X1n]
 simp only [jS,Bool.not_not]
 cases ho:X4 0 ((f.Instruments.length:Int)-1) [x.Instrument]
 ·simp at ho
  have hj:x.Instrument.toNat<f.Instruments.length:=by omega
  have e1:decide (0≤x.Instrument)=true:=by simp;omega
  have e2:decide (x.Instrument<(f.Instruments.length:Int))=true:=by simp;omega
  have hio:X1s f x.Instrument=f.Instruments[x.Instrument.toNat]:=X0 _ _ _ hj
  rw [hio]
  simp only [cond_false,Bool.false_eq_true,if_false,e1,e2,Bool.and_self,cond_true,X0 _ _ _ hj]
  cases hL:f.Instruments[x.Instrument.toNat].Lead
  ·simp only [cond_false,Bool.false_eq_true,if_false]
   cases hmk:X4 0 ((f.Chart.Marks.length:Int)-1) [x.Mark]
   ·simp at hmk
    have hj2:x.Mark.toNat<f.Chart.Marks.length:=by omega
    have e3:decide (0≤x.Mark)=true:=by simp;omega
    have e4:decide (x.Mark<(f.Chart.Marks.length:Int))=true:=by simp;omega
    have hp:=(hg.mark _ (List.getElem_mem hj2)).2
    simp only [cond_false,Bool.false_eq_true,if_false,e3,e4,Bool.and_self,cond_true,X0 _ _ _ hj2]
    rw [X4X _ _ (by omega)]
    unfold X3H Z8y
    rw [X0 _ _ _ hj2]
    simp only [jS]
    by_cases h0:X4z f.Chart.Marks[x.Mark.toNat] f.Day=0
    ·simp [h0]
    ·simp only [X3I h0,W8 h0,cond_false,Bool.true_eq_false,if_false]
     cases X4 0 31 [x.Shown]
     ·by_cases h5:x.Ground=0<;>simp [h5,W8]
     ·simp
   ·simp
  ·simp only [cond_true,if_true]
   cases X4 0 1000 [x.Shown]
   ·cases X4 0 4 [x.Ground]
    ·by_cases h5:x.Mark=0<;>simp [h5,W8]
    ·simp
   ·simp
 ·simp
def W9 (f:ZJ):Nat→List Zn→Int×Int
 | _,[]=>(0,0)
 | i,x::l=>if XB f x=0 then W9 f (i+1) l else ((i:Int),XB f x)
def Xg (f:ZJ) (l:List Zn):Int×Int:=if (X1P f).2.2≠0 then (0,(X1P f).2.2) else if 8<l.length then (0,3) else W9 f 0 l
theorem X5Q (f:ZJ) (l:List Zn):X2r f l=some (Xg f l):=by
 rw [X46];unfold Wc Xg
 rw [X5O]
 simp only [jS]
 by_cases h:(X1P f).2.2=0
 ·have hg:=X74 h
  simp only [h,beq_self_eq_true,cond_true,bne_self_eq_false,cond_false,ne_eq,not_true,if_false]
  by_cases h8:8<l.length
  ·have:decide ((l.length:Int)>8)=true:=by simp;omega
   rw [this];simp [h8]
  ·have:decide ((l.length:Int)>8)=false:=by simp;omega
   rw [this]
   simp only [cond_false,h8,if_false]
   exact X5 (Xm l f) _ l.length (fun i (_:Unit)=>(i:Int)) (fun _ _=>True) (fun i _=>some (W9 f i (l.drop i)))
    (by
     intro b _ R
     simp [Xm,Xs,W9])
    (by
     intro i b hi _ R hR
     have hR':=hR () trivial
     simp only [Xm,Xs]
     rw [List.drop_eq_getElem_cons hi]
     have hw:=wS i (by omega)
     simp only [kS,X0 _ _ _ hi,hw,W9]
     rw [X7I hg]
     have h1:decide ((i:Int)<↑l.length)=true:=by simp [hi]
     have h2:=z0S i
     simp only [h1,h2,Bool.and_self,cond_true,jS]
     by_cases he:XB f l[i]=0
     ·simp only [he,bne_self_eq_false,cond_false,jS,Sum.elim_inl,if_true]
      exact hR'
     ·simp [he,W8 he]) 0 () (by omega) trivial
 ·simp [h,W8 h,X3I h]
theorem X9O (f:ZJ) (hi:f.Instruments.length≤4):∃ kit,X31 f.Instruments (↑f.Instruments.length) (0,fun _=>0)=some kit∧Kit f kit:=by
 have key:∀ j i (b:Nat→Nat),f.Instruments.length-i=j→i≤f.Instruments.length→(∀ q,(h:q<f.Instruments.length)→q<i→b q=if f.Instruments[q].Lead then 2 else 1) →
   ∃ kit,Z8S (WD f.Instruments (↑f.Instruments.length)) ((i:Int),b)=some kit∧Kit f kit:=fun j=>by
  induction j with
  | zero =>
   intro i b hj hil hb
   have:i=f.Instruments.length:=by omega
   subst this
   refine ⟨b,?_,fun q hq=>hb q hq hq⟩
   rw [←X2s (Z8S _ _),X49]
   simp [WD,WR]
  | succ j ih =>
   intro i b hj hil hb
   have hlt:i<f.Instruments.length:=by omega
   have hw:=wS i (by omega)
   have e1:decide ((i:Int)<↑f.Instruments.length)=true:=by simp [hlt]
   have e2:=z0S i
   have e3:decide ((i:Int)<((4:Nat):Int))=true:=by simp;omega
   have e3':decide ((i:Int)<(4:Int))=true:=by simp;omega
   have e4:Nat.blt i 4=true:=by rw [Tr.blt_dec];simp;omega
   obtain ⟨kit,h1,h2⟩:=ih (i+1) (fun q=>if q=i then (if f.Instruments[i].Lead then 2 else 1) else b q) (by omega) (by omega) (fun q hq hq2=>by
    by_cases e:q=i
    ·subst e;simp
    ·simp only [e,if_false];exact hb q hq (by omega))
   refine ⟨kit,?_,h2⟩
   rw [←X2s (Z8S _ _),X49]
   simp only [WD,WR,kS,X0 _ _ _ hlt,hw,e1,e2,e3,e3',e4,Bool.and_self,cond_true]
   have hfun:(fun j=>bif Nat.beq j i then 1+1 else bif Nat.beq j i then 1 else b j)=fun q=>if q=i then 2 else b q:=by
    funext q;rw [Tr.beq_dec];by_cases e:q=i<;>simp [e]
   have hfun2:(fun j=>bif Nat.beq j i then 1 else b j)=fun q=>if q=i then 1 else b q:=by
    funext q;rw [Tr.beq_dec];by_cases e:q=i<;>simp [e]
   rw [hfun,hfun2]
   cases hL:f.Instruments[i].Lead
   ·rw [hL] at h1
    simp only [Bool.false_eq_true,if_false] at h1
    simp only [cond_false,jS,Sum.elim_inl]
    rw [X2s];exact h1
   ·rw [hL] at h1
    simp only [if_true] at h1
    simp only [cond_true,jS,Sum.elim_inl]
    rw [X2s];exact h1
 exact key _ 0 _ rfl (by omega) (fun q _ h=>by omega)
theorem X9A {f:ZJ} (hg:Wn f) (l:List Zn) (h8:l.length≤8) {kit:Nat→Nat} (hk:Kit f kit) {γ:Type} (k:_→Option γ) :
  Option.bind (X32 l (↑l.length) (0,f,l,kit,[])) k=if (W9 f 0 l).2=0 then k (.inr (f,l,kit,[])) else k (.inl ((W9 f 0 l).2,(W9 f 0 l).1,f,l,kit,l.getD (W9 f 0 l).1.toNat ⟨0,0,0,0⟩,l.getD (W9 f 0 l).1.toNat ⟨0,0,0,0⟩,[])):=by
 refine (X5 (WE l (↑l.length)) k l.length (fun i (_:Unit)=>((i:Int),f,l,kit,[])) (fun _ _=>True) (fun i _=>if (W9 f i (l.drop i)).2=0 then k (.inr (f,l,kit,[])) else k (.inl ((W9 f i (l.drop i)).2,(W9 f i (l.drop i)).1,f,l,kit,l.getD (W9 f i (l.drop i)).1.toNat ⟨0,0,0,0⟩,l.getD (W9 f i (l.drop i)).1.toNat ⟨0,0,0,0⟩,[])))
  (by
   intro b _ R
   simp [WE,WS,W9])
  (by
   intro i b hi _ R hR
   have hR':=hR () trivial
   simp only [WE,WS]
   rw [List.drop_eq_getElem_cons hi]
   have hw:=wS i (by omega)
   simp only [kS,X0 _ _ _ hi,hw,W9]
   rw [X9D hg _ _ hk]
   have h1:decide ((i:Int)<↑l.length)=true:=by simp [hi]
   have h2:=z0S i
   simp only [h1,h2,Bool.and_self,cond_true,jS]
   by_cases he:XB f l[i]=0
   ·simp only [he,bne_self_eq_false,cond_false,jS,Sum.elim_inl,if_true]
    exact hR'
   ·simp only [W8 he,cond_true,jS,Sum.elim_inr,if_neg he]
    rw [show ((i:Int)).toNat=i from rfl,X0 _ _ _ hi]) 0 () (by omega) trivial).trans (by simp)
theorem X6k (f:ZJ) (l:List Zn):((X1P f).2.2≠0∨8<l.length)∧X16 (l,f)=some (.inl (Xg f l).2)∧(Xg f l).2≠0 ∨
  ∃ kit,Wn f∧l.length≤8∧Kit f kit∧X16 (l,f)=some (.inr ((Xg f l).2,f,l,kit,[])):=by
 rw [X5I];unfold X1Y
 rw [X5Z];unfold X2e
 rw [X8b]
 unfold Xg
 simp only [jS]
 by_cases h:(X1P f).2.2=0
 ·have hg:=X74 h
  simp only [h,bne_self_eq_false,cond_false,ne_eq,not_true,if_false]
  by_cases h8:8<l.length
  ·have:decide ((l.length:Int)>8)=true:=by simp;omega
   rw [this];simp [h8]
  ·have:decide ((l.length:Int)>8)=false:=by simp;omega
   rw [this]
   simp only [cond_false,h8,if_false]
   obtain ⟨kit,hk1,hk2⟩:=X9O f hg.inst.2
   refine .inr ⟨kit,hg,by omega,hk2,?_⟩
   rw [hk1,jS]
   rw [X9A hg l (by omega) hk2]
   by_cases he:(W9 f 0 l).2=0<;>simp [he]
 ·left
  simp [h,W8 h]
end Nore
open Go Go.Ab
namespace Nore
theorem X3V {β σ ω γ:Type} (st:σ→Option (σ⊕ω)) (k:ω→Option γ) (n:Nat) (emb:Nat→β→σ) (P:Nat→β→Prop) (Q:Nat→β→Option γ→Prop)
  (hd:∀ b,P n b→∀ R:σ→Option γ,Q n b (Option.bind (st (emb n b)) (Sum.elim R k)))
  (hn:∀ i b,i<n→P i b→∀ R:σ→Option γ,(∀ b',P (i+1) b'→Q (i+1) b' (R (emb (i+1) b')))→Q i b (Option.bind (st (emb i b)) (Sum.elim R k))) :
  ∀ i b,i≤n→P i b→Q i b (Option.bind (Z8S st (emb i b)) k):=by
 intro i b hi hP
 induction hj:n-i generalizing i b with
 | zero =>
  have:i=n:=by omega
  subst this
  rw [X49];exact hd b hP _
 | succ j ih =>
  rw [X49]
  exact hn i b (by omega) hP _ fun b' hb'=>ih (i+1) b' (by omega) hb' (by omega)
instance decPoint:DecidableEq Zu:=fun a b=>decidable_of_iff (a.X=b.X∧a.Y=b.Y) ⟨fun h=>Zu.ext h.1 h.2,fun h=>by subst h;exact ⟨rfl,rfl⟩⟩
def X4A (v:Zu):Int×Zu :=
 if 0≤v.X∧0<v.Y then (0,v) else if 0<v.X∧v.Y≤0 then (8,⟨-v.Y,v.X⟩) else if v.X≤0∧v.Y<0 then (16,⟨-v.X,-v.Y⟩) else (24,⟨v.Y,-v.X⟩)
def X7:List Zu:=[⟨0,1000⟩,⟨195,981⟩,⟨383,924⟩,⟨556,831⟩,⟨707,707⟩,⟨831,556⟩,⟨924,383⟩,⟨981,195⟩]
def X6M (v:Zu) (l:List Zu):Nat:=l.countP fun q=>decide (q.X*v.Y-q.Y*v.X≤0)
def X5w (v:Zu):Int:=(X4A v).1+(X6M (X4A v).2 X7:Nat)-1
theorem X9p {v:Zu} (hb : -60000≤v.X∧v.X≤60000 ∧ -60000≤v.Y∧v.Y≤60000) (h0:¬ (v.X=0∧v.Y=0)):0≤(X4A v).1∧(X4A v).1≤24∧0≤(X4A v).2.X∧(X4A v).2.X≤60000∧0<(X4A v).2.Y∧(X4A v).2.Y≤60000:=by
 unfold X4A
 split
 ·simp only;omega
 ·split
  ·simp only;omega
  ·split<;>simp only<;>omega
theorem X8F {γ:Type} (v:Zu) (hb : -60000≤v.X∧v.X≤60000 ∧ -60000≤v.Y∧v.Y≤60000) (h0:¬ (v.X=0∧v.Y=0)) (k:Int×Zu→Option γ) :
  Option.bind (X1O (0,v)) k=k (X4A v):=by
 obtain ⟨x,y⟩:=v
 simp only at hb h0
 have stop:∀ (n:Int) (x y:Int),0≤x→0<y→Option.bind (Z8S Xf (n,⟨x,y⟩)) k=k (n,⟨x,y⟩):=fun n x y hx hy=>by
  rw [X49]
  have e1:decide (x<0)=false:=by simp;omega
  have e2:decide (y≤0)=false:=by simp;omega
  simp only [Xf,XE,e1,e2,cond_false,jS,Sum.elim_inr]
 have go:∀ (n:Int) (x y:Int),0≤n→n≤24 → -60000≤x→x≤60000 → -60000≤y→y≤60000→(x<0∨y≤0)→Option.bind (Z8S Xf (n,⟨x,y⟩)) k=Option.bind (Z8S Xf (n+8,⟨-y,x⟩)) k:=fun n x y h1 h2 h3 h4 h5 h6 h7=>by
  rw [X49]
  have w1:IntKind.wrap .i64 (n+8)=n+8:=by rw [w64]<;>omega
  have w2:IntKind.wrap .i64 (0-y) = -y:=by rw [w64]<;>omega
  by_cases e1:x<0
  ·simp only [Xf,XE,e1,decide_true,cond_true,jS,Sum.elim_inl,w1,w2]
  ·have e2:y≤0:=by omega
   simp only [Xf,XE,e1,e2,decide_true,decide_false,cond_true,cond_false,jS,Sum.elim_inl,w1,w2]
 unfold X1O X4A
 simp only
 by_cases c1:0≤x∧0<y
 ·rw [if_pos c1];exact stop _ _ _ c1.1 c1.2
 ·rw [if_neg c1]
  by_cases c2:0<x∧y≤0
  ·rw [if_pos c2,go 0 x y (by omega) (by omega) (by omega) (by omega) (by omega) (by omega) (by omega)]
   exact stop _ _ _ (by omega) (by omega)
  ·rw [if_neg c2]
   by_cases c3:x≤0∧y<0
   ·rw [if_pos c3,go 0 x y (by omega) (by omega) (by omega) (by omega) (by omega) (by omega) (by omega),go _ _ _ (by omega) (by omega) (by omega) (by omega) (by omega) (by omega) (by omega)]
    exact stop _ _ _ (by omega) (by omega)
   ·rw [if_neg c3,go 0 x y (by omega) (by omega) (by omega) (by omega) (by omega) (by omega) (by omega),go _ _ _ (by omega) (by omega) (by omega) (by omega) (by omega) (by omega) (by omega),go _ _ _ (by omega) (by omega) (by omega) (by omega) (by omega) (by omega) (by omega)]
    rw [show (- - y:Int)=y by omega]
    exact stop _ _ _ (by omega) (by omega)
theorem X8G {γ:Type} (q:Nat→Zu) (hq:∀ i,(h:i<8)→q i=X7[i]) (v:Zu) (hb:0≤v.X∧v.X≤60000∧0≤v.Y∧v.Y≤60000) (n:Int) (hn:0≤n∧n≤24) (k:Int→Option γ) :
  Option.bind (X2M q v (n,0)) k=k (n+(X6M v X7:Nat)):=by
 refine (X5 (Wf q v) k 8 (fun i (b:Int)=>(b,(i:Int))) (fun i b=>0≤b∧b≤24+i) (fun i b=>k (b+(X6M v (X7.drop i):Nat))) ?_ ?_ 0 n (by omega) (by omega)).trans (by simp)
 ·intro b _ R
  simp [Wf,Wq,X6M,X7]
 ·intro i b hi hP R hR
  simp only [Wf,Wq]
  rw [List.drop_eq_getElem_cons (show i<X7.length from hi)]
  have hw:=wS i (by omega)
  have hwb:IntKind.wrap .i64 (b+1)=b+1:=by rw [w64]<;>omega
  have e1:decide ((i:Int)<8)=true:=by simp;omega
  have e2:=z0S i
  have e3:decide ((i:Int)<((8:Nat):Int))=true:=by simp;omega
  have hqb:0≤(X7[i]'hi).X∧(X7[i]'hi).X≤1000∧0≤(X7[i]'hi).Y∧(X7[i]'hi).Y≤1000:=by
   have:i=0∨i=1∨i=2∨i=3∨i=4∨i=5∨i=6∨i=7:=by omega
   rcases this with rfl|rfl|rfl|rfl|rfl|rfl|rfl|rfl<;>simp [X7]
  have b1:=X3U (a:=(X7[i]'hi).X) (b:=v.Y) 1000 60000 (by omega) (by omega) (by omega) (by omega)
  have b2:=X3U (a:=(X7[i]'hi).Y) (b:=v.X) 1000 60000 (by omega) (by omega) (by omega) (by omega)
  simp only [kS,hq i hi,hw,hwb]
  rw [w64 (x:=(X7[i]'hi).X*v.Y) (by omega) (by omega),w64 (x:=(X7[i]'hi).Y*v.X) (by omega) (by omega),w64 (x:=(X7[i]'hi).X*v.Y-_) (by omega) (by omega)]
  simp only [e1,e2,e3,Bool.and_self,cond_true]
  unfold X6M at hR ⊢
  generalize X7[i]'hi=Q at *
  by_cases h:Q.X*v.Y-Q.Y*v.X≤0
  ·rw [List.countP_cons_of_pos (by simpa using h)]
   simp only [h,decide_true,cond_true,jS,Sum.elim_inl]
   rw [hR (b+1) (by omega)]
   congr 1
   push_cast
   omega
  ·rw [List.countP_cons_of_neg (by simpa using h)]
   simp only [h,decide_false,cond_false,jS,Sum.elim_inl]
   exact hR b (by omega)
theorem X7h (v:Zu) (hb : -60000≤v.X∧v.X≤60000 ∧ -60000≤v.Y∧v.Y≤60000) (h0:¬ (v.X=0∧v.Y=0)):X4l v=some (X5w v):=by
 rw [X5G];unfold X1V
 have hq:=X9p hb h0
 rw [X8F v hb h0,X8G _ (fun i hi=>by
   have:i=0∨i=1∨i=2∨i=3∨i=4∨i=5∨i=6∨i=7:=by omega
   rcases this with rfl|rfl|rfl|rfl|rfl|rfl|rfl|rfl<;>rfl) _ (by omega) _ (by omega)]
 have hc:X6M (X4A v).2 X7≤8:=List.countP_le_length (l:=X7)
 unfold X5w
 rw [w64 (by omega) (by omega)]
theorem X8U {v:Zu} (hb : -60000≤v.X∧v.X≤60000 ∧ -60000≤v.Y∧v.Y≤60000) (h0:¬ (v.X=0∧v.Y=0)):0≤X5w v∧X5w v≤31:=by
 have hq:=X9p hb h0
 have hc:X6M (X4A v).2 X7≤8:=List.countP_le_length (l:=X7)
 have h1:1≤X6M (X4A v).2 X7:=by
  unfold X6M X7
  rw [List.countP_cons_of_pos (by simp;omega)]
  omega
 unfold X5w
 omega
def X52 (f:ZJ) (mark:Int) (p:Zu):Int×Int :=
 if X3H f mark=false then (0,9) else if X3k 30000 p then (0,7) else if (Z8y f mark).At=p then (0,8) else (X5w (XT (Z8y f mark).At p),0)
def X3N (f:ZJ) (mark:Int) (p:Zu):Int:=if (X52 f mark p).2≠0 then -1 else (X52 f mark p).1
theorem X7K {f:ZJ} (hg:Wn f) {mark:Int} (h0:0≤mark) (h1:mark<f.Chart.Marks.length):Bd 30000 (Z8y f mark).At:=by
 have hj:mark.toNat<f.Chart.Marks.length:=by omega
 have:=(hg.mark _ (List.getElem_mem hj)).1
 rw [X6V] at this
 unfold Z8y
 rw [X0 _ _ _ hj];exact this
theorem X7N {f:ZJ} (hg:Wn f) (mark:Int) (h0:0≤mark) (h1:mark<f.Chart.Marks.length) (p:Zu):X5m f.Chart f.Day mark p=some (X52 f mark p):=by
 rw [X6u];unfold X2t X52
 rw [X4N];unfold X1c
 rw [X59 hg mark h0 h1]
 have hb:=X7K hg h0 h1
 unfold X3H Z8y at *
 generalize hM:f.Chart.Marks.getD mark.toNat ⟨ByteArray.empty,⟨0,0⟩,[]⟩=M at *
 simp only [jS,beq_self_eq_true,cond_true]
 by_cases hp:X4z M f.Day=0
 ·simp [hp]
 ·simp only [X3I hp,cond_false,jS,bne_self_eq_false,W8 hp,Bool.true_eq_false,if_false]
  rw [X5n _ (by omega) _ (by simp)]
  simp only [jS,List.any_cons,List.any_nil,Bool.or_false]
  cases hf:X3k 30000 p
  ·rw [X6V] at hf
   unfold Bd at hb hf
   simp only [cond_false,Bool.false_eq_true,if_false,Bool.and_true]
   by_cases he:M.At=p
   ·subst he;simp
   ·have:(M.At.X==p.X&&M.At.Y==p.Y)=false:=by
     cases hc:(M.At.X==p.X&&M.At.Y==p.Y)
     ·rfl
     ·exfalso;simp at hc;exact he (Zu.ext hc.1 hc.2)
    rw [this,if_neg he]
    simp only [cond_false]
    rw [w64 (x:=M.At.X-p.X) (by omega) (by omega),w64 (x:=M.At.Y-p.Y) (by omega) (by omega)]
    have h00:¬ (M.At.X-p.X=0∧M.At.Y-p.Y=0):=fun q=>he (Zu.ext (by omega) (by omega))
    rw [X7h _ (by simp only;omega) h00]
    rfl
  ·simp
theorem X9q {f:ZJ} (hg:Wn f) {mark:Int} (h0:0≤mark) (h1:mark<f.Chart.Marks.length) (p:Zu) : -1≤X3N f mark p∧X3N f mark p≤31:=by
 have hb:=X7K hg h0 h1
 unfold X3N X52
 by_cases h:X3H f mark=false
 ·simp [h]
 ·rw [if_neg h]
  by_cases h3:X3k 30000 p=true
  ·simp [h3]
  ·rw [if_neg h3]
   by_cases h4:(Z8y f mark).At=p
   ·simp [h4]
   ·rw [if_neg h4]
    simp only [Bool.not_eq_true] at h3
    rw [X6V] at h3
    unfold Bd at hb h3
    have:=X8U (v:=XT (Z8y f mark).At p) (by unfold XT;simp only;omega) (fun q=>h4 (by unfold XT at q;simp only at q;exact Zu.ext (by omega) (by omega)))
    simp only [ne_eq,not_true,if_false]
    omega
theorem X5z (a b:Zh):Zh.eqb a b=true↔a=b:=by
 obtain ⟨m,⟨x,y⟩⟩:=a
 obtain ⟨m',⟨x',y'⟩⟩:=b
 simp [Zh.eqb]
theorem X7x {v:Int} (s k:Zh):∀ m:List (Zh×Int),Z8z Zh.eqb s (Zgh Zh.eqb k v m)=bif Zh.eqb s k then some v else Z8z Zh.eqb s m
 | []=>by
  simp only [Zgh,Z8z]
 | (a,b)::m=>by
  have ih:=X7x (v:=v) s k m
  simp only [Zgh]
  have sym:∀ x y,Zh.eqb x y=Zh.eqb y x:=fun x y=>by
   cases h:Zh.eqb y x with
   | true=>rw [(X5z _ _).1 h,(X5z x x).2 rfl]
   | false=>cases h2:Zh.eqb x y with
    | false=>rfl
    | true=>rw [(X5z _ _).1 h2,(X5z y y).2 rfl] at h;cases h
  cases e:Zh.eqb a k with
  | true =>
   have:=(X5z _ _).1 e
   subst this
   simp only [e,cond_true,Z8z]
   cases Zh.eqb s a<;>rfl
  | false =>
   have e6:Zh.eqb k a=false:=by rw [sym];exact e
   simp only [e,e6,cond_false,Z8z,ih]
   cases h:Zh.eqb s k with
   | true =>
    have:=(X5z _ _).1 h
    subst this
    simp [e,e6]
   | false=>rfl
def Xo (f:ZJ) (m:List (Zh×Int)):Prop:=∀ (mark:Int) p n,0≤mark→mark<f.Chart.Marks.length→Z8z Zh.eqb ⟨mark,p⟩ m=some n→n=X3N f mark p
theorem X5k (f:ZJ):Xo f []:=fun _ _ _ _ _ h=>by cases h
theorem X9j {f:ZJ} (hg:Wn f) {mark:Int} (h0:0≤mark) (h1:mark<f.Chart.Marks.length) (p:Zu) (l:List Zn) (kit:Nat→Nat) {m:List (Zh×Int)} (hm:Xo f m) :
  ∃ m',Xo f m'∧W5 (mark,p,f,l,kit,m)=some (X3N f mark p,f,l,kit,m'):=by
 rw [X3x];unfold XM
 cases hf:Z8z Zh.eqb ⟨mark,p⟩ m with
 | some n=>exact ⟨m,hm,by simp only [hf,Option.isSome_some,Bool.not_true,cond_false,Option.getD_some];rw [hm _ _ _ h0 h1 hf]⟩
 | none =>
  simp only [hf,Option.isSome_none,Bool.not_false,cond_true]
  rw [X7N hg mark h0 h1]
  have put:∀ v,v=X3N f mark p→Xo f (Zgh Zh.eqb ⟨mark,p⟩ v m):=fun v hv mk q n k0 k1 hq=>by
   rw [X7x] at hq
   cases e:Zh.eqb ⟨mk,q⟩ ⟨mark,p⟩ with
   | true =>
    rw [e] at hq
    cases (X5z _ _).1 e;cases hq;exact hv
   | false =>
    rw [e] at hq
    exact hm _ _ _ k0 k1 hq
  simp only [jS]
  by_cases he:(X52 f mark p).2=0
  ·have hs:X3N f mark p=(X52 f mark p).1:=by unfold X3N;rw [if_neg (by simp [he])]
   refine ⟨_,put _ hs.symm,?_⟩
   simp only [he,bne_self_eq_false,cond_false,hs]
  ·have hs:X3N f mark p = -1:=by unfold X3N;rw [if_pos he]
   refine ⟨_,put _ hs.symm,?_⟩
   simp only [W8 he,cond_true,hs]
def X9Y (shown Z5R:Int):Int:=if (shown-Z5R+32) % 32>16 then (shown-Z5R+32) % 32-32 else (shown-Z5R+32) % 32
def X4c (a:Zt) (p:Zu):Bool := !X4 a.X.Lo a.X.Hi [p.X] && !X4 a.Y.Lo a.Y.Hi [p.Y]
def X6J (f:ZJ) (p:Zu):Option Zt:=f.Areas.find? fun a=>X4c a p
def X2n (f:ZJ) (p:Zu) (x:Zn):ZE×Bool :=
 if (X1s f x.Instrument).Lead then (match X6J f p with
  | none=>(⟨-20,20⟩,true)
  | some a=>(⟨x.Shown-a.Depth.Hi,x.Shown-a.Depth.Lo⟩,x.Ground==0||x.Ground==a.Ground))
 else (⟨X9Y x.Shown (X3N f x.Mark p),X9Y x.Shown (X3N f x.Mark p)⟩,decide (X3N f x.Mark p≥0))
theorem X4H {f:ZJ} {x:Zn} (h:XB f x=0):(0≤x.Instrument∧x.Instrument<f.Instruments.length)∧((X1s f x.Instrument).Lead=true→0≤x.Shown∧x.Shown≤1000∧0≤x.Ground∧x.Ground≤4∧x.Mark=0) ∧
  ((X1s f x.Instrument).Lead=false→0≤x.Mark∧x.Mark<f.Chart.Marks.length∧X3H f x.Mark=true∧0≤x.Shown∧x.Shown≤31∧x.Ground=0):=by
 unfold XB at h
 cases h1:X4 0 ((f.Instruments.length:Int)-1) [x.Instrument]
 ·rw [h1] at h
  simp only [Bool.false_eq_true,if_false] at h
  simp at h1
  refine ⟨by omega,fun hL => ?_,fun hL => ?_⟩
  ·rw [if_pos hL] at h
   cases h2:X4 0 1000 [x.Shown]
   ·cases h3:X4 0 4 [x.Ground]
    ·rw [h2,h3] at h
     simp at h h2 h3
     omega
    ·rw [h2,h3] at h;simp at h
   ·rw [h2] at h;simp at h
  ·rw [if_neg (by simp [hL])] at h
   cases h2:X4 0 ((f.Chart.Marks.length:Int)-1) [x.Mark]
   ·rw [h2] at h
    cases h3:X3H f x.Mark
    ·rw [h3] at h;simp at h
    ·cases h4:X4 0 31 [x.Shown]
     ·rw [h3,h4] at h
      simp at h h2 h4
      exact ⟨by omega,by omega,rfl,by omega,by omega,by omega⟩
     ·rw [h3,h4] at h;simp at h
   ·rw [h2] at h;simp at h
 ·rw [h1] at h;simp at h
theorem X8O {f:ZJ} (hg:Wn f) {x:Zn} (hx:XB f x=0) (hL:(X1s f x.Instrument).Lead=false) (p:Zu) (l:List Zn) (kit:Nat→Nat) {m:List (Zh×Int)} (hm:Xo f m) :
  ∃ m',Xo f m'∧Xt (p,x,f,l,kit,m)=some ((X2n f p x).1,(X2n f p x).2,f,l,kit,m'):=by
 obtain ⟨h1,_,h3⟩:=X4H hx
 have h3:=h3 hL
 obtain ⟨m',hm',ht⟩:=X9j hg h3.1 h3.2.1 p l kit hm
 refine ⟨m',hm',?_⟩
 rw [X3z];unfold XN X2n X9Y
 rw [ht,if_neg (by simp [hL])]
 have hs:=X9q hg h3.1 h3.2.1 p
 generalize X3N f x.Mark p=s at *
 simp only [jS]
 rw [w64 (x:=x.Shown-s) (by omega) (by omega),w64 (x:=x.Shown-s+32) (by omega) (by omega)]
 have ht:(x.Shown-s+32).tmod 32=(x.Shown-s+32) % 32:=Int.tmod_eq_emod_of_nonneg (by omega)
 rw [ht]
 by_cases hc:(x.Shown-s+32) % 32>16
 ·have hw:IntKind.wrap .i64 ((x.Shown-s+32) % 32-32)=(x.Shown-s+32) % 32-32:=by rw [w64]<;>omega
  simp only [hc,decide_true,cond_true,if_true,hw]
 ·simp only [hc,decide_false,cond_false,if_false]
theorem X9n {a:Zt} (h:X4L a=0):0≤a.Depth.Lo∧a.Depth.Lo≤a.Depth.Hi∧a.Depth.Hi≤1000∧a.X.Lo≤a.X.Hi∧a.Y.Lo≤a.Y.Hi∧1≤a.Ground∧a.Ground≤4:=by
 unfold X4L at h
 cases h1:(X4 (-30000) 30000 [a.X.Lo,a.X.Hi,a.Y.Lo,a.Y.Hi]||X4 0 1000 [a.Depth.Lo,a.Depth.Hi]||X4 1 4 [a.Ground])
 ·rw [h1] at h
  simp at h h1
  omega
 ·rw [h1] at h;simp at h
theorem X9P {f:ZJ} (hg:Wn f) {x:Zn} (hx:XB f x=0) (hL:(X1s f x.Instrument).Lead=true) (p:Zu) (l:List Zn) (kit:Nat→Nat) (m:List (Zh×Int)) :
  Wg (p,x,f,l,kit,m)=some ((X2n f p x).1,(X2n f p x).2,f,l,kit,m):=by
 obtain ⟨h1,h2,_⟩:=X4H hx
 have h2:=h2 hL
 rw [X4f];unfold Ws X2n
 rw [if_pos hL]
 have ha:=hg.areas
 refine (X5 (Xr (↑f.Areas.length) f.Areas p) _ f.Areas.length (fun i (_:Unit)=>(i:Int)) (fun _ _=>True) (fun i _=>match (f.Areas.drop i).find? fun a=>X4c a p with
   | none=>some (⟨-20,20⟩,true,f,l,kit,m)
   | some a=>some (⟨x.Shown-a.Depth.Hi,x.Shown-a.Depth.Lo⟩,x.Ground==0||x.Ground==a.Ground,f,l,kit,m)) ?_ ?_ 0 () (by omega) trivial).trans ?_
 ·intro b _ R
  simp [Xr,XA]
 ·intro i b hi _ R hR
  have hR':=hR () trivial
  have hab:=X9n (hg.area _ (List.getElem_mem hi))
  simp only [Xr,XA]
  rw [List.drop_eq_getElem_cons hi,List.find?_cons]
  have hw:=wS i (by omega)
  simp only [kS,X0 _ _ _ hi,hw]
  rw [X3 _ _ _ (by simp),X3 _ _ _ (by simp)]
  have e1:decide ((i:Int)<↑f.Areas.length)=true:=by simp [hi]
  have e2:=z0S i
  have e3:decide ((i:Int)<0)=false:=by simp
  simp only [e1,e2,Bool.and_self,cond_true,jS]
  have w1:IntKind.wrap .i64 (x.Shown-f.Areas[i].Depth.Hi)=x.Shown-f.Areas[i].Depth.Hi:=by rw [w64]<;>omega
  have w2:IntKind.wrap .i64 (x.Shown-f.Areas[i].Depth.Lo)=x.Shown-f.Areas[i].Depth.Lo:=by rw [w64]<;>omega
  cases o1:X4 f.Areas[i].X.Lo f.Areas[i].X.Hi [p.X]
  ·cases o2:X4 f.Areas[i].Y.Lo f.Areas[i].Y.Hi [p.Y]
   ·have:X4c f.Areas[i] p=true:=by unfold X4c;rw [o1,o2];rfl
    simp only [this,Bool.not_false,cond_true,jS,Sum.elim_inr,Sum.elim_inl,e3,cond_false,e1,e2,Bool.and_self,kS,X0 _ _ _ hi,w1,w2]
    by_cases hG:x.Ground=0
    ·simp [hG]
    ·simp [X3I hG]
   ·have:X4c f.Areas[i] p=false:=by unfold X4c;rw [o1,o2];rfl
    simp only [this,Bool.not_false,Bool.not_true,cond_true,cond_false,jS,Sum.elim_inl]
    exact hR'
  ·have:X4c f.Areas[i] p=false:=by unfold X4c;rw [o1];rfl
   simp only [this,Bool.not_true,cond_false,jS,Sum.elim_inl]
   exact hR'
 ·simp only [List.drop_zero,X6J]
  cases f.Areas.find? fun a=>X4c a p<;>rfl
end Nore
open Go Go.Ab
namespace Nore
def X7g (x k:Int):Bool:=IntKind.wrap IntKind.i64 (↑(BitVec.toNat (BitVec.ofInt (IntKind.bits IntKind.i64) (Int.fdiv x (2 ^ min (Int.toNat k) (IntKind.bits IntKind.i64))) &&& BitVec.ofInt (IntKind.bits IntKind.i64) 1)):Int)==1
theorem X9u (k:Int):X7g 0 k=false:=by
 unfold X7g
 rw [show Int.fdiv 0 (2 ^ min (Int.toNat k) (IntKind.bits IntKind.i64))=0 from Int.zero_fdiv _]
 decide
def X2K (f:ZJ) (ib mb:Int) (x:Zn):Bool:=X7g ib x.Instrument||(!(X1s f x.Instrument).Lead&&X7g mb x.Mark)
def X5o (n a:ZE):ZE:=⟨if a.Lo>n.Lo then a.Lo else n.Lo,if a.Hi<n.Hi then a.Hi else n.Hi⟩
def atL (f:ZJ) (p:Zu) (ib mb:Int):(Nat→ZE)→List Zn→(Nat→ZE)×Bool
 | s,[]=>(s,true)
 | s,x::l=>if X2K f ib mb x then atL f p ib mb s l else
  if (X2n f p x).2=false∨(X5o (X2n f p x).1 (s x.Instrument.toNat)).Lo>(X5o (X2n f p x).1 (s x.Instrument.toNat)).Hi then (s,false) else
  atL f p ib mb (fun j=>if j=x.Instrument.toNat then X5o (X2n f p x).1 (s x.Instrument.toNat) else s j) l
def X2o (f:ZJ) (i:Nat):ZE:=if h:i<f.Instruments.length then f.Instruments[i].Off else ⟨0,0⟩
def atN (f:ZJ) (l:List Zn) (p:Zu) (ib mb:Int):(Nat→ZE)×Bool:=atL f p ib mb (X2o f) l
theorem X9M {γ:Type} (f:ZJ) (hi4:f.Instruments.length≤4) (x0 x2:Int) (l:List Zn) (kit:Nat→Nat) (m:List (Zh×Int)) (p:Zu) (k:(Nat→ZE)→Option γ) :
  Option.bind (X26 (↑f.Instruments.length) x0 x2 f.Instruments f l kit m p (0,fun _=>⟨0,0⟩)) k=k (X2o f):=by
 refine (X5 (Xv (↑f.Instruments.length) x0 x2 f.Instruments f l kit m p) k f.Instruments.length (fun i (b:Nat→ZE)=>((i:Int),b)) (fun i b=>∀ j,b j=if j<i then X2o f j else ⟨0,0⟩) (fun _ _=>k (X2o f)) ?_ ?_ 0 _ (by omega) (fun j=>by simp))
 ·intro b hb R
  have:b=X2o f:=by
   funext j
   rw [hb]
   by_cases h:j<f.Instruments.length
   ·simp [h]
   ·simp [h,X2o]
  simp [Xv,XG,this]
 ·intro i b hi hb R hR
  have hw:=wS i (by omega)
  have e1:decide ((i:Int)<↑f.Instruments.length)=true:=by simp [hi]
  have e2:=z0S i
  have e3:decide ((i:Int)<((4:Nat):Int))=true:=by simp;omega
  have e3':decide ((i:Int)<(4:Int))=true:=by simp;omega
  have e4:Nat.blt i 4=true:=by rw [Tr.blt_dec];simp;omega
  simp only [Xv,XG,kS,X0 _ _ _ hi,hw,e1,e2,e3,e3',e4,Bool.and_self,cond_true,jS,Sum.elim_inl]
  refine hR _ fun j => ?_
  rw [Tr.beq_dec]
  by_cases e:j=i
  ·subst e;simp [X2o,hi]
  ·simp only [e,decide_false,cond_false,hb j]
   by_cases h:j<i
   ·simp [h,show j<i+1 by omega]
   ·simp [h,show ¬ j<i+1 by omega]
theorem X94 {f:ZJ} (hg:Wn f) {l:List Zn} (hl:∀ x∈l,XB f x=0) (hll:l.length≤8) {kit:Nat→Nat} (hk:Kit f kit) {m:List (Zh×Int)} (hm:Xo f m) (p:Zu) (ib mb:Int) :
  ∃ m',Xo f m'∧XC (ib,p,mb,f,l,kit,m)=some ((atN f l p ib mb).1,(atN f l p ib mb).2,f,l,kit,m'):=by
 rw [X4s];unfold WO atN
 rw [X9M f hg.inst.2]
 have main:=X3V (Xw ib l mb (↑l.length) p) (fun o=>Sum.elim (fun (y:Bool×(Nat→ZE)×ZJ×List Zn×(Nat→Nat)×ZE×List (Zh×Int)×Zn)=>some (y.snd.fst,y.fst,y.snd.snd.fst,y.snd.snd.snd.fst,y.snd.snd.snd.snd.fst,y.snd.snd.snd.snd.snd.snd.fst)) (fun y=>Sum.elim (fun (y:Bool×(Nat→ZE)×ZJ×List Zn×(Nat→Nat)×ZE×List (Zh×Int)×Zn)=>some (y.snd.fst,y.fst,y.snd.snd.fst,y.snd.snd.snd.fst,y.snd.snd.snd.snd.fst,y.snd.snd.snd.snd.snd.snd.fst)) (fun (y:(Nat→ZE)×ZJ×List Zn×(Nat→Nat)×List (Zh×Int))=>some (y.fst,true,y.snd.fst,y.snd.snd.fst,y.snd.snd.snd.fst,y.snd.snd.snd.snd)) y) o) l.length
  (fun i (b:(Nat→ZE)×List (Zh×Int))=>((i:Int),b.1,f,l,kit,b.2)) (fun _ b=>Xo f b.2) (fun i b r=>∃ m',Xo f m'∧r=some ((atL f p ib mb b.1 (l.drop i)).1,(atL f p ib mb b.1 (l.drop i)).2,f,l,kit,m'))
  (by
   intro b hb R
   refine ⟨b.2,hb,?_⟩
   simp [Xw,XH,atL])
  (by
   intro i b hi hb R hR
   have hx:=hl _ (List.getElem_mem hi)
   obtain ⟨x,hxd⟩:∃ x,l[i]=x:=⟨_,rfl⟩
   rw [hxd] at hx
   have hgd:l.getD i ⟨0,0,0,0⟩=x:=(X0 _ _ _ hi).trans hxd
   obtain ⟨h1,h2,h3⟩:=X4H hx
   have hi4:=hg.inst.2
   have hw:=wS i (by omega)
   have e1:decide ((i:Int)<↑l.length)=true:=by simp [hi]
   have e2:=z0S i
   simp only [Xw,XH,kS,hgd,hw,e1,e2,Bool.and_self,cond_true]
   rw [List.drop_eq_getElem_cons hi,hxd]
   have hj:x.Instrument.toNat<f.Instruments.length:=by omega
   have i1:decide (0≤x.Instrument)=true:=by simp;omega
   have i2:decide (x.Instrument<((4:Nat):Int))=true:=by simp;omega
   have i2':decide (x.Instrument<(4:Int))=true:=by simp;omega
   have i3:Nat.blt x.Instrument.toNat 4=true:=by rw [Tr.blt_dec];simp;omega
   have i4:decide (x.Instrument<0)=false:=by simp;omega
   have hkk:=hk _ hj
   have hio:X1s f x.Instrument=f.Instruments[x.Instrument.toNat]:=X0 _ _ _ hj
   have hcut:∀ (n a:ZE),(⟨bif decide (a.Lo>n.Lo) then a.Lo else n.Lo,bif decide (a.Hi<n.Hi) then a.Hi else n.Hi⟩:ZE)=X5o n a:=fun n a=>by
    unfold X5o
    by_cases c1:a.Lo>n.Lo<;>by_cases c2:a.Hi<n.Hi<;>simp [c1,c2]
   have hcut1:∀ (n a:ZE),(bif decide (a.Lo>n.Lo) then a.Lo else n.Lo)=(X5o n a).Lo:=fun n a=>by rw [←hcut]
   have hcut2:∀ (n a:ZE),(bif decide (a.Hi<n.Hi) then a.Hi else n.Hi)=(X5o n a).Hi:=fun n a=>by rw [←hcut]
   have hfun:∀ (c:ZE) (s:Nat→ZE),(fun j=>bif Nat.beq j x.Instrument.toNat then c else s j)=fun j=>if j=x.Instrument.toNat then c else s j:=fun c s=>by
    funext j;rw [Tr.beq_dec];by_cases e:j=x.Instrument.toNat<;>simp [e]
   simp only [i1,i2,i2',i3,i4,Bool.and_self,cond_true,cond_false,atL]
   rcases Bool.eq_false_or_eq_true (X1s f x.Instrument).Lead with hL|hL
   rotate_left
   ·rw [←hio,hL] at hkk
    simp only [Bool.false_eq_true,if_false] at hkk
    have h3:=h3 hL
    have i5:decide (x.Mark<0)=false:=by simp;omega
    simp only [hkk,show Nat.beq 1 0=false from rfl,show Nat.beq 1 1=true from rfl,cond_false,cond_true,i5]
    have hib:(IntKind.wrap IntKind.i64 (↑(BitVec.toNat (BitVec.ofInt (IntKind.bits IntKind.i64) (Int.fdiv ib (2 ^ min (Int.toNat x.Instrument) (IntKind.bits IntKind.i64))) &&& BitVec.ofInt (IntKind.bits IntKind.i64) 1)):Int)==1)=X7g ib x.Instrument:=rfl
    have hmb:(IntKind.wrap IntKind.i64 (↑(BitVec.toNat (BitVec.ofInt (IntKind.bits IntKind.i64) (Int.fdiv mb (2 ^ min (Int.toNat x.Mark) (IntKind.bits IntKind.i64))) &&& BitVec.ofInt (IntKind.bits IntKind.i64) 1)):Int)==1)=X7g mb x.Mark:=rfl
    rw [hib,hmb]
    rcases Bool.eq_false_or_eq_true (X7g ib x.Instrument) with hb1|hb1
    rotate_left
    ·rcases Bool.eq_false_or_eq_true (X7g mb x.Mark) with hb2|hb2
     rotate_left
     ·have hsk:X2K f ib mb x=false:=by unfold X2K;rw [hL,hb1,hb2];rfl
      simp only [hb1,hb2,cond_false,hsk,Bool.false_eq_true,if_false]
      obtain ⟨m',hm',hc⟩:=X8O hg hx hL p l kit hb
      rw [hc]
      simp only [jS,hcut,hcut1,hcut2,hfun]
      cases ho:(X2n f p x).2
      ·exact ⟨m',hm',by simp⟩
      ·by_cases hc:(X5o (X2n f p x).1 (b.1 x.Instrument.toNat)).Lo>(X5o (X2n f p x).1 (b.1 x.Instrument.toNat)).Hi
       ·exact ⟨m',hm',by simp [hc]⟩
       ·simp only [Bool.not_true,cond_false,hc,decide_false,jS,Sum.elim_inl,Bool.true_eq_false,or_self,if_false]
        exact hR (_,m') hm'
     ·have hsk:X2K f ib mb x=true:=by unfold X2K;rw [hL,hb1,hb2];rfl
      simp only [hb1,hb2,cond_true,cond_false,jS,Sum.elim_inl,hsk,if_true]
      exact hR b hb
    ·have hsk:X2K f ib mb x=true:=by unfold X2K;rw [hb1];rfl
     simp only [hb1,cond_true,jS,Sum.elim_inl,hsk,if_true]
     exact hR b hb
   ·rw [←hio,hL] at hkk
    simp only [if_true] at hkk
    have h2:=h2 hL
    simp only [hkk,show Nat.beq 2 0=false from rfl,show Nat.beq 2 1=false from rfl,show Nat.beq 2 (1+1)=true from rfl,cond_false,cond_true]
    have hib:(IntKind.wrap IntKind.i64 (↑(BitVec.toNat (BitVec.ofInt (IntKind.bits IntKind.i64) (Int.fdiv ib (2 ^ min (Int.toNat x.Instrument) (IntKind.bits IntKind.i64))) &&& BitVec.ofInt (IntKind.bits IntKind.i64) 1)):Int)==1)=X7g ib x.Instrument:=rfl
    rw [hib]
    rcases Bool.eq_false_or_eq_true (X7g ib x.Instrument) with hb1|hb1
    rotate_left
    ·have hsk:X2K f ib mb x=false:=by unfold X2K;rw [hL,hb1];rfl
     simp only [hb1,cond_false,hsk,Bool.false_eq_true,if_false]
     rw [X9P hg hx hL p l kit]
     simp only [jS,hcut,hcut1,hcut2,hfun]
     cases ho:(X2n f p x).2
     ·exact ⟨b.2,hb,by simp⟩
     ·by_cases hc:(X5o (X2n f p x).1 (b.1 x.Instrument.toNat)).Lo>(X5o (X2n f p x).1 (b.1 x.Instrument.toNat)).Hi
      ·exact ⟨b.2,hb,by simp [hc]⟩
      ·simp only [Bool.not_true,cond_false,hc,decide_false,jS,Sum.elim_inl,Bool.true_eq_false,or_self,if_false]
       exact hR (_,b.2) hb
    ·have hsk:X2K f ib mb x=true:=by unfold X2K;rw [hb1];rfl
     simp only [hb1,cond_true,jS,Sum.elim_inl,hsk,if_true]
     exact hR b hb)
 have:=main 0 (X2o f,m) (by omega) hm
 unfold X27
 simpa using this
end Nore
open Go Go.Ab
namespace Nore
def XS (f:ZJ) (x y:Int):Nat→List Zu
 | 0=>[]
 | n+1=>⟨x*f.Step,y*f.Step⟩::XS f x (y+1) n
def Xa (f:ZJ):Nat:=(2*f.Half+1).toNat
def WU (f:ZJ) (x:Int):Nat→List Zu
 | 0=>[]
 | n+1=>XS f x (-f.Half) (Xa f)++WU f (x+1) n
def X4S (f:ZJ):List Zu:=WU f (-f.Half) (Xa f)
def Xu (f:ZJ) (l:List Zn):List Zu:=(X4S f).filter fun p=>(atN f l p 0 0).2
theorem X6i (f:ZJ) (x:Int):∀ (n:Nat) (y:Int),(XS f x y n).length=n
 | 0,_=>rfl
 | n+1,y=>by simp [XS,X6i f x n]
theorem X7w (f:ZJ) (x:Int) (p:Zu):∀ (n:Nat) (y:Int),p∈XS f x y n↔∃ j:Int,y≤j∧j<y+n∧p=⟨x*f.Step,j*f.Step⟩
 | 0,y=>by simp [XS];intro j h1 h2;omega
 | n+1,y=>by
  simp only [XS,List.mem_cons,X7w f x p n]
  constructor
  ·rintro (h|⟨j,h1,h2,h3⟩)
   ·exact ⟨y,by omega,by push_cast;omega,h⟩
   ·exact ⟨j,by omega,by push_cast;omega,h3⟩
  ·rintro ⟨j,h1,h2,h3⟩
   by_cases e:j=y
   ·subst e;exact .inl h3
   ·exact .inr ⟨j,by omega,by push_cast at h2;omega,h3⟩
theorem X7a (f:ZJ) (p:Zu):∀ (n:Nat) (x:Int),p∈WU f x n↔∃ i j:Int,x≤i∧i<x+n ∧ -f.Half≤j∧j < -f.Half+Xa f∧p=⟨i*f.Step,j*f.Step⟩
 | 0,x=>by simp [WU];intro i h1 h2;omega
 | n+1,x=>by
  simp only [WU,List.mem_append,X7w,X7a f p n]
  constructor
  ·rintro (⟨j,h1,h2,h3⟩|⟨i,j,h1,h2,h3,h4,h5⟩)
   ·exact ⟨x,j,by omega,by push_cast;omega,h1,h2,h3⟩
   ·exact ⟨i,j,by omega,by push_cast;omega,h3,h4,h5⟩
  ·rintro ⟨i,j,h1,h2,h3,h4,h5⟩
   by_cases e:i=x
   ·subst e;exact .inl ⟨j,h3,h4,h5⟩
   ·exact .inr ⟨i,j,by omega,by push_cast at h2;omega,h3,h4,h5⟩
theorem X7T {f:ZJ} (hh:0≤f.Half) (p:Zu):p∈X4S f↔∃ i j:Int,-f.Half≤i∧i≤f.Half ∧ -f.Half≤j∧j≤f.Half∧p=⟨i*f.Step,j*f.Step⟩:=by
 unfold X4S
 rw [X7a]
 have:(Xa f:Int)=2*f.Half+1:=by unfold Xa;omega
 constructor
 ·rintro ⟨i,j,h1,h2,h3,h4,h5⟩;exact ⟨i,j,by omega,by omega,by omega,by omega,h5⟩
 ·rintro ⟨i,j,h1,h2,h3,h4,h5⟩;exact ⟨i,j,by omega,by omega,by omega,by omega,h5⟩
theorem X9o {f:ZJ} (hg:Wn f) {p:Zu} (h:p∈X4S f):Bd 4000 p:=by
 obtain ⟨i,j,h1,h2,h3,h4,rfl⟩:=(X7T hg.half.1 p).1 h
 have:=hg.half
 have:=hg.step
 have b1:=X3U (a:=i) (b:=f.Step) 8 500 (by omega) (by omega) (by omega) (by omega)
 have b2:=X3U (a:=j) (b:=f.Step) 8 500 (by omega) (by omega) (by omega) (by omega)
 unfold Bd;simp only;omega
structure X6T (f:ZJ) (l:List Zn):Prop where
 fix:Wn f
 len:l.length≤8
 each:∀ x∈l,XB f x=0
theorem X8r (f:ZJ):∀ (l:List Zn) (i:Nat),(W9 f i l).2=0→∀ x∈l,XB f x=0
 | [],_,_,m,hm=>by cases hm
 | x::l,i,h,m,hm=>by
  simp only [W9] at h
  by_cases h0:XB f x=0
  ·simp only [h0,if_true] at h
   rcases List.mem_cons.1 hm with e|e
   ·subst e;exact h0
   ·exact X8r f l _ h m e
  ·simp only [h0,if_false] at h
theorem X86 (f:ZJ):∀ (l:List Zn) (i:Nat),(∀ x∈l,XB f x=0)→(W9 f i l).2=0
 | [],_,_=>rfl
 | x::l,i,h=>by
  simp only [W9,h x (by simp),if_true]
  exact X86 f l _ fun y hy=>h y (by simp [hy])
theorem X41 {f:ZJ} {l:List Zn} (h:(Xg f l).2=0):X6T f l:=by
 unfold Xg at h
 by_cases h1:(X1P f).2.2=0
 ·simp only [h1,ne_eq,not_true,if_false] at h
  by_cases h8:8<l.length
  ·rw [if_pos h8] at h;simp at h
  ·rw [if_neg h8] at h
   exact ⟨X74 h1,by omega,X8r f l 0 h⟩
 ·rw [if_pos h1] at h;exact absurd h h1
theorem X95 {f:ZJ} {l:List Zn} (h1:(X1P f).2.2=0) (h2:l.length≤8) (h3:∀ x∈l,XB f x=0):(Xg f l).2=0:=by
 unfold Xg
 rw [if_neg (by simp [h1]),if_neg (by omega)]
 exact X86 f l 0 h3
theorem X8D {f:ZJ} {l:List Zn} (hg:X6T f l) {kit:Nat→Nat} (hk:Kit f kit) (x:Int) (hx : -8≤x∧x≤8) {m:List (Zh×Int)} (hm:Xo f m) (acc:List Zu) (ha:acc.length≤1000000) {γ:Type} (k:_→Option γ) (Q:Option γ→Prop)
  (hQ:∀ m',Xo f m'→Q (k (f,l,kit,m',acc++(XS f x (-f.Half) (Xa f)).filter fun p=>(atN f l p 0 0).2))) :
  Q (Option.bind (XW x (-f.Half,f,l,kit,m,acc)) k):=by
 have hh:=hg.fix.half
 have hs:=hg.fix.step
 have hw0:(Xa f:Int)=2*f.Half+1:=by unfold Xa;omega
 refine (X3V (Xd x) k (Xa f) (fun i (b:List (Zh×Int)×List Zu)=>(-f.Half+i,f,l,kit,b.1,b.2)) (fun i b=>Xo f b.1∧b.2.length≤1000000+i∧b.2++((XS f x (-f.Half+i) (Xa f-i)).filter fun p=>(atN f l p 0 0).2)=acc++(XS f x (-f.Half) (Xa f)).filter fun p=>(atN f l p 0 0).2) (fun _ _ r=>Q r) ?_ ?_ 0 (m,acc) (by omega) ⟨hm,by simpa using ha,by simp⟩) |> fun h=>by simpa [XW] using h
 ·intro b hb R
  have e1:decide (-f.Half+(Xa f:Int)≤f.Half)=false:=by simp;omega
  simp only [Xd,Xk,e1,cond_false,jS,Sum.elim_inr]
  have h3:=hb.2.2
  simp only [Nat.sub_self,XS,List.filter_nil,List.append_nil] at h3
  rw [h3]
  exact hQ _ hb.1
 ·intro i b hi hb R hR
  obtain ⟨hb1,hb2,hb3⟩:=hb
  have e1:decide (-f.Half+(i:Int)≤f.Half)=true:=by simp;omega
  have hw:IntKind.wrap .i64 (-f.Half+(i:Int)+1) = -f.Half+((i+1:Nat):Int):=by rw [w64]<;>omega
  have m1:=X3U (a:=x) (b:=f.Step) 8 500 (by omega) (by omega) (by omega) (by omega)
  have m2:=X3U (a := -f.Half+(i:Int)) (b:=f.Step) 8 500 (by omega) (by omega) (by omega) (by omega)
  simp only [Xd,Xk,e1,cond_true]
  rw [w64 (x:=x*f.Step) (by omega) (by omega),w64 (x:=(-f.Half+(i:Int))*f.Step) (by omega) (by omega),hw]
  obtain ⟨m',hm',hc⟩:=X94 hg.fix hg.each hg.len hk hb1 ⟨x*f.Step,(-f.Half+(i:Int))*f.Step⟩ 0 0
  rw [hc]
  simp only [jS]
  have hrow:XS f x (-f.Half+(i:Int)) (Xa f-i)=⟨x*f.Step,(-f.Half+(i:Int))*f.Step⟩::XS f x (-f.Half+((i+1:Nat):Int)) (Xa f-(i+1)):=by
   rw [show Xa f-i=(Xa f-(i+1))+1 by omega,XS,show -f.Half+(i:Int)+1 = -f.Half+((i+1:Nat):Int) by push_cast;omega]
  rw [hrow] at hb3
  cases hat:(atN f l ⟨x*f.Step,(-f.Half+(i:Int))*f.Step⟩ 0 0).2
  ·simp only [cond_false,jS,Sum.elim_inl]
   refine hR (m',b.2) ⟨hm',by simp only;omega,?_⟩
   rw [List.filter_cons_of_neg (by simp [hat])] at hb3
   exact hb3
  ·have e3:Nat.ble ((b.2.length+[(⟨x*f.Step,(-f.Half+(i:Int))*f.Step⟩:Zu)].length)*(16+1)) 200000000000000=true:=by
    apply Nat.ble_eq_true_of_le;simp only [List.length_cons,List.length_nil];have:=hh.2;omega
   simp only [cond_true,e3,jS,Sum.elim_inl]
   refine hR (m',b.2++[⟨x*f.Step,(-f.Half+(i:Int))*f.Step⟩]) ⟨hm',by simp;omega,?_⟩
   rw [List.filter_cons_of_pos (by simp [hat])] at hb3
   rw [←hb3]
   simp
theorem X8C {f:ZJ} {l:List Zn} (hg:X6T f l) {kit:Nat→Nat} (hk:Kit f kit) {m:List (Zh×Int)} (hm:Xo f m) {γ:Type} (k:_→Option γ) (Q:Option γ→Prop)
  (hQ:∀ m',Xo f m'→Q (k (Xu f l,f,l,kit,m'))) :
  Q (Option.bind (XV (-f.Half,[],f,l,kit,m)) k):=by
 have hh:=hg.fix.half
 have hw0:(Xa f:Int)=2*f.Half+1:=by unfold Xa;omega
 refine (X3V Xc k (Xa f) (fun i (b:List (Zh×Int)×List Zu)=>(-f.Half+i,b.2,f,l,kit,b.1)) (fun i b=>Xo f b.1∧b.2.length≤i*100∧b.2++((WU f (-f.Half+i) (Xa f-i)).filter fun p=>(atN f l p 0 0).2)=Xu f l) (fun _ _ r=>Q r) ?_ ?_ 0 (m,[]) (by omega) ⟨hm,by simp,by simp [Xu,X4S]⟩) |> fun h=>by simpa [XV] using h
 ·intro b hb R
  have e1:decide (-f.Half+(Xa f:Int)≤f.Half)=false:=by simp;omega
  simp only [Xc,Xj,e1,cond_false,jS,Sum.elim_inr]
  have h3:=hb.2.2
  simp only [Nat.sub_self,WU,List.filter_nil,List.append_nil] at h3
  rw [h3]
  exact hQ _ hb.1
 ·intro i b hi hb R hR
  obtain ⟨hb1,hb2,hb3⟩:=hb
  have e1:decide (-f.Half+(i:Int)≤f.Half)=true:=by simp;omega
  have hw:IntKind.wrap .i64 (-f.Half+(i:Int)+1) = -f.Half+((i+1:Nat):Int):=by rw [w64]<;>omega
  have hw2:IntKind.wrap .i64 (0-f.Half) = -f.Half:=by rw [w64]<;>omega
  have hwl:Xa f≤17:=by omega
  simp only [Xc,Xj,e1,cond_true,hw,hw2]
  rw [Option.bind_assoc]
  refine X8D hg hk _ (by omega) hb1 b.2 (by omega) _ Q fun m' hm' => ?_
  simp only [jS,Sum.elim_inl]
  refine hR (m',_) ⟨hm',?_,?_⟩
  ·have:=List.length_filter_le (fun p=>(atN f l p 0 0).2) (XS f (-f.Half+(i:Int)) (-f.Half) (Xa f))
   rw [X6i] at this
   simp only [List.length_append]
   omega
  ·rw [←hb3,show Xa f-i=(Xa f-(i+1))+1 by omega,WU,show -f.Half+(i:Int)+1 = -f.Half+((i+1:Nat):Int) by push_cast;omega]
   simp
theorem X7W {f:ZJ} {l:List Zn} (hg:X6T f l) {kit:Nat→Nat} (hk:Kit f kit) {m:List (Zh×Int)} (hm:Xo f m):∃ m',Xo f m'∧W3 (f,l,kit,m)=some (f,l,kit,m',Xu f l):=by
 rw [X3q];unfold XI
 have hh:=hg.fix.half
 have hw2:IntKind.wrap .i64 (0-f.Half) = -f.Half:=by rw [w64]<;>omega
 simp only [hw2]
 exact X8C hg hk hm _ (fun r=>∃ m',Xo f m'∧r=some (f,l,kit,m',Xu f l)) fun m' hm'=>⟨m',hm',rfl⟩
theorem X5X (f:ZJ) (l:List Zn):X4r f l=some (if (Xg f l).2=0 then (Xu f l,0) else ([],(Xg f l).2)):=by
 rw [X6x];unfold X2u
 rcases X6k f l with ⟨_,he,h0⟩|⟨kit,hg,h8,hk,he⟩
 ·rw [he]
  simp [h0,W8 h0]
 ·rw [he]
  simp only [jS,Sum.elim_inr]
  by_cases h0:(Xg f l).2=0
  ·obtain ⟨m',_,hp⟩:=X7W (X41 h0) hk (X5k f)
   simp only [h0,bne_self_eq_false,cond_false,if_true,hp,jS]
  ·simp [h0,W8 h0]
def W0 (b:ZB) (p:Zu):ZB:=⟨⟨if p.X<b.X.Lo then p.X else b.X.Lo,if p.X>b.X.Hi then p.X else b.X.Hi⟩,⟨if p.Y<b.Y.Lo then p.Y else b.Y.Lo,if p.Y>b.Y.Hi then p.Y else b.Y.Hi⟩⟩
def X3h:List Zu→ZB
 | []=>⟨⟨0,0⟩,⟨0,0⟩⟩
 | p::l=>(p::l).foldl W0 ⟨⟨p.X,p.X⟩,⟨p.Y,p.Y⟩⟩
theorem X9m (l:List Zu) (hl:l.length<1000000) (b:ZB):X3R (↑l.length) l (0,b)=some (l.foldl W0 b):=by
 refine (X5j (X1y (↑l.length) l) l.length (fun i (b:ZB)=>((i:Int),b)) (fun _ _=>True) (fun i b=>some ((l.drop i).foldl W0 b)) ?_ ?_ 0 b (by omega) trivial).trans (by simp)
 ·intro b _ R
  simp [X1y,X1F]
 ·intro i b hi _ R hR
  rw [List.drop_eq_getElem_cons hi]
  have hw:=wS i (by omega)
  have e1:decide ((i:Int)<↑l.length)=true:=by simp [hi]
  have e2:=z0S i
  have e3:Nat.blt i l.length=true:=by rw [Tr.blt_dec];simpa using hi
  have hgr:(ZB.mk (ZE.mk (bif decide (l[i].X<b.X.Lo) then l[i].X else b.X.Lo) (bif decide (l[i].X>b.X.Hi) then l[i].X else b.X.Hi)) (ZE.mk (bif decide (l[i].Y<b.Y.Lo) then l[i].Y else b.Y.Lo) (bif decide (l[i].Y>b.Y.Hi) then l[i].Y else b.Y.Hi)))=W0 b l[i]:=by
   unfold W0
   simp only [Bool.cond_decide]
  simp only [X1y,X1F,kS,X0 _ _ _ hi,hw,e1,e2,e3,Bool.and_self,cond_true,hgr,jS,Sum.elim_inl,List.foldl_cons]
  exact hR _ trivial
theorem X7X {f:ZJ} (hg:Wn f) (l:List Zn):(Xu f l).length≤289:=by
 have hh:=hg.half
 have hw0:(Xa f:Int)=2*f.Half+1:=by unfold Xa;omega
 have hw1:Xa f≤17:=by omega
 have:∀ (n:Nat) (x:Int),(WU f x n).length=n*Xa f:=fun n=>by
  induction n with
  | zero=>intro x;simp [WU]
  | succ n ih=>intro x;simp only [WU,List.length_append,X6i,ih,Nat.succ_mul];omega
 have h2:=List.length_filter_le (fun p=>(atN f l p 0 0).2) (X4S f)
 have h3:(X4S f).length=Xa f*Xa f:=this _ _
 have h4:Xa f*Xa f≤17*17:=Nat.mul_le_mul hw1 hw1
 unfold Xu
 omega
theorem X8c (f:ZJ) (l:List Zn):X6n f l=some (if (Xg f l).2=0 then (if (Xu f l).length=0 then (X3h [],9) else (X3h (Xu f l),0)) else (X3h [],(Xg f l).2)):=by
 rw [X6Z];unfold X2P
 rcases X6k f l with ⟨_,he,h0⟩|⟨kit,hg,h8,hk,he⟩
 ·rw [he]
  simp [h0,W8 h0,X3h]
 ·rw [he]
  simp only [jS,Sum.elim_inr]
  by_cases h0:(Xg f l).2=0
  ·obtain ⟨m',_,hp⟩:=X7W (X41 h0) hk (X5k f)
   simp only [h0,bne_self_eq_false,cond_false,if_true,hp,jS]
   have hln:=X7X hg l
   cases hpl:Xu f l with
   | nil=>simp [X3h]
   | cons q r =>
    rw [hpl] at hln
    have e0:(((q::r).length:Int)==0)=false:=by apply X3I;simp only [List.length_cons];omega
    have e1:decide ((0:Int)≤0)=true:=by simp
    have e2:decide ((0:Int)<((q::r).length:Int))=true:=by simp only [List.length_cons];simp
    have e3:Nat.blt (Int.toNat 0) (q::r).length=true:=by rw [Tr.blt_dec];simp
    simp only [e0,e1,e2,e3,cond_false,cond_true,Bool.and_self,X9m (q::r) (by omega)]
    simp [X3h]
  ·simp [h0,W8 h0,X3h]
theorem X8n:∀ (l:List Zu) (b:ZB),b.X.Lo≤b.X.Hi∧b.Y.Lo≤b.Y.Hi→((l.foldl W0 b).X.Lo≤b.X.Lo∧b.X.Hi≤(l.foldl W0 b).X.Hi∧(l.foldl W0 b).Y.Lo≤b.Y.Lo∧b.Y.Hi≤(l.foldl W0 b).Y.Hi) ∧
  (∀ p∈l,(l.foldl W0 b).X.Lo≤p.X∧p.X≤(l.foldl W0 b).X.Hi∧(l.foldl W0 b).Y.Lo≤p.Y∧p.Y≤(l.foldl W0 b).Y.Hi) ∧
  (((l.foldl W0 b).X.Lo=b.X.Lo∨∃ p∈l,p.X=(l.foldl W0 b).X.Lo)∧((l.foldl W0 b).X.Hi=b.X.Hi∨∃ p∈l,p.X=(l.foldl W0 b).X.Hi)∧((l.foldl W0 b).Y.Lo=b.Y.Lo∨∃ p∈l,p.Y=(l.foldl W0 b).Y.Lo)∧((l.foldl W0 b).Y.Hi=b.Y.Hi∨∃ p∈l,p.Y=(l.foldl W0 b).Y.Hi))
 | [],b,_=>by simp
 | q::l,b,hb=>by
  have hg:(W0 b q).X.Lo≤b.X.Lo∧b.X.Hi≤(W0 b q).X.Hi∧(W0 b q).Y.Lo≤b.Y.Lo∧b.Y.Hi≤(W0 b q).Y.Hi∧(W0 b q).X.Lo≤q.X∧q.X≤(W0 b q).X.Hi∧(W0 b q).Y.Lo≤q.Y∧q.Y≤(W0 b q).Y.Hi ∧
    ((W0 b q).X.Lo=b.X.Lo∨q.X=(W0 b q).X.Lo)∧((W0 b q).X.Hi=b.X.Hi∨q.X=(W0 b q).X.Hi)∧((W0 b q).Y.Lo=b.Y.Lo∨q.Y=(W0 b q).Y.Lo)∧((W0 b q).Y.Hi=b.Y.Hi∨q.Y=(W0 b q).Y.Hi):=by
   unfold W0
   simp only
   refine ⟨?_,?_,?_,?_,?_,?_,?_,?_,?_,?_,?_,?_⟩<;>split<;>omega
  obtain ⟨g1,g2,g3,g4,g5,g6,g7,g8,g9,g10,g11,g12⟩:=hg
  obtain ⟨h1,h2,h3,h4,h5,h6⟩:=X8n l (W0 b q) ⟨by omega,by omega⟩
  simp only [List.foldl_cons]
  refine ⟨by omega,fun p hp => ?_,?_,?_,?_,?_⟩
  ·rcases List.mem_cons.1 hp with e|e
   ·subst e;omega
   ·exact h2 p e
  ·rcases h3 with h|⟨p,hp,h⟩
   ·rcases g9 with g|g
    ·exact .inl (h.trans g)
    ·exact .inr ⟨q,by simp,g.trans h.symm⟩
   ·exact .inr ⟨p,by simp [hp],h⟩
  ·rcases h4 with h|⟨p,hp,h⟩
   ·rcases g10 with g|g
    ·exact .inl (h.trans g)
    ·exact .inr ⟨q,by simp,g.trans h.symm⟩
   ·exact .inr ⟨p,by simp [hp],h⟩
  ·rcases h5 with h|⟨p,hp,h⟩
   ·rcases g11 with g|g
    ·exact .inl (h.trans g)
    ·exact .inr ⟨q,by simp,g.trans h.symm⟩
   ·exact .inr ⟨p,by simp [hp],h⟩
  ·rcases h6 with h|⟨p,hp,h⟩
   ·rcases g12 with g|g
    ·exact .inl (h.trans g)
    ·exact .inr ⟨q,by simp,g.trans h.symm⟩
   ·exact .inr ⟨p,by simp [hp],h⟩
theorem X9N {l:List Zu} (h:l≠[]):(∀ p∈l,(X3h l).X.Lo≤p.X∧p.X≤(X3h l).X.Hi∧(X3h l).Y.Lo≤p.Y∧p.Y≤(X3h l).Y.Hi)∧(∃ p∈l,p.X=(X3h l).X.Lo)∧(∃ p∈l,p.X=(X3h l).X.Hi)∧(∃ p∈l,p.Y=(X3h l).Y.Lo)∧(∃ p∈l,p.Y=(X3h l).Y.Hi):=by
 cases l with
 | nil=>exact absurd rfl h
 | cons q l =>
  obtain ⟨_,h2,h3,h4,h5,h6⟩:=X8n (q::l) ⟨⟨q.X,q.X⟩,⟨q.Y,q.Y⟩⟩ ⟨by simp,by simp⟩
  refine ⟨h2,?_,?_,?_,?_⟩
  ·rcases h3 with h|h
   ·exact ⟨q,by simp,h.symm⟩
   ·exact h
  ·rcases h4 with h|h
   ·exact ⟨q,by simp,h.symm⟩
   ·exact h
  ·rcases h5 with h|h
   ·exact ⟨q,by simp,h.symm⟩
   ·exact h
  ·rcases h6 with h|h
   ·exact ⟨q,by simp,h.symm⟩
   ·exact h
end Nore
open Go Go.Ab
namespace Nore
def inS (v:Int) (s:ZE):Prop:=s.Lo≤v∧v≤s.Hi
def X89 (f:ZJ) (p:Zu) (ib mb:Int) (s:Nat→ZE) (l:List Zn) (i:Nat) (v:Int):Prop :=
 inS v (s i)∧∀ x∈l,X2K f ib mb x=false→x.Instrument.toNat=i→(X2n f p x).2=true∧inS v (X2n f p x).1
theorem X7Q (n a:ZE) (v:Int):inS v (X5o n a)↔inS v n∧inS v a:=by
 unfold inS X5o
 constructor
 ·rintro ⟨h1,h2⟩
  simp only at h1 h2
  split at h1<;>split at h2<;>omega
 ·rintro ⟨h1,h2⟩
  simp only
  constructor<;>split<;>omega
theorem X6r {f:ZJ} {p:Zu} {ib mb:Int} {s:Nat→ZE} {x:Zn} {l:List Zn} {i:Nat} {v:Int} :
  X89 f p ib mb s (x::l) i v↔X89 f p ib mb s l i v∧(X2K f ib mb x=false→x.Instrument.toNat=i→(X2n f p x).2=true∧inS v (X2n f p x).1):=by
 unfold X89
 constructor
 ·rintro ⟨h1,h2⟩
  exact ⟨⟨h1,fun y hy=>h2 y (by simp [hy])⟩,h2 x (by simp)⟩
 ·rintro ⟨⟨h1,h2⟩,h3⟩
  refine ⟨h1,fun y hy => ?_⟩
  rcases List.mem_cons.1 hy with e|e
  ·subst e;exact h3
  ·exact h2 y e
theorem X5T (f:ZJ) (p:Zu) (ib mb:Int):∀ (l:List Zn) (s:Nat→ZE),(∀ i,(s i).Lo≤(s i).Hi) →
  ((atL f p ib mb s l).2=true→(∀ i,((atL f p ib mb s l).1 i).Lo≤((atL f p ib mb s l).1 i).Hi)∧∀ i v,inS v ((atL f p ib mb s l).1 i)↔X89 f p ib mb s l i v) ∧
  ((atL f p ib mb s l).2=false→∃ x∈l,X2K f ib mb x=false∧∀ v,¬ X89 f p ib mb s l x.Instrument.toNat v)
 | [],s,hs=>by
  simp only [atL]
  exact ⟨fun _=>⟨hs,fun i v=>by simp [X89]⟩,fun h=>by cases h⟩
 | x::l,s,hs=>by
  simp only [atL]
  by_cases hk:X2K f ib mb x=true
  ·rw [if_pos hk]
   obtain ⟨h1,h2⟩:=X5T f p ib mb l s hs
   refine ⟨fun h=>⟨(h1 h).1,fun i v => ?_⟩,fun h => ?_⟩
   ·rw [(h1 h).2 i v,X6r]
    simp [hk]
   ·obtain ⟨y,hy,hy2,hy3⟩:=h2 h
    refine ⟨y,by simp [hy],hy2,fun v hv=>hy3 v ?_⟩
    exact (X6r.1 hv).1
  ·rw [if_neg hk]
   have hk':X2K f ib mb x=false:=by simpa using hk
   by_cases hc:(X2n f p x).2=false∨(X5o (X2n f p x).1 (s x.Instrument.toNat)).Lo>(X5o (X2n f p x).1 (s x.Instrument.toNat)).Hi
   ·rw [if_pos hc]
    refine ⟨fun h=>(by cases h),fun _=>⟨x,by simp,hk',fun v hv => ?_⟩⟩
    obtain ⟨h1,h2⟩:=X6r.1 hv
    obtain ⟨h3,h4⟩:=h2 hk' rfl
    rcases hc with hc|hc
    ·rw [hc] at h3;cases h3
    ·have:=(X7Q (X2n f p x).1 (s x.Instrument.toNat) v).2 ⟨h4,h1.1⟩
     unfold inS at this;omega
   ·rw [if_neg hc]
    have hc1:(X2n f p x).2=true:=by
     cases h:(X2n f p x).2
     ·exact absurd (.inl h) hc
     ·rfl
    have hc2:(X5o (X2n f p x).1 (s x.Instrument.toNat)).Lo≤(X5o (X2n f p x).1 (s x.Instrument.toNat)).Hi:=Int.not_lt.1 fun q=>hc (.inr q)
    obtain ⟨h1,h2⟩:=X5T f p ib mb l (fun j=>if j=x.Instrument.toNat then X5o (X2n f p x).1 (s x.Instrument.toNat) else s j) (fun i=>by
     by_cases e:i=x.Instrument.toNat
     ·simp only [e,if_true];exact hc2
     ·simp only [e,if_false];exact hs i)
    have key:∀ i v,X89 f p ib mb (fun j=>if j=x.Instrument.toNat then X5o (X2n f p x).1 (s x.Instrument.toNat) else s j) l i v↔X89 f p ib mb s (x::l) i v:=fun i v=>by
     rw [X6r]
     unfold X89
     by_cases e:i=x.Instrument.toNat
     ·subst e
      simp only [if_true,X7Q,hk',hc1,true_and,forall_const]
      constructor
      ·rintro ⟨⟨a,b⟩,c⟩;exact ⟨⟨b,c⟩,a⟩
      ·rintro ⟨⟨b,c⟩,a⟩;exact ⟨⟨a,b⟩,c⟩
     ·simp only [e,if_false,hk',forall_const]
      constructor
      ·rintro ⟨a,b⟩;exact ⟨⟨a,b⟩,fun q=>absurd q.symm e⟩
      ·rintro ⟨⟨a,b⟩,_⟩;exact ⟨a,b⟩
    refine ⟨fun h=>⟨(h1 h).1,fun i v=>((h1 h).2 i v).trans (key i v)⟩,fun h => ?_⟩
    obtain ⟨y,hy,hy2,hy3⟩:=h2 h
    exact ⟨y,by simp [hy],hy2,fun v hv=>hy3 v ((key _ v).2 hv)⟩
theorem X7V {f:ZJ} (hg:Wn f) (i:Nat):(X2o f i).Lo≤(X2o f i).Hi:=by
 unfold X2o
 split
 ·rename_i h
  exact (hg.off _ (List.getElem_mem h)).2.1
 ·simp
def Num (f:ZJ) (l:List Zn) (p:Zu) (ib mb:Int) (i:Nat) (v:Int):Prop:=X89 f p ib mb (X2o f) l i v
theorem Xa3 {f:ZJ} (hg:Wn f) (l:List Zn) (p:Zu) (ib mb:Int):(atN f l p ib mb).2=true↔∀ i,∃ v,Num f l p ib mb i v:=by
 obtain ⟨h1,h2⟩:=X5T f p ib mb l (X2o f) (X7V hg)
 unfold atN
 constructor
 ·intro h i
  obtain ⟨h3,h4⟩:=h1 h
  exact ⟨_,(h4 i ((atL f p ib mb (X2o f) l).1 i).Lo).1 ⟨Int.le_refl _,h3 i⟩⟩
 ·intro h
  cases hb:(atL f p ib mb (X2o f) l).2
  ·obtain ⟨x,_,_,h3⟩:=h2 hb
   obtain ⟨v,hv⟩:=h x.Instrument.toNat
   exact absurd hv (h3 v)
  ·rfl
theorem X9W {f:ZJ} (hg:Wn f) {l:List Zn} {p:Zu} {ib mb:Int} (h:(atN f l p ib mb).2=true) (i:Nat):((atN f l p ib mb).1 i).Lo≤((atN f l p ib mb).1 i).Hi∧∀ v,inS v ((atN f l p ib mb).1 i)↔Num f l p ib mb i v :=
 ⟨((X5T f p ib mb l (X2o f) (X7V hg)).1 h).1 i,((X5T f p ib mb l (X2o f) (X7V hg)).1 h).2 i⟩
theorem X9b {f:ZJ} {l:List Zn} {p:Zu}:p∈Xu f l↔p∈X4S f∧(atN f l p 0 0).2=true:=by
 unfold Xu;rw [List.mem_filter]
theorem X8e (l:List Zu) (p:Zu) (hl:l.length<1000000):X6p l p=some (decide (p∈l)):=by
 rw [X78];unfold X2U
 refine (X5 (X1A l p) _ l.length (fun i (_:Unit)=>(i:Int)) (fun _ _=>True) (fun i _=>some (decide (p∈l.drop i))) ?_ ?_ 0 () (by omega) trivial).trans (by simp)
 ·intro b _ R
  simp [X1A,X1J]
 ·intro i b hi _ R hR
  have hR':=hR () trivial
  rw [List.drop_eq_getElem_cons hi]
  have hw:=wS i (by omega)
  have e1:decide ((i:Int)<↑l.length)=true:=by simp [hi]
  have e2:=z0S i
  simp only [X1A,X1J,kS,X0 _ _ _ hi,hw,e1,e2,Bool.and_self,cond_true,Bool.and_true]
  by_cases h:p=l[i]
  ·subst h
   simp only [beq_self_eq_true,Bool.and_self,cond_true,jS,Sum.elim_inr,Sum.elim_inl,List.mem_cons,true_or,decide_true]
  ·have:(l[i].X==p.X&&l[i].Y==p.Y)=false:=by
    cases hc:(l[i].X==p.X&&l[i].Y==p.Y)
    ·rfl
    ·exfalso;simp at hc;exact h (Zu.ext hc.1.symm hc.2.symm)
   simp only [this,cond_false,jS,Sum.elim_inl,hR',List.mem_cons,h,false_or]
theorem X4x (f:ZJ) (l:List Zn):X3T f l=some (decide ((Xg f l).2=0)):=by
 rw [X6B];unfold X2y
 rw [X5Q]
 simp only [jS]
 by_cases h:(Xg f l).2=0<;>simp [h,X3I]
end Nore
open Go Go.Ab
namespace Nore
def X3f:Nat→List Nat→List (List Nat)
 | 0,_=>[[]]
 | _+1,[]=>[]
 | n+1,t::l=>(X3f n l).map (t :: ·)++X3f (n+1) l
theorem X6q:∀ (l:List Nat) (n:Nat) (s:List Nat),s∈X3f n l↔s.Sublist l∧s.length=n
 | l,0,s=>by
  cases l<;>simp only [X3f,List.mem_singleton]<;>constructor
  ·rintro rfl;exact ⟨List.Sublist.refl _,rfl⟩
  ·intro h;exact List.eq_nil_of_length_eq_zero h.2
  ·rintro rfl;exact ⟨List.nil_sublist _,rfl⟩
  ·intro h;exact List.eq_nil_of_length_eq_zero h.2
 | [],n+1,s=>by
  simp only [X3f,List.not_mem_nil,false_iff]
  rintro ⟨h1,h2⟩
  have:=List.sublist_nil.1 h1
  subst this;simp at h2
 | t::l,n+1,s=>by
  simp only [X3f,List.mem_append,List.mem_map,X6q l]
  constructor
  ·rintro (⟨r,⟨h1,h2⟩,rfl⟩|⟨h1,h2⟩)
   ·exact ⟨h1.cons_cons t,by simp [h2]⟩
   ·exact ⟨h1.cons t,h2⟩
  ·rintro ⟨h1,h2⟩
   cases h1 with
   | cons _ h=>exact .inr ⟨h,h2⟩
   | cons_cons _ h=>exact .inl ⟨_,⟨h,by simpa using h2⟩,rfl⟩
def X5p (ok:List Nat→Bool) (l:List Nat):Nat→Nat→Option (List Nat)
 | _,0=>none
 | n,k+1=>match (X3f n l).find? ok with
  | some s=>some s
  | none=>X5p ok l (n+1) k
theorem X7n (ok:List Nat→Bool) (l:List Nat):∀ (k n:Nat) (s:List Nat),X5p ok l n k=some s→ok s=true∧s.Sublist l∧n≤s.length∧s.length<n+k∧(∀ r,r.Sublist l→ok r=true→n≤r.length→s.length≤r.length)∧(X3f s.length l).find? ok=some s
 | 0,n,s,h=>by cases h
 | k+1,n,s,h=>by
  unfold X5p at h
  cases hf:(X3f n l).find? ok with
  | some r =>
   rw [hf] at h
   cases h
   have hm:=(X6q l n s).1 (List.mem_of_find?_eq_some hf)
   refine ⟨List.find?_some hf,hm.1,by omega,by omega,fun r _ _ h=>by omega,by rw [hm.2];exact hf⟩
  | none =>
   rw [hf] at h
   obtain ⟨h1,h2,h3,h4,h5,h6⟩:=X7n ok l k (n+1) s h
   refine ⟨h1,h2,by omega,by omega,fun r hr hk hn => ?_,h6⟩
   by_cases e:n=r.length
   ·have:=(List.find?_eq_none.1 hf) r ((X6q l n r).2 ⟨hr,e.symm⟩)
    exact absurd hk this
   ·exact h5 r hr hk (by omega)
theorem X8m (ok:List Nat→Bool) (l:List Nat):∀ (k n:Nat) (r:List Nat),r.Sublist l→ok r=true→n≤r.length→r.length<n+k→∃ s,X5p ok l n k=some s
 | 0,n,r,h1,h2,h3,h4=>by omega
 | k+1,n,r,h1,h2,h3,h4=>by
  unfold X5p
  cases hf:(X3f n l).find? ok with
  | some s=>exact ⟨s,rfl⟩
  | none =>
   by_cases e:n=r.length
   ·have:=(List.find?_eq_none.1 hf) r ((X6q l n r).2 ⟨h1,e.symm⟩)
    exact absurd h2 this
   ·exact X8m ok l k (n+1) r h1 h2 (by omega) (by omega)
theorem X8p:∀ {a b:List Nat},a.Nodup→(∀ t∈a,t∈b)→a.length≤b.length
 | [],b,_,_=>by simp
 | t::a,b,h,hs=>by
  have h2:=List.nodup_cons.1 h
  have hm:=hs t (by simp)
  have:=X8p (b:=b.erase t) h2.2 fun u hu=>by
   have hne:u≠t:=fun e=>h2.1 (e ▸ hu)
   exact (List.mem_erase_of_ne hne).2 (hs u (by simp [hu]))
  have hlen:=List.length_erase_of_mem hm
  have hpos:=List.length_pos_of_mem hm
  simp only [List.length_cons]
  omega
def X1 (f:ZJ):Nat:=f.Chart.Marks.length
def X8o (f:ZJ) (s:List Nat) (x:Zn):Bool := !(s.contains (X1 f+x.Instrument.toNat))&&((X1s f x.Instrument).Lead || !(s.contains x.Mark.toNat))
def X48 (f:ZJ) (l:List Zn) (s:List Nat):List Zn:=l.filter (X8o f s)
def X3g (f:ZJ) (l:List Zn) (t:Nat):Bool:=l.any fun x=>decide (X1 f+x.Instrument.toNat=t)||(!(X1s f x.Instrument).Lead&&decide (x.Mark.toNat=t))
def X13 (f:ZJ) (l:List Zn):List Nat:=(List.range (X1 f+f.Instruments.length)).filter (X3g f l)
def okW (f:ZJ) (l:List Zn) (s:List Nat):Bool := !(Xu f (X48 f l s)).isEmpty
def X5A (f:ZJ) (l:List Zn):List Nat:=(X5p (okW f l) (X13 f l) 0 (f.Instruments.length+1)).getD []
theorem X9Z {f:ZJ} (hg:Wn f):X4S f≠[]:=fun h=>by
 have:=(X7T hg.half.1 ⟨(-f.Half)*f.Step,(-f.Half)*f.Step⟩).2 ⟨-f.Half,-f.Half,by have:=hg.half;omega,by have:=hg.half;omega,by have:=hg.half;omega,by have:=hg.half;omega,rfl⟩
 rw [h] at this;cases this
theorem X9d {f:ZJ} (hg:Wn f):Xu f []=X4S f:=by
 unfold Xu
 apply List.filter_eq_self.2
 intro p _
 rfl
theorem X9Q {f:ZJ} (hg:Wn f) {l:List Zn} (hl:∀ x∈l,XB f x=0):okW f l ((X13 f l).filter fun t=>decide (X1 f≤t))=true:=by
 have:X48 f l ((X13 f l).filter fun t=>decide (X1 f≤t))=[]:=by
  unfold X48
  rw [List.filter_eq_nil_iff]
  intro x hx hk
  obtain ⟨⟨h1,h2⟩,_⟩:=X4H (hl x hx)
  unfold X8o at hk
  have hc:((X13 f l).filter fun t=>decide (X1 f≤t)).contains (X1 f+x.Instrument.toNat)=true:=by
   rw [List.contains_iff_mem,List.mem_filter]
   refine ⟨?_,by simp⟩
   unfold X13
   rw [List.mem_filter,List.mem_range]
   refine ⟨by omega,?_⟩
   unfold X3g
   rw [List.any_eq_true]
   exact ⟨x,hx,by simp⟩
  rw [hc] at hk
  simp at hk
 unfold okW
 rw [this,X9d hg]
 cases h:X4S f with
 | nil=>exact absurd h (X9Z hg)
 | cons a b=>rfl
theorem X9x {f:ZJ} {l:List Zn}:((X13 f l).filter fun t=>decide (X1 f≤t)).length≤f.Instruments.length:=by
 unfold X13
 rw [List.filter_filter]
 have h1:((List.range (X1 f+f.Instruments.length)).filter fun t=>decide (X1 f≤t)&&X3g f l t).length≤((List.range (X1 f+f.Instruments.length)).filter fun t=>decide (X1 f≤t)).length:=by
  apply List.Sublist.length_le
  have:((List.range (X1 f+f.Instruments.length)).filter fun t=>decide (X1 f≤t)&&X3g f l t)=((List.range (X1 f+f.Instruments.length)).filter fun t=>decide (X1 f≤t)).filter (X3g f l):=by
   rw [List.filter_filter]
   congr 1
   funext t
   rw [Bool.and_comm]
  rw [this]
  exact List.filter_sublist
 have h2:∀ (n m:Nat),((List.range (m+n)).filter fun t=>decide (m≤t)).length≤n:=fun n m=>by
  induction n with
  | zero =>
   have:(List.range (m+0)).filter (fun t=>decide (m≤t))=[]:=by
    rw [List.filter_eq_nil_iff]
    intro a ha
    have:=List.mem_range.1 ha
    simp;omega
   rw [this];simp
  | succ n ih =>
   rw [←Nat.add_assoc,List.range_succ,List.filter_append]
   simp only [List.length_append]
   have:([m+n].filter fun t=>decide (m≤t)).length≤1:=by
    exact List.length_filter_le (fun t=>decide (m≤t)) [m+n]
   omega
 have:=h2 f.Instruments.length (X1 f)
 omega
structure Xa2 (f:ZJ) (l:List Zn) (s:List Nat):Prop where
 ok:okW f l s=true
 sub:s.Sublist (X13 f l)
 least:∀ r,r.Sublist (X13 f l)→okW f l r=true→s.length≤r.length
 first:X5p (okW f l) (X13 f l) 0 (f.Instruments.length+1)=some s
theorem X88 {f:ZJ} (hg:Wn f) {l:List Zn} (hl:∀ x∈l,XB f x=0):Xa2 f l (X5A f l):=by
 have hlen := @X9x f l
 obtain ⟨s,hs⟩:=X8m (okW f l) (X13 f l) (f.Instruments.length+1) 0 ((X13 f l).filter fun t=>decide (X1 f≤t)) List.filter_sublist (X9Q hg hl) (by omega) (by omega)
 have:X5A f l=s:=by unfold X5A;rw [hs];rfl
 rw [this]
 obtain ⟨h1,h2,_,_,h5,_⟩:=X7n _ _ _ _ _ hs
 exact ⟨h1,h2,fun r hr hk=>h5 r hr hk (by omega),hs⟩
theorem X9l {f:ZJ} {l:List Zn}:(X13 f l).Nodup:=List.Pairwise.filter _ List.nodup_range
theorem X9r {f:ZJ} {l:List Zn} {t:Nat} (h:t∈X13 f l):t<X1 f+f.Instruments.length:=by
 unfold X13 at h;exact List.mem_range.1 (List.mem_filter.1 h).1
theorem X8Z {f:ZJ} {l:List Zn}:(X13 f l).Pairwise (· < ·):=List.Pairwise.filter _ List.pairwise_lt_range
theorem X9C {f:ZJ} {l:List Zn} (hl:∀ x∈l,XB f x=0) (s:List Nat):X48 f l ((X13 f l).filter fun t=>s.contains t)=X48 f l s:=by
 unfold X48
 apply List.filter_congr
 intro x hx
 obtain ⟨⟨h1,h2⟩,_,h3⟩:=X4H (hl x hx)
 have key:∀ t,t<X1 f+f.Instruments.length→X3g f l t=true→((X13 f l).filter fun t=>s.contains t).contains t=s.contains t:=fun t ht hu=>by
  rw [Bool.eq_iff_iff,List.contains_iff_mem,List.mem_filter]
  constructor
  ·exact fun h=>h.2
  ·intro h
   refine ⟨?_,h⟩
   unfold X13
   rw [List.mem_filter,List.mem_range]
   exact ⟨ht,hu⟩
 unfold X8o
 rw [key (X1 f+x.Instrument.toNat) (by omega) (by unfold X3g;rw [List.any_eq_true];exact ⟨x,hx,by simp⟩)]
 cases hL:(X1s f x.Instrument).Lead
 ·have h3:=h3 hL
  rw [key x.Mark.toNat (by unfold X1;omega) (by unfold X3g;rw [List.any_eq_true];exact ⟨x,hx,by simp [hL]⟩)]
 ·simp
theorem X91 {f:ZJ} (hg:Wn f) {l:List Zn} (hl:∀ x∈l,XB f x=0) (s:List Nat) (hs:okW f l s=true):(X5A f l).length≤s.length:=by
 have h1:okW f l ((X13 f l).filter fun t=>s.contains t)=true:=by unfold okW at hs ⊢;rw [X9C hl];exact hs
 have h2:=(X88 hg hl).least _ List.filter_sublist h1
 have h3:((X13 f l).filter fun t=>s.contains t).length≤s.length:=by
  apply X8p (List.Pairwise.filter _ X9l)
  intro t ht
  have:=(List.mem_filter.1 ht).2
  simpa using this
 omega
theorem X9J {f:ZJ} (hg:Wn f) {l:List Zn} (hl:∀ x∈l,XB f x=0) (h:Xu f l≠[]):X5A f l=[]:=by
 apply List.eq_nil_of_length_eq_zero
 have:X48 f l []=l:=by
  unfold X48
  apply List.filter_eq_self.2
  intro x _
  simp [X8o]
 have:=X91 hg hl [] (by unfold okW;rw [this];cases hp:Xu f l with|nil=>exact absurd hp h|cons a b=>rfl)
 simpa using this
end Nore
open Go Go.Ab
namespace Nore
theorem X6s (n:Nat) (h:n<18446744073709551616):(BitVec.ofInt 64 (n:Int)).toNat=n:=by
 rw [BitVec.toNat_ofInt];omega
theorem X7L (k:Nat) (hk:k<40):IntKind.wrap .i64 (1*2 ^ min (Int.toNat (k:Int)) (IntKind.bits .i64))=((2 ^ k:Nat):Int):=by
 have hb:IntKind.bits .i64=64:=rfl
 have hp:((2:Int) ^ k)=((2 ^ k:Nat):Int):=by simp
 have hle:2 ^ k≤2 ^ 40:=Nat.pow_le_pow_right (by omega) (by omega)
 rw [hb,kS,show min k 64=k by omega,hp,Int.one_mul]
 generalize 2 ^ k=z at *
 rw [w64]<;>omega
theorem Xa6 (a b:Nat) (ha:a<2 ^ 41) (hb:b<2 ^ 41):IntKind.wrap .i64 (↑(BitVec.toNat (BitVec.ofInt (IntKind.bits .i64) (a:Int) ||| BitVec.ofInt (IntKind.bits .i64) (b:Int))):Int)=((a ||| b:Nat):Int):=by
 have h:=Nat.or_lt_two_pow ha hb
 rw [show IntKind.bits .i64=64 from rfl,BitVec.toNat_or,X6s _ (by omega),X6s _ (by omega),w64]<;>omega
theorem X9K (a b:Nat) (ha:a<2 ^ 41) (hb:b<2 ^ 41):IntKind.wrap .i64 (↑(BitVec.toNat (BitVec.ofInt (IntKind.bits .i64) (a:Int) &&& BitVec.ofInt (IntKind.bits .i64) (b:Int))):Int)=((a &&& b:Nat):Int):=by
 have h:a &&& b<2 ^ 41:=Nat.lt_of_le_of_lt Nat.and_le_left ha
 rw [show IntKind.bits .i64=64 from rfl,BitVec.toNat_and,X6s _ (by omega),X6s _ (by omega),w64]<;>omega
theorem X8W (a k:Nat) (hk:k<64):Int.fdiv (a:Int) (2 ^ min (Int.toNat (k:Int)) (IntKind.bits .i64))=((a / 2 ^ k:Nat):Int):=by
 have hb:IntKind.bits .i64=64:=rfl
 have hp:((2:Int) ^ k)=((2 ^ k:Nat):Int):=by simp
 rw [hb,kS,show min k 64=k by omega,hp,Int.ofNat_fdiv]
theorem X8M (a k:Nat) (ha:a<2 ^ 41) (hk:k<64):X7g (a:Int) (k:Int)=a.testBit k:=by
 unfold X7g
 rw [X8W a k hk]
 have hle:a / 2 ^ k≤a:=Nat.div_le_self _ _
 have h1:=X9K (a / 2 ^ k) 1 (by omega) (by omega)
 simp only [Int.natCast_one] at h1
 rw [h1,Nat.testBit_eq_decide_div_mod_eq,Nat.and_one_is_mod,Bool.eq_iff_iff]
 simp only [beq_iff_eq,decide_eq_true_eq]
 omega
theorem X8A {a n:Nat} (h:∀ k,n≤k→a.testBit k=false):a<2 ^ n:=Nat.lt_pow_two_of_testBit a h
def X7M (a:Nat) (s:List Nat):Prop:=∀ k,a.testBit k=s.contains k
theorem X75 {f:ZJ} {x:Zn} (h:XB f x=0):((x.Instrument.toNat:Nat):Int)=x.Instrument∧x.Instrument.toNat<f.Instruments.length:=by
 obtain ⟨⟨h1,h2⟩,_⟩:=X4H h;omega
theorem X7S {f:ZJ} {x:Zn} (h:XB f x=0) (hL:(X1s f x.Instrument).Lead=false):((x.Mark.toNat:Nat):Int)=x.Mark∧x.Mark.toNat<f.Chart.Marks.length:=by
 obtain ⟨_,_,h3⟩:=X4H h;have:=h3 hL;omega
theorem X87 {f:ZJ} {l:List Zn} (hl:∀ x∈l,XB f x=0) (k:Nat) (hk:X1 f+f.Instruments.length≤k):X3g f l k=false:=by
 unfold X3g
 rw [List.any_eq_false]
 intro x hx
 have h1:=X75 (hl x hx)
 have e1:decide (X1 f+x.Instrument.toNat=k)=false:=by simp;omega
 rw [e1,Bool.false_or]
 cases hL:(X1s f x.Instrument).Lead
 ·have h2:=X7S (hl x hx) hL
  have:decide (x.Mark.toNat=k)=false:=by unfold X1 at hk;simp;omega
  rw [this];simp
 ·simp
theorem X9i {f:ZJ} (hg:Wn f) {l:List Zn} (hl:∀ x∈l,XB f x=0) (hll:l.length≤8) {kit:Nat→Nat} (hk:Kit f kit) (m:List (Zh×Int)) :
  ∃ a:Nat,(∀ k,a.testBit k=X3g f l k)∧WQ (f,l,kit,m)=some ((a:Int),f,l,kit,m):=by
 rw [X3v];unfold XK
 have hM:=hg.marks
 have hI:=hg.inst
 have main:=X3V (Xe (↑l.length) l f kit) (fun o=>some (o,f,l,kit,m)) l.length (fun i (a:Nat)=>((i:Int),(a:Int))) (fun i a=>∀ k,a.testBit k=X3g f (l.take i) k) (fun _ _ r=>∃ a:Nat,(∀ k,a.testBit k=X3g f l k)∧r=some ((a:Int),f,l,kit,m))
  (by
   intro a ha R
   refine ⟨a,by simpa using ha,?_⟩
   simp [Xe,Xl])
  (by
   intro i a hi ha R hR
   have hw:=wS i (by omega)
   have e1:decide ((i:Int)<↑l.length)=true:=by simp [hi]
   have e2:=z0S i
   have hx:=hl _ (List.getElem_mem hi)
   obtain ⟨x,hxd⟩:∃ x,l[i]=x:=⟨_,rfl⟩
   rw [hxd] at hx
   have hgd:l.getD i ⟨0,0,0,0⟩=x:=(X0 _ _ _ hi).trans hxd
   obtain ⟨n1,n2⟩:=X75 hx
   have hw1:IntKind.wrap .i64 ((↑f.Chart.Marks.length:Int)+x.Instrument)=((X1 f+x.Instrument.toNat:Nat):Int):=by unfold X1;rw [w64]<;>omega
   have hneg:decide (((X1 f+x.Instrument.toNat:Nat):Int)<0)=false:=by simp;omega
   have i1:decide (0≤x.Instrument)=true:=by simp;omega
   have i2:decide (x.Instrument<((4:Nat):Int))=true:=by simp;omega
   have i2':decide (x.Instrument<(4:Int))=true:=by simp;omega
   have i3:Nat.blt x.Instrument.toNat 4=true:=by rw [Tr.blt_dec];simp;omega
   have htake:l.take (i+1)=l.take i++[x]:=by rw [List.take_succ_eq_append_getElem hi,hxd]
   have hlt:a<2 ^ 12:=X8A fun k hk=>by
    rw [ha]
    apply X87 (fun y hy=>hl y (List.mem_of_mem_take hy))
    unfold X1;omega
   have hp1:2 ^ (X1 f+x.Instrument.toNat)<2 ^ 12:=Nat.pow_lt_pow_right (by omega) (by unfold X1;omega)
   have ho1:=Xa6 a (2 ^ (X1 f+x.Instrument.toNat)) (by omega) (by omega)
   have hs1:=X7L (X1 f+x.Instrument.toNat) (by unfold X1;omega)
   have hkk:=hk _ n2
   have hio:X1s f x.Instrument=f.Instruments[x.Instrument.toNat]:=X0 _ _ _ n2
   simp only [Xe,Xl,kS,hgd,hw,e1,e2,hw1,hneg,i1,i2,i2',i3,Bool.and_self,cond_true,cond_false]
   simp only [kS] at hs1
   rcases Bool.eq_false_or_eq_true (X1s f x.Instrument).Lead with hL|hL
   ·rw [←hio,hL] at hkk
    simp only [if_true] at hkk
    simp only [hkk,show Nat.beq 2 0=false from rfl,show Nat.beq 2 1=false from rfl,show Nat.beq 2 (1+1)=true from rfl,cond_false,cond_true,hs1,ho1,jS,Sum.elim_inl]
    refine hR _ fun k => ?_
    rw [Nat.testBit_or,ha,Nat.testBit_two_pow,htake]
    unfold X3g
    simp [hL]
   ·rw [←hio,hL] at hkk
    simp only [Bool.false_eq_true,if_false] at hkk
    obtain ⟨m1,m2⟩:=X7S hx hL
    have i5:decide (x.Mark<0)=false:=by simp;omega
    have hlt2:a ||| 2 ^ (X1 f+x.Instrument.toNat)<2 ^ 12:=Nat.or_lt_two_pow hlt hp1
    have hp2:2 ^ x.Mark.toNat<2 ^ 12:=Nat.pow_lt_pow_right (by omega) (by omega)
    have ho2:=Xa6 (a ||| 2 ^ (X1 f+x.Instrument.toNat)) (2 ^ x.Mark.toNat) (by omega) (by omega)
    have hs2:=X7L x.Mark.toNat (by omega)
    simp only [kS] at hs2
    simp only [hkk,show Nat.beq 1 0=false from rfl,show Nat.beq 1 1=true from rfl,cond_false,cond_true,i5,hs1,ho1,hs2,ho2,jS,Sum.elim_inl]
    refine hR _ fun k => ?_
    rw [Nat.testBit_or,Nat.testBit_or,ha,Nat.testBit_two_pow,Nat.testBit_two_pow,htake]
    unfold X3g
    simp [hL,Bool.or_assoc])
 have h:=main 0 0 (by omega) (fun k=>by simp [X3g])
 unfold X1e
 simpa using h
theorem X9F (f:ZJ) (x:Zn):X2K f 0 0 x=false:=by unfold X2K;simp [X9u]
theorem X6L (f:ZJ) (p:Zu) (ib mb:Int) (q:Zn→Bool):∀ (l:List Zn) (s:Nat→ZE),(∀ x∈l,X2K f ib mb x = !q x)→atL f p ib mb s l=atL f p 0 0 s (l.filter q)
 | [],_,_=>rfl
 | x::l,s,h=>by
  have hx:=h x (by simp)
  have hl:∀ y∈l,X2K f ib mb y = !q y:=fun y hy=>h y (by simp [hy])
  cases hq:q x
  ·rw [hq] at hx
   rw [List.filter_cons_of_neg (by simp [hq])]
   simp only [atL,hx,Bool.not_false,if_true]
   exact X6L f p ib mb q l s hl
  ·rw [hq] at hx
   rw [List.filter_cons_of_pos hq]
   simp only [atL,hx,X9F,Bool.not_true,Bool.false_eq_true,if_false]
   rw [X6L f p ib mb q l _ hl]
theorem X9E {f:ZJ} (hg:Wn f) {x:Zn} (hx:XB f x=0) {a:Nat} {s:List Nat} (ha:X7M a s) (h12:a<2 ^ 40):X2K f ((a / 2 ^ X1 f:Nat):Int) ((a &&& (2 ^ X1 f-1):Nat):Int) x = !X8o f s x:=by
 have hM:=hg.marks
 have hI:=hg.inst
 obtain ⟨n1,n2⟩:=X75 hx
 have hle:a / 2 ^ X1 f≤a:=Nat.div_le_self _ _
 have hle2:a &&& (2 ^ X1 f-1)≤a:=Nat.and_le_left
 unfold X2K X8o
 rw [←n1,X8M _ _ (by omega) (by omega),Nat.testBit_div_two_pow,ha,n1,Nat.add_comm]
 cases hL:(X1s f x.Instrument).Lead
 ·obtain ⟨m1,m2⟩:=X7S hx hL
  have hmb:X7g ((a &&& (2 ^ X1 f-1):Nat):Int) x.Mark=s.contains x.Mark.toNat:=by
   rw [←m1,X8M _ _ (by omega) (by omega),Nat.testBit_and,ha,Nat.testBit_two_pow_sub_one,kS]
   have:decide (x.Mark.toNat<X1 f)=true:=by unfold X1;simp;omega
   rw [this,Bool.and_true]
  rw [hmb]
  cases s.contains (X1 f+x.Instrument.toNat)<;>cases s.contains x.Mark.toNat<;>rfl
 ·cases s.contains (X1 f+x.Instrument.toNat)<;>rfl
theorem X9V {f:ZJ} (hg:Wn f) {l:List Zn} (hl:∀ x∈l,XB f x=0) {a:Nat} {s:List Nat} (ha:X7M a s) (h12:a<2 ^ 40) (p:Zu):atN f l p ((a / 2 ^ X1 f:Nat):Int) ((a &&& (2 ^ X1 f-1):Nat):Int)=atN f (X48 f l s) p 0 0:=by
 unfold atN X48
 exact X6L f p _ _ _ l _ fun x hx=>X9E hg (hl x hx) ha h12
end Nore
open Go Go.Ab
namespace Nore
theorem X8a {α:Type} (l:List α) (q:α→Bool):l.any q = !(l.filter q).isEmpty:=by
 induction l with
 | nil=>rfl
 | cons a l ih =>
  rw [List.any_cons,List.filter_cons]
  cases h:q a
  ·simp [ih]
  ·simp
theorem X8j {f:ZJ} {l:List Zn} (hg:X6T f l) {kit:Nat→Nat} (hk:Kit f kit) {a:Nat} {s:List Nat} (ha:X7M a s) (h12:a<2 ^ 40) (x:Int) (hx : -8≤x∧x≤8) {m:List (Zh×Int)} (hm:Xo f m) {γ:Type} (k:_→Option γ) (Q:Option γ→Prop)
  (h1:∀ m' o p,Xo f m'→((XS f x (-f.Half) (Xa f)).any fun p=>(atN f (X48 f l s) p 0 0).2)=true→Q (k (.inl (f,l,kit,o,p,m',true))))
  (h2:∀ m',Xo f m'→((XS f x (-f.Half) (Xa f)).any fun p=>(atN f (X48 f l s) p 0 0).2)=false→Q (k (.inr (f,l,kit,m')))) :
  Q (Option.bind (XR x (a:Int) ((2 ^ X1 f-1:Nat):Int) (-f.Half,f,l,kit,m)) k):=by
 have hh:=hg.fix.half
 have hs:=hg.fix.step
 have hM:=hg.fix.marks
 have hw0:(Xa f:Int)=2*f.Half+1:=by unfold Xa;omega
 have hle2:a &&& (2 ^ X1 f-1)≤a:=Nat.and_le_left
 have hp8:2 ^ X1 f≤2 ^ 8:=Nat.pow_le_pow_right (by omega) hM
 refine (X3V (X9 x (a:Int) ((2 ^ X1 f-1:Nat):Int)) k (Xa f) (fun i (b:List (Zh×Int))=>(-f.Half+i,f,l,kit,b)) (fun i b=>Xo f b∧((XS f x (-f.Half+i) (Xa f-i)).any fun p=>(atN f (X48 f l s) p 0 0).2)=((XS f x (-f.Half) (Xa f)).any fun p=>(atN f (X48 f l s) p 0 0).2)) (fun _ _ r=>Q r) ?_ ?_ 0 m (by omega) ⟨hm,by simp⟩) |> fun h=>by simpa [XR] using h
 ·intro b hb R
  have e1:decide (-f.Half+(Xa f:Int)≤f.Half)=false:=by simp;omega
  simp only [X9,Xi,e1,cond_false,jS,Sum.elim_inr]
  refine h2 _ hb.1 ?_
  rw [←hb.2];simp [XS]
 ·intro i b hi hb R hR
  obtain ⟨hb1,hb3⟩:=hb
  have e1:decide (-f.Half+(i:Int)≤f.Half)=true:=by simp;omega
  have hw:IntKind.wrap .i64 (-f.Half+(i:Int)+1) = -f.Half+((i+1:Nat):Int):=by rw [w64]<;>omega
  have m1:=X3U (a:=x) (b:=f.Step) 8 500 (by omega) (by omega) (by omega) (by omega)
  have m2:=X3U (a := -f.Half+(i:Int)) (b:=f.Step) 8 500 (by omega) (by omega) (by omega) (by omega)
  simp only [X9,Xi,e1,cond_true]
  rw [w64 (x:=x*f.Step) (by omega) (by omega),w64 (x:=(-f.Half+(i:Int))*f.Step) (by omega) (by omega),hw]
  have hsh:=X8W a (X1 f) (by unfold X1;omega)
  have hnd:=X9K a (2 ^ X1 f-1) (by omega) (by omega)
  rw [show (f.Chart.Marks.length:Int)=((X1 f:Nat):Int) from rfl,hsh,hnd]
  obtain ⟨m',hm',hc⟩:=X94 hg.fix hg.each hg.len hk hb1 ⟨x*f.Step,(-f.Half+(i:Int))*f.Step⟩ ((a / 2 ^ X1 f:Nat):Int) ((a &&& (2 ^ X1 f-1):Nat):Int)
  rw [X9V hg.fix hg.each ha h12] at hc
  rw [hc]
  simp only [jS]
  have hrow:XS f x (-f.Half+(i:Int)) (Xa f-i)=⟨x*f.Step,(-f.Half+(i:Int))*f.Step⟩::XS f x (-f.Half+((i+1:Nat):Int)) (Xa f-(i+1)):=by
   rw [show Xa f-i=(Xa f-(i+1))+1 by omega,XS,show -f.Half+(i:Int)+1 = -f.Half+((i+1:Nat):Int) by push_cast;omega]
  rw [hrow,List.any_cons] at hb3
  cases hat:(atN f (X48 f l s) ⟨x*f.Step,(-f.Half+(i:Int))*f.Step⟩ 0 0).2
  ·simp only [cond_false,jS,Sum.elim_inl]
   refine hR m' ⟨hm',?_⟩
   rw [hat,Bool.false_or] at hb3
   exact hb3
  ·simp only [cond_true,jS,Sum.elim_inr]
   refine h1 _ _ _ hm' ?_
   rw [hat,Bool.true_or] at hb3
   exact hb3.symm
theorem X90 {f:ZJ} {l:List Zn} (hg:X6T f l) {kit:Nat→Nat} (hk:Kit f kit) {a:Nat} {s:List Nat} (ha:X7M a s) (h12:a<2 ^ 40) {m:List (Zh×Int)} (hm:Xo f m) :
  ∃ m',Xo f m'∧Wr ((a:Int),f,l,kit,m)=some (okW f l s,f,l,kit,m'):=by
 rw [X3a];unfold Xz
 have hh:=hg.fix.half
 have hM:=hg.fix.marks
 have hw0:(Xa f:Int)=2*f.Half+1:=by unfold Xa;omega
 have hw2:IntKind.wrap .i64 (0-f.Half) = -f.Half:=by rw [w64]<;>omega
 have hp8:2 ^ X1 f≤2 ^ 8:=Nat.pow_le_pow_right (by omega) hM
 have hp1:1≤2 ^ X1 f:=Nat.one_le_two_pow
 have hmask:IntKind.wrap .i64 (IntKind.wrap .i64 (1*2 ^ min (Int.toNat (↑f.Chart.Marks.length:Int)) (IntKind.bits .i64))-1)=((2 ^ X1 f-1:Nat):Int):=by
  rw [show (f.Chart.Marks.length:Int)=((X1 f:Nat):Int) from rfl,X7L _ (by unfold X1;omega),w64]<;>omega
 have hok:okW f l s=(X4S f).any fun p=>(atN f (X48 f l s) p 0 0).2:=by unfold okW Xu;rw [X8a]
 simp only [hw2,hmask]
 refine (X3V (X8 (a:Int) ((2 ^ X1 f-1:Nat):Int)) _ (Xa f) (fun i (b:List (Zh×Int))=>(-f.Half+i,f,l,kit,b)) (fun i b=>Xo f b∧((WU f (-f.Half+i) (Xa f-i)).any fun p=>(atN f (X48 f l s) p 0 0).2)=okW f l s) (fun _ _ r=>∃ m',Xo f m'∧r=some (okW f l s,f,l,kit,m')) ?_ ?_ 0 m (by omega) ⟨hm,by rw [hok];simp [X4S]⟩) |> fun h=>by simpa [X15] using h
 ·intro b hb R
  have e1:decide (-f.Half+(Xa f:Int)≤f.Half)=false:=by simp;omega
  simp only [X8,Xh,e1,cond_false,jS,Sum.elim_inr]
  refine ⟨b,hb.1,?_⟩
  rw [←hb.2];simp [WU]
 ·intro i b hi hb R hR
  obtain ⟨hb1,hb3⟩:=hb
  have e1:decide (-f.Half+(i:Int)≤f.Half)=true:=by simp;omega
  have hw:IntKind.wrap .i64 (-f.Half+(i:Int)+1) = -f.Half+((i+1:Nat):Int):=by rw [w64]<;>omega
  have hgr:WU f (-f.Half+(i:Int)) (Xa f-i)=XS f (-f.Half+(i:Int)) (-f.Half) (Xa f)++WU f (-f.Half+((i+1:Nat):Int)) (Xa f-(i+1)):=by
   rw [show Xa f-i=(Xa f-(i+1))+1 by omega,WU,show -f.Half+(i:Int)+1 = -f.Half+((i+1:Nat):Int) by push_cast;omega]
  rw [hgr,List.any_append] at hb3
  simp only [X8,Xh,e1,cond_true,hw,hw2]
  rw [Option.bind_assoc]
  refine X8j hg hk ha h12 _ (by omega) hb1 _ (fun r=>∃ m',Xo f m'∧r=some (okW f l s,f,l,kit,m')) (fun m' o p hm' ht => ?_) (fun m' hm' ht => ?_)
  ·simp only [Sum.elim_inl,jS,Sum.elim_inr]
   rw [ht,Bool.true_or] at hb3
   exact ⟨m',hm',by rw [←hb3]⟩
  ·simp only [jS,Sum.elim_inr,Sum.elim_inl]
   rw [ht,Bool.false_or] at hb3
   exact hR m' ⟨hm',hb3⟩
end Nore
open Go Go.Ab
namespace Nore
theorem X9e {α β:Type} {t:(α→Option β)→α→Option β} {x:α} (h:∃ n r,Z8p t n x=some r):∃ n r,Z9M t x=some r∧Z8p t n x=some r:=by
 obtain ⟨n,r,hr⟩:=h
 have:Z9M t x≠none:=by
  unfold Z9M
  rw [dif_pos ⟨n,r,hr⟩]
  exact fun h=>by cases h
 cases hc:Z9M t x with
 | none=>exact absurd hc this
 | some y =>
  obtain ⟨k,hk⟩:=Z8J hc
  exact ⟨k,y,rfl,hk⟩
theorem X8P {α β:Type} (g:α→β) (q:β→Bool):∀ (l:List α),(l.map g).find? q=(l.find? fun a=>q (g a)).map g
 | []=>rfl
 | a::l=>by
  rw [List.map_cons,List.find?_cons,List.find?_cons,X8P g q l]
  cases q (g a)<;>rfl
def X4J (f:ZJ) (l:List Zn) (t:Nat):List Nat:=(X13 f l).filter fun k=>decide (t≤k)
theorem X9k (f:ZJ) (l:List Zn):X4J f l 0=X13 f l:=List.filter_eq_self.2 fun _ _=>by simp
theorem X5B:∀ (l:List Nat) (t:Nat),l.Pairwise (· < ·)→t∈l→(l.filter fun k=>decide (t≤k))=t::l.filter fun k=>decide (t+1≤k)
 | [],_,_,h=>by cases h
 | a::l,t,hp,h=>by
  have hp2:=List.pairwise_cons.1 hp
  by_cases e:a=t
  ·subst e
   rw [List.filter_cons_of_pos (by simp),List.filter_cons_of_neg (by simp)]
   congr 1
   apply List.filter_congr
   intro b hb
   have:=hp2.1 b hb
   simp;omega
  ·have hm:t∈l:=by
    rcases List.mem_cons.1 h with e'|e'
    ·exact absurd e'.symm e
    ·exact e'
   have:=hp2.1 t hm
   rw [List.filter_cons_of_neg (by simp;omega),List.filter_cons_of_neg (by simp;omega)]
   exact X5B l t hp2.2 hm
theorem X9U {f:ZJ} {l:List Zn} {t:Nat} (h:t∈X13 f l):X4J f l t=t::X4J f l (t+1):=X5B _ t X8Z h
theorem X9I {f:ZJ} {l:List Zn} {t:Nat} (h:t∉X13 f l):X4J f l t=X4J f l (t+1):=by
 unfold X4J
 apply List.filter_congr
 intro b hb
 have:b≠t:=fun e=>h (e ▸ hb)
 simp only [decide_eq_decide];omega
theorem X7U {f:ZJ} {l:List Zn} (hl:∀ x∈l,XB f x=0) {t:Nat}:t∈X13 f l↔X3g f l t=true:=by
 unfold X13
 rw [List.mem_filter,List.mem_range]
 constructor
 ·exact fun h=>h.2
 ·intro h
  refine ⟨?_,h⟩
  have:=X87 hl t
  by_cases c:t<X1 f+f.Instruments.length
  ·exact c
  ·rw [this (by omega)] at h;cases h
abbrev PSt:=Int×Bool×ZJ×List Zn×(Nat→Nat)×Int×List (Zh×Int)
def X7J (f:ZJ) (l:List Zn) (kit:Nat→Nat) (A:Nat) (s:List Nat) (n:Nat) (u:List Nat) (r:Option PSt):Prop :=
 ∃ m',Xo f m'∧match (X3f n u).find? (fun q=>okW f l (s++q)) with
  | some q=>∃ a':Nat,X7M a' (s++q)∧r=some ((a':Int),true,f,l,kit,(A:Int),m')
  | none=>∃ z,r=some (z,false,f,l,kit,(A:Int),m')
theorem X9X {a t:Nat} {s:List Nat} (h:X7M a s):X7M (a ||| 2 ^ t) (s++[t]):=fun k=>by
 rw [Nat.testBit_or,h k,Nat.testBit_two_pow,List.contains_eq_mem,List.contains_eq_mem]
 by_cases e:t=k
 ·subst e;simp
 ·simp [e,Ne.symm e]
theorem X8t {a:Nat} {s:List Nat} (h:X7M a s) (hs:∀ t∈s,t<12):a<2 ^ 12:=X8A fun k hk=>by
 rw [h k,List.contains_eq_mem]
 by_cases c:k∈s
 ·have:=hs k c;omega
 ·simp [c]
theorem X8L (a k:Nat) (ha:a<2 ^ 41) (hk:k<64):(IntKind.wrap IntKind.i64 (↑(BitVec.toNat (BitVec.ofInt (IntKind.bits IntKind.i64) (Int.fdiv (a:Int) (2 ^ min (Int.toNat (k:Int)) (IntKind.bits IntKind.i64))) &&& BitVec.ofInt (IntKind.bits IntKind.i64) 1)):Int)==0) = !a.testBit k:=by
 rw [X8W a k hk]
 have hle:a / 2 ^ k≤a:=Nat.div_le_self _ _
 have h1:=X9K (a / 2 ^ k) 1 (by omega) (by omega)
 simp only [Int.natCast_one] at h1
 rw [h1,Nat.testBit_eq_decide_div_mod_eq,Nat.and_one_is_mod,Bool.eq_iff_iff]
 simp only [beq_iff_eq,Bool.not_eq_true',decide_eq_false_iff_not]
 omega
theorem Xa0 {f:ZJ} {l:List Zn} (hg:X6T f l) {kit:Nat→Nat} (hk:Kit f kit) {A:Nat} (hA:∀ k,A.testBit k=X3g f l k) :
  ∀ (n fuel t a:Nat) (s:List Nat) (m:List (Zh×Int)),n≤1000→t≤12→X7M a s→(∀ k∈s,k<12)→Xo f m →
   (Z8p Xn fuel ((t:Int),(a:Int),(n:Int),f,l,kit,(A:Int),m)=none∧fuel≤n)∨X7J f l kit A s n (X4J f l t) (Z8p Xn fuel ((t:Int),(a:Int),(n:Int),f,l,kit,(A:Int),m)):=by
 have hM:=hg.fix.marks
 have hI:=hg.fix.inst
 have hA12:A<2 ^ 12:=X8A fun k hk=>by rw [hA];exact X87 hg.each k (by unfold X1;omega)
 intro n
 induction n with
 | zero =>
  intro fuel t a s m hn ht ha hs hm
  cases fuel with
  | zero=>exact .inl ⟨rfl,Nat.le_refl _⟩
  | succ fuel =>
   right
   have ha12:=X8t ha hs
   obtain ⟨m',hm',hc⟩:=X90 hg hk ha (by omega) hm
   simp only [Z8p,Xn,X25]
   rw [show (((0:Nat):Int)==0)=true from rfl,cond_true,hc]
   refine ⟨m',hm',?_⟩
   simp only [X3f,List.find?_cons,List.find?_nil,List.append_nil]
   cases hok:okW f l s
   ·exact ⟨_,rfl⟩
   ·exact ⟨a,by simpa using ha,rfl⟩
 | succ n ih =>
  intro fuel t a s m hn ht ha hs hm
  cases fuel with
  | zero=>exact .inl ⟨rfl,Nat.zero_le _⟩
  | succ fuel =>
   have ha12:=X8t ha hs
   simp only [Z8p,Xn,X25]
   have en:((((n+1:Nat):Int))==0)=false:=X3I (by omega)
   rw [en,cond_false]
   have hn1:IntKind.wrap .i64 (((n+1:Nat):Int)-1)=(n:Int):=by rw [w64]<;>omega
   refine (X3V (XF (Z8p Xn fuel) (a:Int) ((n+1:Nat):Int)) _ 12 (fun i (b:List (Zh×Int))=>((i:Int),f,l,kit,(A:Int),b)) (fun i b=>Xo f b) (fun i b r=>(r=none∧fuel+1≤n+1)∨X7J f l kit A s (n+1) (X4J f l i) r) ?_ ?_ t m ht hm)
   ·intro b hb R
    right
    have e0:decide (((12:Nat):Int)<0)=false:=by decide
    have e1:(Int.fdiv (A:Int) (2 ^ min (Int.toNat ((12:Nat):Int)) (IntKind.bits IntKind.i64)) != 0)=false:=by
     rw [X8W A 12 (by omega)]
     have:A / 2 ^ 12=0:=Nat.div_eq_of_lt hA12
     rw [this];rfl
    simp only [XF,XU,e0,e1,cond_false,jS,Sum.elim_inr]
    refine ⟨b,hb,?_⟩
    have hu:X4J f l 12=[]:=by
     unfold X4J
     rw [List.filter_eq_nil_iff]
     intro x hx
     have:=X9r hx
     unfold X1 at this
     simp;omega
    rw [hu]
    simp only [X3f,List.find?_nil]
    exact ⟨_,rfl⟩
   ·intro i b hi hb R hR
    have e0:decide ((i:Int)<0)=false:=by simp
    have hw:=wS i (by omega)
    have hbit:=X8L A i (by omega) (by omega)
    have hsr:=X8W A i (by omega)
    simp only [XF,XU,e0,cond_false,hw,hbit]
    rw [hsr]
    by_cases hz:A / 2 ^ i=0
    ·have e1:(((A / 2 ^ i:Nat):Int) != 0)=false:=by rw [hz];rfl
     simp only [e1,cond_false,jS,Sum.elim_inr]
     right
     refine ⟨b,hb,?_⟩
     have hu:X4J f l i=[]:=by
      unfold X4J
      rw [List.filter_eq_nil_iff]
      intro x hx hle
      have h1:=(X7U hg.each).1 hx
      rw [←hA] at h1
      have hle':i≤x:=by simpa using hle
      have h2:(A / 2 ^ i).testBit (x-i)=true:=by rw [Nat.testBit_div_two_pow,show x-i+i=x by omega];exact h1
      rw [hz,Nat.zero_testBit] at h2
      cases h2
     rw [hu]
     simp only [X3f,List.find?_nil]
     exact ⟨_,rfl⟩
    ·have e1:(((A / 2 ^ i:Nat):Int) != 0)=true:=W8 (by omega)
     simp only [e1,cond_true]
     rcases Bool.eq_false_or_eq_true (A.testBit i) with hb1|hb1
     rotate_left
     ·simp only [hb1,Bool.not_false,cond_true,jS,Sum.elim_inl]
      have:=hR b hb
      rw [←X9I (fun h=>by rw [X7U hg.each,←hA,hb1] at h;cases h)] at this
      exact this
     ·have hu:X4J f l i=i::X4J f l (i+1):=X9U (by rw [X7U hg.each,←hA];exact hb1)
      have hp:2 ^ i<2 ^ 12:=Nat.pow_lt_pow_right (by omega) hi
      have hor:=Xa6 a (2 ^ i) (by omega) (by omega)
      have hsh:=X7L i (by omega)
      simp only [hb1,Bool.not_true,cond_false]
      rw [hsh,hor]
      rw [hu]
      have hs':∀ k∈s++[i],k<12:=fun k hk=>by
       rcases List.mem_append.1 hk with h|h
       ·exact hs k h
       ·have:=List.mem_singleton.1 h;omega
      rw [hn1]
      rcases ih fuel (i+1) (a ||| 2 ^ i) (s++[i]) b (by omega) (by omega) (X9X ha) hs' hb with ⟨h1,h2⟩|⟨m',hm',h1⟩
      ·rw [h1];exact .inl ⟨rfl,by omega⟩
      ·unfold X7J
       simp only [X3f,List.find?_append,X8P]
       have happ:(fun q=>okW f l (s++[i]++q))=fun q=>okW f l (s++(i::q)):=by funext q;simp
       rw [happ] at h1
       cases hf:(X3f n (X4J f l (i+1))).find? (fun q=>okW f l (s++(i::q))) with
       | some q =>
        rw [hf] at h1
        obtain ⟨a',ha',h1⟩:=h1
        rw [h1]
        right
        refine ⟨m',hm',a',?_,?_⟩
        ·simpa using ha'
        ·simp
       | none =>
        rw [hf] at h1
        obtain ⟨z,h1⟩:=h1
        rw [h1]
        simp only [jS,cond_false,Sum.elim_inl,Option.map_none,Option.none_or]
        exact hR m' hm'
theorem X9H {f:ZJ} {l:List Zn} (hg:X6T f l) {kit:Nat→Nat} (hk:Kit f kit) {A:Nat} (hA:∀ k,A.testBit k=X3g f l k) {m:List (Zh×Int)} (hm:Xo f m) (n:Nat) (hn:n≤1000) :
  X7J f l kit A [] n (X13 f l) (X2v (0,0,(n:Int),f,l,kit,(A:Int),m)):=by
 have key:∀ fuel,_:=fun fuel=>Xa0 hg hk hA n fuel 0 0 [] m hn (by omega) (fun k=>by simp) (fun _ h=>by cases h) hm
 rw [X9k] at key
 have h1:∃ k r,Z8p Xn k ((0:Int),(0:Int),(n:Int),f,l,kit,(A:Int),m)=some r:=by
  rcases key (n+1) with ⟨_,h⟩|⟨m',_,h⟩
  ·omega
  ·refine ⟨n+1,?_⟩
   revert h
   cases (X3f n (X13 f l)).find? (fun q=>okW f l ([]++q)) with
   | some q=>rintro ⟨a',_,h⟩;exact ⟨_,h⟩
   | none=>rintro ⟨z,h⟩;exact ⟨_,h⟩
 obtain ⟨k,r,h2,h3⟩:=X9e h1
 unfold X2v
 rw [h2,←h3]
 rcases key k with ⟨h,_⟩|h
 ·exact absurd (h3.symm.trans h) (by simp)
 ·exact h
theorem X7C {f:ZJ} {l:List Zn} (hg:X6T f l) {kit:Nat→Nat} (hk:Kit f kit) {A:Nat} (hA:∀ k,A.testBit k=X3g f l k) {s:List Nat} :
  ∀ (k n:Nat) (x:Int) (m:List (Zh×Int)),n+k≤1000→Xo f m→X5p (okW f l) (X13 f l) n k=some s →
   ∃ (a:Nat) (m':_),X7M a s∧Xo f m'∧X2F (x,(n:Int),false,(A:Int),m,f,l,kit)=some ((a:Int),(A:Int),m',f,l,kit)
 | 0,n,x,m,hb,hm,h=>by cases h
 | k+1,n,x,m,hb,hm,h=>by
  unfold X2F
  rw [ZgX]
  obtain ⟨m',hm',hp⟩:=X9H hg hk hA hm n (by omega)
  have hw:=wS n (by omega)
  simp only [X2d,X1G,Bool.not_false,cond_true,hw]
  unfold X5p at h
  simp only [List.nil_append] at hp
  cases hf:(X3f n (X13 f l)).find? (okW f l) with
  | some q =>
   rw [hf] at h
   cases h
   have hf':(X3f n (X13 f l)).find? (fun q=>okW f l q)=some s:=hf
   rw [hf'] at hp
   obtain ⟨a',ha',hp⟩:=hp
   rw [hp]
   simp only [jS]
   rw [ZgX]
   refine ⟨a',m',ha',hm',?_⟩
   simp [X2d,X1G]
  | none =>
   rw [hf] at h
   have hf':(X3f n (X13 f l)).find? (fun q=>okW f l q)=none:=hf
   rw [hf'] at hp
   obtain ⟨z,hp⟩:=hp
   rw [hp]
   simp only [jS]
   exact X7C hg hk hA k (n+1) z m' (by omega) hm' h
def X5v (f:ZJ) (s:List Nat):List Int:=(s.filter fun t=>decide (t<X1 f)).map fun t:Nat=>(t:Int)
def X5s (f:ZJ) (s:List Nat):List Int:=(s.filter fun t=>decide (X1 f≤t)).map fun t:Nat=>(t:Int)-(X1 f:Int)
theorem X92 {f:ZJ} (hg:Wn f) {a:Nat} {s:List Nat} (ha:X7M a s) (h12:a<2 ^ 12) :
  X3S (a:Int) (↑f.Chart.Marks.length) (IntKind.wrap .i64 ((f.Chart.Marks.length:Int)+(f.Instruments.length:Int))) (0,[],[])=some (X5s f ((List.range (X1 f+f.Instruments.length)).filter fun t=>s.contains t),X5v f ((List.range (X1 f+f.Instruments.length)).filter fun t=>s.contains t)):=by
 have hM:=hg.marks
 have hI:=hg.inst
 have hN:IntKind.wrap .i64 ((f.Chart.Marks.length:Int)+(f.Instruments.length:Int))=((X1 f+f.Instruments.length:Nat):Int):=by unfold X1;rw [w64]<;>omega
 rw [hN,show (f.Chart.Marks.length:Int)=((X1 f:Nat):Int) from rfl]
 have hMn:X1 f≤8:=hM
 refine (X5j (X1z (a:Int) ((X1 f:Nat):Int) ((X1 f+f.Instruments.length:Nat):Int)) (X1 f+f.Instruments.length) (fun i (b:List Int×List Int)=>((i:Int),b.1,b.2)) (fun i b=>b.1.length≤i∧b.2.length≤i∧b.1=X5s f ((List.range i).filter fun t=>s.contains t)∧b.2=X5v f ((List.range i).filter fun t=>s.contains t)) (fun _ _=>some (X5s f ((List.range (X1 f+f.Instruments.length)).filter fun t=>s.contains t),X5v f ((List.range (X1 f+f.Instruments.length)).filter fun t=>s.contains t))) ?_ ?_ 0 ([],[]) (by omega) ⟨by simp,by simp,rfl,rfl⟩)
 ·intro b hb R
  simp only [X1z,X1H,Int.lt_irrefl,decide_false,cond_false,jS,Sum.elim_inr]
  rw [hb.2.2.1,hb.2.2.2]
 ·intro i b hi hb R hR
  obtain ⟨hl1,hl2,h1,h2⟩:=hb
  have e1:decide ((i:Int)<((X1 f+f.Instruments.length:Nat):Int))=true:=by simp;omega
  have e0:decide ((i:Int)<0)=false:=by simp
  have hw:=wS i (by omega)
  have hws:IntKind.wrap .i64 ((i:Int)-(X1 f:Int))=(i:Int)-(X1 f:Int):=by rw [w64]<;>omega
  have hbit:=X8L a i (by omega) (by omega)
  have ble:∀ (c:List Int) (d:Int),c.length≤i→Nat.ble ((c.length+[d].length)*(8+1)) 200000000000000=true:=fun c d h=>by
   apply Nat.ble_eq_true_of_le;simp only [List.length_cons,List.length_nil];omega
  simp only [X1z,X1H,e1,e0,cond_true,cond_false,hw,hbit,hws,ble _ _ hl1,ble _ _ hl2]
  rw [ha]
  have hr:(List.range (i+1)).filter (fun t=>s.contains t)=if s.contains i then (List.range i).filter (fun t=>s.contains t)++[i] else (List.range i).filter fun t=>s.contains t:=by
   rw [List.range_succ,List.filter_append]
   cases hc:s.contains i
   ·simp only [List.filter_cons,hc,List.filter_nil,Bool.false_eq_true,if_false,List.append_nil]
   ·simp only [List.filter_cons,hc,List.filter_nil,if_true]
  have mk:∀ (r:List Nat),X5s f (r++[i])=if decide (X1 f≤i) then X5s f r++[(i:Int)-(X1 f:Int)] else X5s f r:=fun r=>by
   unfold X5s
   rw [List.filter_append,List.map_append]
   by_cases c:X1 f≤i<;>simp [c]
  have mk2:∀ (r:List Nat),X5v f (r++[i])=if decide (i<X1 f) then X5v f r++[(i:Int)] else X5v f r:=fun r=>by
   unfold X5v
   rw [List.filter_append,List.map_append]
   by_cases c:i<X1 f<;>simp [c]
  cases hc:s.contains i
  ·simp only [Bool.not_false,cond_true,jS,Sum.elim_inl]
   rw [hc] at hr
   simp only [Bool.false_eq_true,if_false] at hr
   exact hR b ⟨by omega,by omega,by rw [hr,h1],by rw [hr,h2]⟩
  ·rw [hc] at hr
   simp only [if_true] at hr
   by_cases c:i<X1 f
   ·have e3:decide ((i:Int)<((X1 f:Nat):Int))=true:=by simp;omega
    simp only [Bool.not_true,cond_false,e3,cond_true,jS,Sum.elim_inl]
    refine hR (b.1,b.2++[(i:Int)]) ⟨by simp only;omega,by simp;omega,?_,?_⟩
    ·rw [hr,mk,if_neg (by simp;omega),h1]
    ·rw [hr,mk2,if_pos (by simp;omega),h2]
   ·have e3:decide ((i:Int)<((X1 f:Nat):Int))=false:=by simp;omega
    simp only [Bool.not_true,cond_false,e3,jS,Sum.elim_inl]
    refine hR (b.1++[(i:Int)-(X1 f:Int)],b.2) ⟨by simp;omega,by simp only;omega,?_,?_⟩
    ·rw [hr,mk,if_pos (by simp;omega),h1]
    ·rw [hr,mk2,if_neg (by simp;omega),h2]
theorem X6K:∀ (l s:List Nat),l.Pairwise (· < ·)→s.Pairwise (· < ·)→(∀ t∈s,t∈l)→l.filter (fun t=>s.contains t)=s
 | [],s,_,_,h=>by
  cases s with
  | nil=>rfl
  | cons b s=>exact absurd (h b (by simp)) (by simp)
 | a::l,[],_,_,_=>by simp
 | a::l,b::s,hl,hs,h=>by
  have hl2:=List.pairwise_cons.1 hl
  have hs2:=List.pairwise_cons.1 hs
  by_cases e:b=a
  ·subst e
   rw [List.filter_cons_of_pos (by simp)]
   congr 1
   have:l.filter (fun t=>(b::s).contains t)=l.filter fun t=>s.contains t:=by
    apply List.filter_congr
    intro t ht
    have:=hl2.1 t ht
    have hne:t≠b:=by omega
    simp [hne]
   rw [this]
   refine X6K l s hl2.2 hs2.2 fun t ht => ?_
   rcases List.mem_cons.1 (h t (by simp [ht])) with e|e
   ·have:=hs2.1 t ht;omega
   ·exact e
  ·have hbl:b∈l:=by
    rcases List.mem_cons.1 (h b (by simp)) with e'|e'
    ·exact absurd e' e
    ·exact e'
   have hab:=hl2.1 b hbl
   have hna:∀ t∈b::s,t∈l:=fun t ht=>by
    rcases List.mem_cons.1 (h t ht) with e'|e'
    ·subst e'
     rcases List.mem_cons.1 ht with e''|e''
     ·exact absurd e''.symm e
     ·have:=hs2.1 t e'';omega
    ·exact e'
   rw [List.filter_cons_of_neg]
   ·exact X6K l (b::s) hl2.2 hs hna
   ·intro hc
    have:a∈b::s:=by simpa using hc
    have:=hl2.1 a (hna a this)
    omega
theorem X9t (n:Nat) (s:List Nat) (hp:s.Pairwise (· < ·)) (hs:∀ t∈s,t<n):(List.range n).filter (fun t=>s.contains t)=s :=
 X6K _ _ List.pairwise_lt_range hp fun t ht=>List.mem_range.2 (hs t ht)
theorem X8d (f:ZJ) (l:List Zn):X6o f l=some (if (Xg f l).2=0 then (X5v f (X5A f l),X5s f (X5A f l),0) else ([],[],(Xg f l).2)):=by
 rw [X71];unfold X2Q
 rcases X6k f l with ⟨_,he,h0⟩|⟨kit,hg,h8,hk,he⟩
 ·rw [he]
  simp [h0,W8 h0]
 ·rw [he]
  simp only [jS,Sum.elim_inr]
  by_cases h0:(Xg f l).2=0
  ·have hs:=X41 h0
   obtain ⟨A,hA,ht⟩:=X9i hg hs.each hs.len hk []
   have ws:=X88 hg hs.each
   obtain ⟨a,m',ha,hm',hr⟩:=X7C hs hk hA (f.Instruments.length+1) 0 0 [] (by have:=hg.inst;omega) (X5k f) ws.first
   have hlt:∀ t∈X5A f l,t<X1 f+f.Instruments.length:=fun t ht=>X9r (ws.sub.subset ht)
   have h12:a<2 ^ 12:=X8t ha fun t ht=>by have:=hlt t ht;have:=hg.marks;have:=hg.inst;unfold X1 at *;omega
   simp only [h0,bne_self_eq_false,cond_false,if_true,ht,jS]
   rw [show ((0:Int),(0:Int),false,(A:Int),([]:List (Zh×Int)),f,l,kit)=((0:Int),((0:Nat):Int),false,(A:Int),[],f,l,kit) from rfl,hr]
   simp only [jS]
   rw [X92 hg ha h12,X9t _ _ (X8Z.sublist ws.sub) hlt]
   rfl
  ·simp [h0,W8 h0]
end Nore
open Go Go.Ab
namespace Nore
theorem X85 {β σ ω:Type} (st:σ→Option (σ⊕ω)) (n:Nat) (emb:Nat→β→σ) (P:Nat→β→Prop) (Q:ω→Prop)
  (hd:∀ b,P n b→∃ w,st (emb n b)=some (.inr w)∧Q w)
  (hn:∀ i b,i<n→P i b→(∃ w,st (emb i b)=some (.inr w)∧Q w)∨∃ b',st (emb i b)=some (.inl (emb (i+1) b'))∧P (i+1) b') :
  ∀ i b,i≤n→P i b→∃ w,Z8S st (emb i b)=some w∧Q w:=by
 intro i b hi hP
 induction hj:n-i generalizing i b with
 | zero =>
  have:i=n:=by omega
  subst this
  obtain ⟨w,h1,h2⟩:=hd b hP
  exact ⟨w,by rw [ZgX,h1];rfl,h2⟩
 | succ j ih =>
  rcases hn i b (by omega) hP with ⟨w,h1,h2⟩|⟨b',h1,h2⟩
  ·exact ⟨w,by rw [ZgX,h1];rfl,h2⟩
  ·obtain ⟨w,h3,h4⟩:=ih (i+1) b' (by omega) h2 (by omega)
   exact ⟨w,by rw [ZgX,h1];exact h3,h4⟩
theorem Xa9 {n:Int} (h:(Lit.int .u8 n).wf=true):0≤n∧n≤255:=by
 simp [Lit.wf,IntKind.has,IntKind.min,IntKind.max,IntKind.signed,IntKind.bits] at h
 omega
end Nore
open Go Go.Ab
namespace Nore
end Nore
open Go Go.Ab
namespace Nore
theorem X9T {n:Int} (h:(Lit.int .u16 n).wf=true):0≤n∧n≤65535:=by
 simp [Lit.wf,IntKind.has,IntKind.min,IntKind.max,IntKind.signed,IntKind.bits] at h
 omega
def X8Y (l:List Int) (n:Nat):Int:=if l.length=0 then 0 else l.getD (n % l.length) 0
theorem X9S (l:List Int) (h:∀ v∈l,0≤v∧v≤65535) (n:Nat):X5u l (n:Int)=some (X8Y l n)∧0≤X8Y l n∧X8Y l n≤65535:=by
 rw [X6D];unfold X2z X8Y
 by_cases h0:l.length=0
 ·simp [h0]
 ·have e0:((l.length:Int)==0)=false:=X3I (by omega)
  have hm:Int.tmod (n:Int) (l.length:Int)=((n % l.length:Nat):Int):=rfl
  have hlt:n % l.length<l.length:=Nat.mod_lt _ (by omega)
  have e1:decide ((0:Int)≤((n % l.length:Nat):Int))=true:=by simp;omega
  have e2:decide (((n % l.length:Nat):Int)<(l.length:Int))=true:=by simp;omega
  have hv:=h _ (List.getElem_mem hlt)
  simp only [e0,cond_false,hm,e1,e2,Bool.and_self,cond_true,kS,X0 _ _ _ hlt,h0,if_false]
  exact ⟨by rw [w64]<;>omega,hv⟩
theorem X4I (n k:Int) (hn:0≤n) (hk:0<k):0≤Int.tmod n k∧Int.tmod n k<k:=⟨Int.tmod_nonneg k hn,Int.tmod_lt_of_pos n hk⟩
end Nore
open Go Go.Ab Go.Proofs.YtehofdemanfenaaGreat
namespace Nore
def X37 (f:ZJ) (l:List Zn) (p:Zu):List ZE:=(List.range f.Instruments.length).map (atN f l p 0 0).1
theorem X8x (f:ZJ) (l:List Zn) (p:Zu):X6Y f l p=some (if (Xg f l).2=0 then (if X4 (-30000) 30000 [p.X,p.Y] then ([],7) else if (atN f l p 0 0).2 then (X37 f l p,0) else ([],9)) else ([],(Xg f l).2)):=by
 rw [X7o];unfold X3m
 rcases X6k f l with ⟨_,he,h0⟩|⟨kit,hg,h8,hk,he⟩
 ·rw [he]
  simp [h0,W8 h0]
 ·rw [he]
  simp only [jS,Sum.elim_inr]
  by_cases h0:(Xg f l).2=0
  ·simp only [h0,bne_self_eq_false,cond_false,if_true]
   rw [X3 _ _ _ (by simp)]
   simp only [jS]
   have hs:=X41 h0
   cases ho:X4 (-30000) 30000 [p.X,p.Y]
   ·simp only [cond_false,Bool.false_eq_true,if_false]
    obtain ⟨m',_,hp⟩:=X94 hg hs.each hs.len hk (X5k f) p 0 0
    have hp':XC (0,⟨p.X,p.Y⟩,0,f,l,kit,[])=some ((atN f l p 0 0).1,(atN f l p 0 0).2,f,l,kit,m'):=hp
    first|rw [hp]|rw [hp']
    simp only [jS]
    cases ha:(atN f l p 0 0).2
    ·simp
    ·have hI:=hg.inst
     have e1:decide ((0:Int)≤(f.Instruments.length:Int))=true:=by simp
     have e2:decide ((f.Instruments.length:Int)≤((4:Nat):Int))=true:=by simp;omega
     have e2':decide ((f.Instruments.length:Int)≤(4:Int))=true:=by simp;omega
     simp only [Bool.not_true,cond_false,e1,e2,e2',Bool.and_self,cond_true,if_true,kS]
     have hl:List.drop 0 (List.take f.Instruments.length (List.map (atN f l p 0 0).1 (List.range 4)))=X37 f l p:=by
      rw [List.drop_zero,←List.map_take,List.take_range,Nat.min_eq_left hI.2];rfl
     rw [hl,X1o]
     unfold X6
     have hlen:(X37 f l p).length=f.Instruments.length:=by unfold X37;simp
     have e3:(X37 f l p).isEmpty=false:=by
      cases hsp:X37 f l p with
      | nil=>rw [hsp] at hlen;simp at hlen;omega
      | cons a b=>rfl
     have e4:Nat.ble ((0+(X37 f l p).length)*(16+1)) 200000000000000=true:=by apply Nat.ble_eq_true_of_le;omega
     rw [e3,e4];rfl
   ·simp
  ·simp [h0,W8 h0]
def atP (f:ZJ) (x:Z4):Zu:=⟨f.Step*(Int.tmod (x.Place 0) (2*f.Half+1)-f.Half),f.Step*(Int.tmod (x.Place 1) (2*f.Half+1)-f.Half)⟩
theorem X9L {f:ZJ} (hg:Wn f) (x:Z4) (hx:∀ j,j<2→0≤x.Place j∧x.Place j≤255):X63 f x=some (atP f x)∧atP f x∈X4S f:=by
 have hh:=hg.half
 have hst:=hg.step
 have h0:=hx 0 (by omega)
 have h1:=hx 1 (by omega)
 have t0:=X4I (x.Place 0) (2*f.Half+1) h0.1 (by omega)
 have t1:=X4I (x.Place 1) (2*f.Half+1) h1.1 (by omega)
 have b0:=X3U (a:=f.Step) (b:=Int.tmod (x.Place 0) (2*f.Half+1)-f.Half) 500 8 (by omega) (by omega) (by omega) (by omega)
 have b1:=X3U (a:=f.Step) (b:=Int.tmod (x.Place 1) (2*f.Half+1)-f.Half) 500 8 (by omega) (by omega) (by omega) (by omega)
 constructor
 ·rw [X7t];unfold X3C atP
  have w1:IntKind.wrap .i64 (IntKind.wrap .i64 (2*f.Half)+1)=2*f.Half+1:=by rw [w64 (x:=2*f.Half),w64]<;>omega
  rw [w1,X3I (by omega),show Int.toNat 0=0 from rfl,show Int.toNat 1=1 from rfl,w64 (x:=x.Place 0) (by omega) (by omega),w64 (x:=x.Place 1) (by omega) (by omega)]
  simp only [cond_false]
  rw [w64 (x:=Int.tmod (x.Place 0) (2*f.Half+1)-f.Half) (by omega) (by omega),w64 (x:=Int.tmod (x.Place 1) (2*f.Half+1)-f.Half) (by omega) (by omega),w64 (by omega) (by omega),w64 (by omega) (by omega)]
 ·rw [X7T hh.1]
  refine ⟨Int.tmod (x.Place 0) (2*f.Half+1)-f.Half,Int.tmod (x.Place 1) (2*f.Half+1)-f.Half,by omega,by omega,by omega,by omega,?_⟩
  unfold atP;rw [Int.mul_comm f.Step,Int.mul_comm f.Step]
end Nore
open Go Go.Ab Go.Proofs.YtehofdemanfenaaGreat
namespace Nore
theorem X7G (f:ZJ):X4T f=some (decide ((X1P f).2.2=0)):=by
 rw [X66];unfold X2h
 rw [X5O]
 simp only [jS]
 by_cases h:(X1P f).2.2=0<;>simp [h,X3I]
end Nore
open Go Go.Ab
namespace Nore
def X4k (p:Nat):Zu:=⟨Geo.vx p,Geo.vy p⟩
theorem X9s:∀ p,p<32 → -1000≤Geo.vx p∧Geo.vx p≤1000 ∧ -1000≤Geo.vy p∧Geo.vy p≤1000:=by decide
theorem Xa5 {a:Int} (h : -1000000≤a∧a≤1000000):IntKind.wrap .i64 (0-a) = -a:=by rw [w64]<;>omega
theorem Xa4 (q:Nat):∀ p,p<32→p / 8=q→(∀ n r,Z8p Xb n ((p:Int),())=some r→r=X4k p)∧(∃ n r,Z8p Xb n ((p:Int),())=some r):=by
 have base:∀ p:Nat,p<8→∀ n,Z8p Xb (n+1) ((p:Int),())=some (X4k p):=fun p hp n=>by
  have e:∀ p,p<8→(List.getD [Zu.mk 0 1000,Zu.mk 195 981,Zu.mk 383 924,Zu.mk 556 831,Zu.mk 707 707,Zu.mk 831 556,Zu.mk 924 383,Zu.mk 981 195] p (Zu.mk 0 0)).X=Geo.vx p∧(List.getD [Zu.mk 0 1000,Zu.mk 195 981,Zu.mk 383 924,Zu.mk 556 831,Zu.mk 707 707,Zu.mk 831 556,Zu.mk 924 383,Zu.mk 981 195] p (Zu.mk 0 0)).Y=Geo.vy p:=by decide
  have e':=e p hp
  simp only [Z8p,Xb,X2q,kS]
  have h1:decide ((p:Int)≥8)=false:=by simp;omega
  rw [h1]
  generalize List.getD _ p _=g at *
  have h2:decide ((0:Int)≤(p:Int))=true:=by simp
  have h3:decide ((p:Int)<((8:Nat):Int))=true:=by simp;omega
  have h4:Nat.blt p 8=true:=by simp [Nat.blt,Nat.ble_eq];omega
  simp only [cond_false,List.length_cons,List.length_nil,Nat.zero_add,Nat.reduceAdd]
  rw [h2,h3,h4]
  simp only [Bool.and_self,cond_true,X4k,Option.some.injEq]
  cases g
  simp only [Zu.mk.injEq]
  exact e'
 induction q with
 | zero =>
  intro p hp hq
  have hp8:p<8:=by omega
  refine ⟨fun n r h => ?_,⟨1,_,base p hp8 0⟩⟩
  cases n with
  | zero=>simp [Z8p] at h
  | succ n=>rw [base p hp8 n] at h;exact (Option.some.inj h).symm
 | succ q ih =>
  intro p hp hq
  obtain ⟨i1,m,s,i2⟩:=ih (p-8) (by omega) (by omega)
  have hstep:∀ n,Z8p Xb (n+1) ((p:Int),())=Option.bind (Z8p Xb n (((p-8:Nat):Int),())) fun v=>some ⟨v.Y,IntKind.wrap .i64 (0-v.X)⟩:=fun n=>by
   simp only [Z8p,Xb,X2q]
   have h1:decide ((p:Int)≥8)=true:=by simp;omega
   have h2:IntKind.wrap .i64 ((p:Int)-8)=((p-8:Nat):Int):=by rw [w64]<;>omega
   rw [h1,h2]
   rfl
  have tt:(⟨(X4k (p-8)).Y,-(X4k (p-8)).X⟩:Zu)=X4k p:=by
   have e:∀ p,p<24→Geo.vy p=Geo.vx (p+8) ∧ - Geo.vx p=Geo.vy (p+8):=by decide
   have e':=e (p-8) (by omega)
   rw [show p-8+8=p by omega] at e'
   simp only [X4k,Zu.mk.injEq]
   exact e'
  have bd:=X9s (p-8) (by omega)
  have wv:IntKind.wrap .i64 (0-(X4k (p-8)).X) = - (X4k (p-8)).X:=Xa5 (by simp only [X4k];omega)
  refine ⟨fun n r h => ?_,⟨m+1,X4k p,?_⟩⟩
  ·cases n with
   | zero=>simp [Z8p] at h
   | succ n =>
    rw [hstep] at h
    cases hr:Z8p Xb n (((p-8:Nat):Int),()) with
    | none=>rw [hr] at h;simp at h
    | some v =>
     rw [hr] at h
     have:=i1 n v hr
     subst this
     simp only [jS,Option.some.injEq] at h
     rw [←h,wv,tt]
  ·rw [hstep,i2]
   have:=i1 m s i2
   subst this
   simp only [jS,wv,tt]
theorem X2p (p:Nat) (hp:p<32):X3X (p:Int)=some (X4k p):=by
 obtain ⟨h1,h2⟩:=Xa4 (p / 8) p hp rfl
 exact Zhk h1 h2
theorem X8w (p:Nat) (hp:p<32) (v:Zu) (hv:Bd 60000 v):IntKind.wrap .i64 (IntKind.wrap .i64 ((X4k p).X*v.Y)-IntKind.wrap .i64 ((X4k p).Y*v.X))=Geo.crs p v.X v.Y:=by
 have bd:=X9s p hp
 unfold Bd at hv
 rw [X9a 2000000 rfl (by simp only [X4k];omega) (by omega) (by simp only [X4k];omega) (by omega)]
 rfl
theorem X7i (v:Zu) (hv:Bd 60000 v) (h0:v.X≠0∨v.Y≠0):X17 v=some ((Geo.tow v.X v.Y:Nat):Int):=by
 have ht:=Geo.tow_spec h0
 unfold X17
 have key:=X5 (Wi v) (fun o224=>some o224) (Geo.tow v.X v.Y) (fun i (_:Unit)=>(i:Int)) (fun _ _=>True) (fun _ _=>some ((Geo.tow v.X v.Y:Nat):Int))
  (by
   intro b _ R
   simp only [Wi,Wu]
   generalize ht':Geo.tow v.X v.Y=t at *
   have hw:=wS t (by omega)
   have hm:Int.tmod ((t+1:Nat):Int) 32=(((t+1) % 32:Nat):Int):=rfl
   rw [hw,hm,X2p _ ht.1,X2p _ (by omega)]
   simp only [jS]
   rw [X8w _ ht.1 v hv,X8w _ (by omega) v hv]
   have a1:decide (Geo.crs t v.X v.Y>0)=false:=by simpa using ht.2.1
   have a2:decide (Geo.crs ((t+1) % 32) v.X v.Y≤0)=false:=by simpa using ht.2.2
   simp [a1,a2])
  (by
   intro i b hi _ R hR
   have hR':=hR () trivial
   simp only [Wi,Wu]
   have hi32:i<32:=by omega
   have hw:=wS i (by omega)
   have hm:Int.tmod ((i+1:Nat):Int) 32=(((i+1) % 32:Nat):Int):=rfl
   rw [hw,hm,X2p _ hi32,X2p _ (by omega)]
   simp only [jS]
   rw [X8w _ hi32 v hv,X8w _ (by omega) v hv]
   by_cases a1:Geo.crs i v.X v.Y>0
   ·simp [a1];simpa using hR'
   ·by_cases a2:Geo.crs ((i+1) % 32) v.X v.Y≤0
    ·simp [a1,a2];simpa using hR'
    ·exfalso
     have:Geo.Tow i v.X v.Y:=⟨by omega,by omega⟩
     have:=Geo.tow_eq hi32 this
     omega)
 exact key 0 () (by omega) trivial
theorem X6l {X Y:Int} (hx:0≤X) (hy:0<Y):Geo.tow X Y+1=X6M ⟨X,Y⟩ X7∧1≤X6M ⟨X,Y⟩ X7∧X6M ⟨X,Y⟩ X7≤8:=by
 unfold X6M X7
 have c0:Geo.crs 0 X Y=0*Y-1000*X:=rfl
 have c1:Geo.crs 1 X Y=195*Y-981*X:=rfl
 have c2:Geo.crs 2 X Y=383*Y-924*X:=rfl
 have c3:Geo.crs 3 X Y=556*Y-831*X:=rfl
 have c4:Geo.crs 4 X Y=707*Y-707*X:=rfl
 have c5:Geo.crs 5 X Y=831*Y-556*X:=rfl
 have c6:Geo.crs 6 X Y=924*Y-383*X:=rfl
 have c7:Geo.crs 7 X Y=981*Y-195*X:=rfl
 have c8:Geo.crs 8 X Y=1000*Y-0*X:=rfl
 by_cases h1:195*Y-981*X≤0
 rotate_left
 ·have ht:Geo.tow X Y=0:=Geo.tow_eq (by omega) ⟨by omega,by show Geo.crs 1 X Y>0;omega⟩
  have d0:decide ((0:Int)*Y-1000*X≤0)=true:=by simp;omega
  have d1:decide ((195:Int)*Y-981*X≤0)=false:=by simp;omega
  have d2:decide ((383:Int)*Y-924*X≤0)=false:=by simp;omega
  have d3:decide ((556:Int)*Y-831*X≤0)=false:=by simp;omega
  have d4:decide ((707:Int)*Y-707*X≤0)=false:=by simp;omega
  have d5:decide ((831:Int)*Y-556*X≤0)=false:=by simp;omega
  have d6:decide ((924:Int)*Y-383*X≤0)=false:=by simp;omega
  have d7:decide ((981:Int)*Y-195*X≤0)=false:=by simp;omega
  rw [ht]
  simp [List.countP_cons,d0,d1,d2,d3,d4,d5,d6,d7,show 0≤1000*X by omega]
 by_cases h2:383*Y-924*X≤0
 rotate_left
 ·have ht:Geo.tow X Y=1:=Geo.tow_eq (by omega) ⟨by omega,by show Geo.crs 2 X Y>0;omega⟩
  have d0:decide ((0:Int)*Y-1000*X≤0)=true:=by simp;omega
  have d1:decide ((195:Int)*Y-981*X≤0)=true:=by simp;omega
  have d2:decide ((383:Int)*Y-924*X≤0)=false:=by simp;omega
  have d3:decide ((556:Int)*Y-831*X≤0)=false:=by simp;omega
  have d4:decide ((707:Int)*Y-707*X≤0)=false:=by simp;omega
  have d5:decide ((831:Int)*Y-556*X≤0)=false:=by simp;omega
  have d6:decide ((924:Int)*Y-383*X≤0)=false:=by simp;omega
  have d7:decide ((981:Int)*Y-195*X≤0)=false:=by simp;omega
  rw [ht]
  simp [List.countP_cons,d0,d1,d2,d3,d4,d5,d6,d7,show 0≤1000*X by omega]
 by_cases h3:556*Y-831*X≤0
 rotate_left
 ·have ht:Geo.tow X Y=2:=Geo.tow_eq (by omega) ⟨by omega,by show Geo.crs 3 X Y>0;omega⟩
  have d0:decide ((0:Int)*Y-1000*X≤0)=true:=by simp;omega
  have d1:decide ((195:Int)*Y-981*X≤0)=true:=by simp;omega
  have d2:decide ((383:Int)*Y-924*X≤0)=true:=by simp;omega
  have d3:decide ((556:Int)*Y-831*X≤0)=false:=by simp;omega
  have d4:decide ((707:Int)*Y-707*X≤0)=false:=by simp;omega
  have d5:decide ((831:Int)*Y-556*X≤0)=false:=by simp;omega
  have d6:decide ((924:Int)*Y-383*X≤0)=false:=by simp;omega
  have d7:decide ((981:Int)*Y-195*X≤0)=false:=by simp;omega
  rw [ht]
  simp [List.countP_cons,d0,d1,d2,d3,d4,d5,d6,d7,show 0≤1000*X by omega]
 by_cases h4:707*Y-707*X≤0
 rotate_left
 ·have ht:Geo.tow X Y=3:=Geo.tow_eq (by omega) ⟨by omega,by show Geo.crs 4 X Y>0;omega⟩
  have d0:decide ((0:Int)*Y-1000*X≤0)=true:=by simp;omega
  have d1:decide ((195:Int)*Y-981*X≤0)=true:=by simp;omega
  have d2:decide ((383:Int)*Y-924*X≤0)=true:=by simp;omega
  have d3:decide ((556:Int)*Y-831*X≤0)=true:=by simp;omega
  have d4:decide ((707:Int)*Y-707*X≤0)=false:=by simp;omega
  have d5:decide ((831:Int)*Y-556*X≤0)=false:=by simp;omega
  have d6:decide ((924:Int)*Y-383*X≤0)=false:=by simp;omega
  have d7:decide ((981:Int)*Y-195*X≤0)=false:=by simp;omega
  rw [ht]
  simp [List.countP_cons,d0,d1,d2,d3,d4,d5,d6,d7,show 0≤1000*X by omega]
 by_cases h5:831*Y-556*X≤0
 rotate_left
 ·have ht:Geo.tow X Y=4:=Geo.tow_eq (by omega) ⟨by omega,by show Geo.crs 5 X Y>0;omega⟩
  have d0:decide ((0:Int)*Y-1000*X≤0)=true:=by simp;omega
  have d1:decide ((195:Int)*Y-981*X≤0)=true:=by simp;omega
  have d2:decide ((383:Int)*Y-924*X≤0)=true:=by simp;omega
  have d3:decide ((556:Int)*Y-831*X≤0)=true:=by simp;omega
  have d4:decide ((707:Int)*Y-707*X≤0)=true:=by simp;omega
  have d5:decide ((831:Int)*Y-556*X≤0)=false:=by simp;omega
  have d6:decide ((924:Int)*Y-383*X≤0)=false:=by simp;omega
  have d7:decide ((981:Int)*Y-195*X≤0)=false:=by simp;omega
  rw [ht]
  simp [List.countP_cons,d0,d1,d2,d3,d4,d5,d6,d7,show 0≤1000*X by omega]
 by_cases h6:924*Y-383*X≤0
 rotate_left
 ·have ht:Geo.tow X Y=5:=Geo.tow_eq (by omega) ⟨by omega,by show Geo.crs 6 X Y>0;omega⟩
  have d0:decide ((0:Int)*Y-1000*X≤0)=true:=by simp;omega
  have d1:decide ((195:Int)*Y-981*X≤0)=true:=by simp;omega
  have d2:decide ((383:Int)*Y-924*X≤0)=true:=by simp;omega
  have d3:decide ((556:Int)*Y-831*X≤0)=true:=by simp;omega
  have d4:decide ((707:Int)*Y-707*X≤0)=true:=by simp;omega
  have d5:decide ((831:Int)*Y-556*X≤0)=true:=by simp;omega
  have d6:decide ((924:Int)*Y-383*X≤0)=false:=by simp;omega
  have d7:decide ((981:Int)*Y-195*X≤0)=false:=by simp;omega
  rw [ht]
  simp [List.countP_cons,d0,d1,d2,d3,d4,d5,d6,d7,show 0≤1000*X by omega]
 by_cases h7:981*Y-195*X≤0
 rotate_left
 ·have ht:Geo.tow X Y=6:=Geo.tow_eq (by omega) ⟨by omega,by show Geo.crs 7 X Y>0;omega⟩
  have d0:decide ((0:Int)*Y-1000*X≤0)=true:=by simp;omega
  have d1:decide ((195:Int)*Y-981*X≤0)=true:=by simp;omega
  have d2:decide ((383:Int)*Y-924*X≤0)=true:=by simp;omega
  have d3:decide ((556:Int)*Y-831*X≤0)=true:=by simp;omega
  have d4:decide ((707:Int)*Y-707*X≤0)=true:=by simp;omega
  have d5:decide ((831:Int)*Y-556*X≤0)=true:=by simp;omega
  have d6:decide ((924:Int)*Y-383*X≤0)=true:=by simp;omega
  have d7:decide ((981:Int)*Y-195*X≤0)=false:=by simp;omega
  rw [ht]
  simp [List.countP_cons,d0,d1,d2,d3,d4,d5,d6,d7,show 0≤1000*X by omega]
 have ht:Geo.tow X Y=7:=Geo.tow_eq (by omega) ⟨by omega,by show Geo.crs 8 X Y>0;omega⟩
 have d0:decide ((0:Int)*Y-1000*X≤0)=true:=by simp;omega
 have d1:decide ((195:Int)*Y-981*X≤0)=true:=by simp;omega
 have d2:decide ((383:Int)*Y-924*X≤0)=true:=by simp;omega
 have d3:decide ((556:Int)*Y-831*X≤0)=true:=by simp;omega
 have d4:decide ((707:Int)*Y-707*X≤0)=true:=by simp;omega
 have d5:decide ((831:Int)*Y-556*X≤0)=true:=by simp;omega
 have d6:decide ((924:Int)*Y-383*X≤0)=true:=by simp;omega
 have d7:decide ((981:Int)*Y-195*X≤0)=true:=by simp;omega
 rw [ht]
 simp [List.countP_cons,d0,d1,d2,d3,d4,d5,d6,d7,show 0≤1000*X by omega]
theorem X8H:∀ t,t<32→Geo.vx ((t+8) % 32)=Geo.vy t∧Geo.vy ((t+8) % 32) = - Geo.vx t:=by decide
theorem X6U (t:Nat) (ht:t<32) (X Y:Int):Geo.crs ((t+8) % 32) Y (-X)=Geo.crs t X Y:=by
 have h:=X8H t ht
 unfold Geo.crs
 rw [h.1,h.2]
 rw [Int.mul_neg,Int.neg_mul]
 omega
theorem X2J {X Y:Int} (h:X≠0∨Y≠0):Geo.tow Y (-X)=(Geo.tow X Y+8) % 32:=by
 obtain ⟨h1,h2,h3⟩:=Geo.tow_spec h
 generalize Geo.tow X Y=t at *
 apply Geo.tow_eq (by omega)
 refine ⟨?_,?_⟩
 ·rw [X6U t h1];exact h2
 ·rw [show ((t+8) % 32+1) % 32=((t+1) % 32+8) % 32 by omega,X6U _ (by omega)];exact h3
theorem X9B {v:Zu} (hb : -60000≤v.X∧v.X≤60000 ∧ -60000≤v.Y∧v.Y≤60000) (h0:¬ (v.X=0∧v.Y=0)):X5w v=((Geo.tow v.X v.Y:Nat):Int):=by
 unfold X5w X4A
 by_cases c1:0≤v.X∧0<v.Y
 ·rw [if_pos c1]
  have h:=X6l c1.1 c1.2
  have he:X6M ⟨v.X,v.Y⟩ X7=X6M v X7:=rfl
  rw [he] at h
  simp only
  omega
 ·rw [if_neg c1]
  by_cases c2:0<v.X∧v.Y≤0
  ·rw [if_pos c2]
   have h1:=X6l (X := -v.Y) (Y:=v.X) (by omega) c2.1
   have h2:=X2J (X := -v.Y) (Y:=v.X) (by omega)
   rw [Int.neg_neg] at h2
   simp only
   omega
  ·rw [if_neg c2]
   by_cases c3:v.X≤0∧v.Y<0
   ·rw [if_pos c3]
    have h1:=X6l (X := -v.X) (Y := -v.Y) (by omega) (by omega)
    have h2:=X2J (X := -v.X) (Y := -v.Y) (by omega)
    have h3:=X2J (X := -v.Y) (Y:=v.X) (by omega)
    rw [Int.neg_neg] at h2 h3
    simp only
    omega
   ·rw [if_neg c3]
    have h1:=X6l (X:=v.Y) (Y := -v.X) (by omega) (by omega)
    have h2:=X2J (X:=v.Y) (Y := -v.X) (by omega)
    have h3:=X2J (X := -v.X) (Y := -v.Y) (by omega)
    have h4:=X2J (X := -v.Y) (Y:=v.X) (by omega)
    rw [Int.neg_neg] at h3 h4
    simp only
    omega
theorem X7j {v:Zu} (hb : -60000≤v.X∧v.X≤60000 ∧ -60000≤v.Y∧v.Y≤60000) (h0:¬ (v.X=0∧v.Y=0)):X17 v=some (X5w v):=by
 rw [X7i v (by unfold Bd;omega) (by omega),X9B hb h0]
end Nore
open Go Go.Ab
namespace Nore
theorem X93 {f:ZJ} (hA:f.Areas.length≤6) (p:Zu):∃ k:Int,X4m f p=some k∧((k<0∧X6J f p=none)∨(0≤k∧k.toNat<f.Areas.length∧X6J f p=some (f.Areas.getD k.toNat ⟨⟨0,0⟩,⟨0,0⟩,⟨0,0⟩,0⟩))):=by
 rw [X5M];unfold X22
 obtain ⟨w,h1,h2⟩:=X85 (Wl p f) f.Areas.length (fun i (_:Unit)=>(i:Int)) (fun i _=>X6J f p=(f.Areas.drop i).find? fun a=>X4c a p)
  (fun w=>(w = .inr ()∧X6J f p=none)∨∃ k:Nat,k<f.Areas.length∧w = .inl (k:Int)∧X6J f p=some (f.Areas.getD k ⟨⟨0,0⟩,⟨0,0⟩,⟨0,0⟩,0⟩))
  (fun _ hb=>⟨.inr (),by simp [Wl,Wx],.inl ⟨rfl,by simpa using hb⟩⟩)
  (fun i _ hi hb=>by
   have hw:=wS i (by omega)
   have e1:decide ((i:Int)<↑f.Areas.length)=true:=by simp [hi]
   have e2:=z0S i
   obtain ⟨a,ha⟩:∃ a,f.Areas[i]=a:=⟨_,rfl⟩
   have hgd:f.Areas.getD i ⟨⟨0,0⟩,⟨0,0⟩,⟨0,0⟩,0⟩=a:=(X0 _ _ _ hi).trans ha
   rw [List.drop_eq_getElem_cons hi,ha,List.find?_cons] at hb
   have hin:X4c a p=(inN p.X a.X.Lo a.X.Hi&&inN p.Y a.Y.Lo a.Y.Hi):=by
    unfold X4c inN
    rw [Bool.eq_iff_iff]
    simp<;>omega
   simp only [Wl,Wx,kS,hgd,hw,e1,e2,Bool.and_self,cond_true,W2,jS]
   cases c1:inN p.X a.X.Lo a.X.Hi
   ·right
    rw [hin,c1] at hb
    exact ⟨(),rfl,by simpa using hb⟩
   ·simp only [cond_true]
    cases c2:inN p.Y a.Y.Lo a.Y.Hi
    ·right
     rw [hin,c1,c2] at hb
     exact ⟨(),rfl,by simpa using hb⟩
    ·left
     rw [hin,c1,c2] at hb
     exact ⟨_,rfl,.inr ⟨i,hi,rfl,by rw [hgd];simpa using hb⟩⟩) 0 () (by omega) rfl
 have h1':X2N p f 0=some w:=h1
 rw [h1']
 simp only [jS]
 rcases h2 with ⟨h3,h4⟩|⟨k,h3,h4,h5⟩
 ·subst h3
  exact ⟨-1,rfl,.inl ⟨by omega,h4⟩⟩
 ·subst h4
  exact ⟨(k:Int),rfl,.inr ⟨by omega,by simpa using h3,by simpa using h5⟩⟩
end Nore
open Go Go.Ab Go.Proofs.YtehofdemanfenaaGreat
namespace Nore
def X5S (s:ZE) (n:Int):Int:=s.Lo+Int.tmod n (s.Hi-s.Lo+1)
theorem X8l {s:ZE} (h : -1000000≤s.Lo∧s.Lo≤s.Hi∧s.Hi≤1000000) {n:Int} (hn:0≤n):X42 s n=some (X5S s n)∧s.Lo≤X5S s n∧X5S s n≤s.Hi:=by
 have t:=X4I n (s.Hi-s.Lo+1) hn (by omega)
 rw [X64];unfold X2g X5S
 rw [w64 (x:=s.Hi-s.Lo) (by omega) (by omega),w64 (x:=s.Hi-s.Lo+1) (by omega) (by omega),X3I (by omega),w64 (x:=s.Lo+Int.tmod n (s.Hi-s.Lo+1)) (by omega) (by omega)]
 exact ⟨rfl,by omega,by omega⟩
def X4K (f:ZJ) (x:Z4) (k:Nat):Int:=X5S (X2o f k) (X8Y x.Offs k)
theorem X8B {f:ZJ} (hg:Wn f) (x:Z4) (hx:∀ v∈x.Offs,0≤v∧v≤65535) (k:Nat) (hk:k<f.Instruments.length):X5d f x (k:Int)=some (X4K f x k)∧inS (X4K f x k) (X2o f k):=by
 rw [X76];unfold X2T X4K
 have i1:decide ((0:Int)≤(k:Int))=true:=by simp
 have i2:decide ((k:Int)<(f.Instruments.length:Int))=true:=by simp [hk]
 have hgd:f.Instruments.getD k ⟨ByteArray.empty,false,⟨0,0⟩⟩=f.Instruments[k]:=X0 _ _ _ hk
 obtain ⟨t1,t2,t3⟩:=X9S x.Offs hx k
 have ho:=hg.off _ (List.getElem_mem hk)
 have hfb:0≤X3Y f.Instruments[k]∧X3Y f.Instruments[k]≤20:=by unfold X3Y;split<;>omega
 have hof:X2o f k=f.Instruments[k].Off:=by unfold X2o;rw [dif_pos hk]
 obtain ⟨a1,a2,a3⟩:=X8l (s:=f.Instruments[k].Off) (by omega) t2
 simp only [i1,i2,Bool.and_self,cond_true,t1,jS,kS,hgd,a1,hof]
 exact ⟨trivial,a2,a3⟩
theorem X80 {f:ZJ} (hg:Wn f) (mark:Int) (h0:0≤mark) (h1:mark<f.Chart.Marks.length) (p:Zu):X5x f.Chart f.Day mark p=some (X52 f mark p):=by
 have hM:=hg.marks
 have hday:=hg.day
 have hb:=X7K hg h0 h1
 have hj:mark.toNat<f.Chart.Marks.length:=by omega
 have hmk:=(hg.mark _ (List.getElem_mem hj)).2
 have hmp:(Z8y f mark).Paints.length≤4:=by unfold Z8y;rw [X0 _ _ _ hj];exact hmk
 have i1:decide (0≤mark)=true:=by simp;omega
 have i2:decide (mark<(f.Chart.Marks.length:Int))=true:=by simp;omega
 have hgm:f.Chart.Marks.getD mark.toNat ⟨ByteArray.empty,⟨0,0⟩,[]⟩=Z8y f mark:=rfl
 rw [X6F];unfold X2B
 rw [X4Z];unfold X1j
 rw [X6c];unfold X2i
 rw [X6a]
 have hck:=hg.chart
 simp only [jS,hck,beq_self_eq_true,cond_true]
 rw [Wv,Wv]
 have d1:inN f.Day 0 40000=true:=by unfold inN;simp;omega
 have w1:IntKind.wrap .i64 ((f.Chart.Marks.length:Int)-1)=(f.Chart.Marks.length:Int)-1:=by rw [w64]<;>omega
 have d2:inN mark 0 ((f.Chart.Marks.length:Int)-1)=true:=by unfold inN;simp;omega
 rw [w1,d1,d2]
 simp only [jS,Bool.not_true,cond_false,beq_self_eq_true,cond_true,i1,i2,Bool.and_self,hgm]
 rw [X4X _ _ (by omega)]
 unfold X52 X3H
 simp only [jS]
 by_cases hp:X4z (Z8y f mark) f.Day=0
 ·simp [hp]
 ·simp only [X3I hp,cond_false,jS,beq_self_eq_true,cond_true,W8 hp,Bool.true_eq_false,if_false,i1,i2,Bool.and_self,hgm]
  rw [X4d p 30000 (by omega)]
  simp only [jS]
  cases hf:X3k 30000 p
  ·rw [X6V] at hf
   unfold Bd at hb hf
   simp only [Bool.not_false,Bool.not_true,cond_false,Bool.false_eq_true,if_false,Bool.and_true]
   by_cases he:(Z8y f mark).At=p
   ·rw [he];simp
   ·have:((Z8y f mark).At.X==p.X&&(Z8y f mark).At.Y==p.Y)=false:=by
     cases hc:((Z8y f mark).At.X==p.X&&(Z8y f mark).At.Y==p.Y)
     ·rfl
     ·exfalso;simp at hc;exact he (Zu.ext hc.1 hc.2)
    rw [this,if_neg he]
    simp only [cond_false,bne_self_eq_false]
    rw [w64 (x:=(Z8y f mark).At.X-p.X) (by omega) (by omega),w64 (x:=(Z8y f mark).At.Y-p.Y) (by omega) (by omega)]
    have h00:¬ ((Z8y f mark).At.X-p.X=0∧(Z8y f mark).At.Y-p.Y=0):=fun q=>he (Zu.ext (by omega) (by omega))
    rw [X7j (by simp only;omega) h00]
    rfl
  ·simp
structure X8k (f:ZJ) (x:Z4) (l:List Zn):Prop where
 len:l.length≤8
 each:∀ s∈l,XB f s=0
 true_:∀ s∈l,(X2n f (atP f x) s).2=true∧inS (X4K f x s.Instrument.toNat) (X2n f (atP f x) s).1
theorem X7l {f:ZJ} {x:Z4} {b:List Zn} (hb:X8k f x b) {s:Zn} (hc:(Xg f (b++[s])).2=0) (hs:XB f s=0→(X2n f (atP f x) s).2=true∧inS (X4K f x s.Instrument.toNat) (X2n f (atP f x) s).1):X8k f x (b++[s]):=by
 have hg:=X41 hc
 refine ⟨hg.len,hg.each,fun y hy => ?_⟩
 rcases List.mem_append.1 hy with h|h
 ·exact hb.true_ y h
 ·rw [List.mem_singleton] at h
  subst h
  exact hs (hg.each _ (by simp))
theorem X9R {f:ZJ} (hg:Wn f) (x:Z4) (hp:∀ j,j<2→0≤x.Place j∧x.Place j≤255) (ho:∀ v∈x.Offs,0≤v∧v≤65535) (ht:∀ v∈x.Taken,0≤v∧v≤65535) (htl:x.Taken.length≤1000000000000000000):∃ l,X5t f x=some l∧X8k f x l:=by
 have hI:=hg.inst
 have hM:=hg.marks
 obtain ⟨a1,a2⟩:=X9L hg x hp
 rw [X6z];unfold X2x
 rw [a1]
 simp only [jS]
 have hbd:=X9o hg a2
 have hbd3:Bd 30000 (atP f x):=by unfold Bd at *;omega
 obtain ⟨w,h1,h2⟩:=X85 (XQ (atP f x) x f) (x.Taken.length / 3+1) (fun i (b:List Zn)=>(((3*i:Nat):Int),b)) (fun _ b=>X8k f x b) (fun w=>X8k f x w)
  (fun b hb=>by
   have e:decide (IntKind.wrap .i64 (((3*(x.Taken.length / 3+1):Nat):Int)+2)<(x.Taken.length:Int))=false:=by
    rw [w64 (by omega) (by omega)];simp;omega
   exact ⟨b,by simp only [XQ,XD,e,cond_false],hb⟩)
  (fun i b hi hb=>by
   have hw2:IntKind.wrap .i64 (((3*i:Nat):Int)+2)=((3*i+2:Nat):Int):=by rw [w64]<;>omega
   have hw1:IntKind.wrap .i64 (((3*i:Nat):Int)+1)=((3*i+1:Nat):Int):=by rw [w64]<;>omega
   have hw3:IntKind.wrap .i64 (((3*i:Nat):Int)+3)=((3*(i+1):Nat):Int):=by rw [w64]<;>omega
   by_cases c1:3*i+2<x.Taken.length
   rotate_left
   ·left
    have e:decide (((3*i+2:Nat):Int)<(x.Taken.length:Int))=false:=by simp;omega
    exact ⟨b,by simp only [XQ,XD,hw2,e,cond_false],hb⟩
   ·by_cases c2:b.length<8
    rotate_left
    ·left
     have e:decide (((3*i+2:Nat):Int)<(x.Taken.length:Int))=true:=by simp;omega
     have e2:decide ((b.length:Int)<8)=false:=by simp;omega
     exact ⟨b,by simp only [XQ,XD,hw2,e,e2,cond_false,cond_true],hb⟩
    ·right
     have e:decide (((3*i+2:Nat):Int)<(x.Taken.length:Int))=true:=by simp;omega
     have e2:decide ((b.length:Int)<8)=true:=by simp;omega
     have e3:decide ((0:Int)≤((3*i:Nat):Int))=true:=by simp;omega
     have e4:decide (((3*i:Nat):Int)<(x.Taken.length:Int))=true:=by simp;omega
     have e5:decide ((0:Int)≤((3*i+1:Nat):Int))=true:=by simp;omega
     have e6:decide (((3*i+1:Nat):Int)<(x.Taken.length:Int))=true:=by simp;omega
     have e7:decide ((0:Int)≤((3*i+2:Nat):Int))=true:=by simp;omega
     have ei:((f.Instruments.length:Int)==0)=false:=X3I (by omega)
     have u0:=ht _ (List.getElem_mem (show 3*i<x.Taken.length by omega))
     have u1:=ht _ (List.getElem_mem (show 3*i+1<x.Taken.length by omega))
     have u2:=ht _ (List.getElem_mem c1)
     have g0:x.Taken.getD (3*i) 0=x.Taken[3*i]:=X0 _ _ _ (by omega)
     have g1:x.Taken.getD (3*i+1) 0=x.Taken[3*i+1]:=X0 _ _ _ (by omega)
     have g2:x.Taken.getD (3*i+2) 0=x.Taken[3*i+2]:=X0 _ _ _ c1
     generalize x.Taken[3*i]=t0 at *
     generalize x.Taken[3*i+1]=t1 at *
     generalize x.Taken[3*i+2]=t2 at *
     have ww0:IntKind.wrap .i64 t0=t0:=by rw [w64]<;>omega
     have ww1:IntKind.wrap .i64 t1=t1:=by rw [w64]<;>omega
     have ww2:IntKind.wrap .i64 t2=t2:=by rw [w64]<;>omega
     have k0:=X4I t0 (f.Instruments.length:Int) u0.1 (by omega)
     obtain ⟨k,hk⟩:∃ k:Nat,Int.tmod t0 (f.Instruments.length:Int)=(k:Int):=⟨(Int.tmod t0 (f.Instruments.length:Int)).toNat,by omega⟩
     rw [hk] at k0
     have hkl:k<f.Instruments.length:=by omega
     obtain ⟨o1,o2⟩:=X8B hg x ho k hkl
     have i1:decide ((0:Int)≤(k:Int))=true:=by simp
     have i2:decide ((k:Int)<(f.Instruments.length:Int))=true:=by simp [hkl]
     have hgi:f.Instruments.getD k ⟨ByteArray.empty,false,⟨0,0⟩⟩=X1s f (k:Int):=rfl
     have hfo:=hg.off _ (List.getElem_mem hkl)
     have hfb:0≤X3Y f.Instruments[k]∧X3Y f.Instruments[k]≤20:=by unfold X3Y;split<;>omega
     have hof:X2o f k=f.Instruments[k].Off:=by unfold X2o;rw [dif_pos hkl]
     have hio:X1s f (k:Int)=f.Instruments[k]:=X0 _ _ _ hkl
     have o2':=o2
     unfold inS at o2'
     rw [hof] at o2'
     have ble1:Nat.ble ((0+b.length)*(32+1)) 200000000000000=true:=by apply Nat.ble_eq_true_of_le;omega
     have ble2:∀ s:Zn,Nat.ble (([]++b).length+[s].length |> fun z=>z*(32+1)) 200000000000000=true:=fun s=>by
      apply Nat.ble_eq_true_of_le;simp;omega
     have ble2':∀ s:Zn,Nat.ble ((([]++b).length+[s].length)*(32+1)) 200000000000000=true:=ble2
     have ble3:∀ s:Zn,Nat.ble ((b.length+[s].length)*(32+1)) 200000000000000=true:=fun s=>by
      apply Nat.ble_eq_true_of_le;simp;omega
     simp only [XQ,XD,hw1,hw2,hw3,e,e2,e3,e4,e5,e6,e7,ei,Bool.and_self,cond_true,cond_false,kS,g0,g1,g2,ww0,ww1,ww2,hk,o1,jS,i1,i2,hgi]
     cases hL:(X1s f (k:Int)).Lead
     ·simp only [cond_false]
      by_cases hm0:f.Chart.Marks.length=0
      ·have em:((f.Chart.Marks.length:Int)==0)=true:=by simp;exact List.eq_nil_of_length_eq_zero hm0
       rw [em]
       exact ⟨b,rfl,hb⟩
      ·have em:((f.Chart.Marks.length:Int)==0)=false:=X3I (by omega)
       have m0:=X4I t1 (f.Chart.Marks.length:Int) u1.1 (by omega)
       generalize hmk:Int.tmod t1 (f.Chart.Marks.length:Int)=mk at *
       simp only [em,cond_false]
       rw [X80 hg mk m0.1 m0.2]
       simp only [jS]
       by_cases hse:(X52 f mk (atP f x)).2=0
       ·have hsn:X3N f mk (atP f x)=(X52 f mk (atP f x)).1:=by unfold X3N;rw [if_neg (by simp [hse])]
        have hsb:=X9q hg m0.1 m0.2 (atP f x)
        have hs0:0≤X3N f mk (atP f x):=by
         unfold X52 at hse hsn
         by_cases q1:X3H f mk=false
         ·rw [if_pos q1] at hse;simp at hse
         ·rw [if_neg q1] at hse hsn
          by_cases q2:X3k 30000 (atP f x)=true
          ·rw [if_pos q2] at hse;simp at hse
          ·rw [if_neg q2] at hse hsn
           by_cases q3:(Z8y f mk).At=atP f x
           ·rw [if_pos q3] at hse;simp at hse
           ·rw [if_neg q3] at hsn
            rw [hsn]
            have hb':=X7K hg m0.1 m0.2
            unfold Bd at hb' hbd
            have:=X8U (v:=XT (Z8y f mk).At (atP f x)) (by unfold XT;simp only;omega) (fun q=>q3 (by unfold XT at q;simp only at q;exact Zu.ext (by omega) (by omega)))
            exact this.1
        have eb:((X52 f mk (atP f x)).2 != 0)=false:=by rw [hse];rfl
        rw [←hsn]
        have hf4:X3Y f.Instruments[k]=4:=by unfold X3Y;rw [←hio,hL];rfl
        rw [hf4] at hfo
        generalize hss:X3N f mk (atP f x)=s at *
        have w1:IntKind.wrap .i64 (s+X4K f x k)=s+X4K f x k:=by rw [w64]<;>omega
        have w2:IntKind.wrap .i64 (s+X4K f x k+32)=s+X4K f x k+32:=by rw [w64]<;>omega
        have w3:Int.tmod (s+X4K f x k+32) 32=(s+X4K f x k+32) % 32:=Int.tmod_eq_emod_of_nonneg (by omega)
        simp only [eb,cond_false,w1,w2,w3,ble1,ble2',ble3,cond_true]
        rw [X4x]
        simp only [jS,List.nil_append]
        by_cases hck:(Xg f (b++[⟨(k:Int),mk,(s+X4K f x k+32) % 32,0⟩])).2=0
        ·simp only [hck,decide_true,cond_true]
         refine ⟨_,rfl,X7l hb hck fun _ => ?_⟩
         unfold X2n
         rw [hL]
         simp only [Bool.false_eq_true,if_false,hss]
         refine ⟨by simp;omega,?_⟩
         unfold inS X9Y
         simp only [kS]
         split<;>omega
        ·simp only [hck,decide_false,cond_false]
         exact ⟨b,rfl,hb⟩
       ·have eb:((X52 f mk (atP f x)).2 != 0)=true:=W8 hse
        rw [eb]
        exact ⟨b,rfl,hb⟩
     ·simp only [cond_true]
      have hf20:X3Y f.Instruments[k]=20:=by unfold X3Y;rw [←hio,hL];rfl
      rw [hf20] at hfo
      obtain ⟨ak,ak1,ak2⟩:=X93 (f:=f) hg.areas (atP f x)
      rw [ak1]
      simp only [jS]
      rcases ak2 with ⟨ak2,ak3⟩|⟨ak2,ak3,ak4⟩
      ·have ea:decide (ak≥0)=false:=by simp;omega
       have d0:=X4I t1 1001 u1.1 (by omega)
       have w1:IntKind.wrap .i64 (Int.tmod t1 1001+X4K f x k)=Int.tmod t1 1001+X4K f x k:=by rw [w64]<;>omega
       simp only [ea,cond_false,w1,ble1,ble2',ble3,cond_true]
       rw [X4x]
       simp only [jS,List.nil_append]
       by_cases hck:(Xg f (b++[⟨(k:Int),0,Int.tmod t1 1001+X4K f x k,0⟩])).2=0
       ·simp only [hck,decide_true,cond_true]
        refine ⟨_,rfl,X7l hb hck fun _ => ?_⟩
        unfold X2n
        rw [hL,ak3]
        simp only [if_true]
        refine ⟨trivial,?_⟩
        unfold inS
        simp only [kS]
        omega
       ·simp only [hck,decide_false,cond_false]
        exact ⟨b,rfl,hb⟩
      ·have ea:decide (ak≥0)=true:=by simp;omega
       have ea1:decide (0≤ak)=true:=by simp;omega
       have ea2:decide (ak<(f.Areas.length:Int))=true:=by simp;omega
       have ha:=X9n (hg.area _ (List.getElem_mem ak3))
       rw [X0 _ _ _ ak3] at ak4
       have hga:f.Areas.getD ak.toNat ⟨⟨0,0⟩,⟨0,0⟩,⟨0,0⟩,0⟩=f.Areas[ak.toNat]:=X0 _ _ _ ak3
       generalize f.Areas[ak.toNat]=a at *
       obtain ⟨am1,am2,am3⟩:=X8l (s:=a.Depth) (n:=t1) (by omega) u1.1
       have d2:=X4I t2 2 u2.1 (by omega)
       have mb:=X3U (a:=Int.tmod t2 2) (b:=a.Ground) 2 4 (by omega) (by omega) (by omega) (by omega)
       have w1:IntKind.wrap .i64 (X5S a.Depth t1+X4K f x k)=X5S a.Depth t1+X4K f x k:=by rw [w64]<;>omega
       have w2:IntKind.wrap .i64 (Int.tmod t2 2*a.Ground)=Int.tmod t2 2*a.Ground:=by rw [w64]<;>omega
       simp only [ea,ea1,ea2,hga,am1,Bool.and_self,cond_true,jS,w1,w2,ble1,ble2',ble3]
       rw [X4x]
       simp only [jS,List.nil_append]
       by_cases hck:(Xg f (b++[⟨(k:Int),0,X5S a.Depth t1+X4K f x k,Int.tmod t2 2*a.Ground⟩])).2=0
       ·simp only [hck,decide_true,cond_true]
        refine ⟨_,rfl,X7l hb hck fun _ => ?_⟩
        unfold X2n
        rw [hL,ak4]
        simp only [if_true]
        have hgr:Int.tmod t2 2=0∨Int.tmod t2 2=1:=by omega
        refine ⟨?_,?_⟩
        ·rcases hgr with h|h<;>simp [h]
        ·unfold inS
         simp only [kS]
         omega
       ·simp only [hck,decide_false,cond_false]
        exact ⟨b,rfl,hb⟩) 0 [] (by omega) ⟨by simp,by simp,by simp⟩
 have h1':X3D (atP f x) x f (0,[])=some w:=h1
 rw [h1']
 exact ⟨w,rfl,h2⟩
end Nore
open Go Go.Ab Go.Proofs.YtehofdemanfenaaGreat
namespace Nore
theorem X6P (n:Int) (s:ZE):X2G n s=some (decide (s.Lo≤n)&&decide (n≤s.Hi)):=by
 rw [X5K];unfold X20
 by_cases h:s.Lo≤n<;>simp [h]
theorem Xa1 {f:ZJ} (hg:Wn f) {x:Z4} (hx:∀ v∈x.Offs,0≤v∧v≤65535) {l:List Zn} (h:X8k f x l):(atN f l (atP f x) 0 0).2=true∧∀ i,i<f.Instruments.length→Num f l (atP f x) 0 0 i (X4K f x i):=by
 have key:∀ i,i<f.Instruments.length→Num f l (atP f x) 0 0 i (X4K f x i):=fun i hi =>
  ⟨(X8B hg x hx i hi).2,fun s hs _ he=>by have:=h.true_ s hs;rw [he] at this;exact this⟩
 refine ⟨?_,key⟩
 rw [Xa3 hg]
 intro i
 by_cases c:i<f.Instruments.length
 ·exact ⟨_,key i c⟩
 ·refine ⟨0,?_,fun s hs _ he => ?_⟩
  ·unfold inS X2o
   rw [dif_neg c];simp
  ·exfalso
   have:=(X75 (h.each s hs)).2
   omega
theorem X8s (f:ZJ) (x:Z4) (hx:Z4.Ok limW x):X3W f x=some true:=by
 have hp:∀ j,j<2→0≤x.Place j∧x.Place j≤255:=fun j hj=>Xa9 (hx.1 j hj)
 have ho:∀ v∈x.Offs,0≤v∧v≤65535:=fun v hv=>X9T (hx.2.1.2 v hv)
 have ht:∀ v∈x.Taken,0≤v∧v≤65535:=fun v hv=>X9T (hx.2.2.1.2 v hv)
 have htl:x.Taken.length≤1000000000000000000:=Nat.le_trans hx.2.2.1.1 (by decide)
 rw [X5b];unfold X1I
 rw [X7G]
 simp only [jS]
 by_cases hf:(X1P f).2.2=0
 ·have hg:=X74 hf
  have hI:=hg.inst
  simp only [hf,decide_true,Bool.not_true,cond_false]
  obtain ⟨l,hl,hts⟩:=X9R hg x hp ho ht htl
  obtain ⟨a1,a2⟩:=X9L hg x hp
  obtain ⟨t1,t2⟩:=Xa1 hg ho hts
  have hc:(Xg f l).2=0:=X95 hf hts.len hts.each
  have hbd:=X9o hg a2
  have hm:atP f x∈Xu f l:=X9b.2 ⟨a2,t1⟩
  have hne:Xu f l≠[]:=fun h=>by rw [h] at hm;cases hm
  have hlen:¬ (Xu f l).length=0:=fun h=>hne (List.eq_nil_of_length_eq_zero h)
  have hpl:=X7X hg l
  rw [hl,a1]
  simp only [jS]
  rw [X5X,X8c]
  simp only [jS]
  rw [X8x]
  simp only [jS]
  rw [X8d]
  have hfo:X4 (-30000) 30000 [(atP f x).X,(atP f x).Y]=false:=by unfold Bd at hbd;simp;omega
  have hw:X5A f l=[]:=X9J hg hts.each hne
  have hsl:(X37 f l (atP f x)).length=f.Instruments.length:=by unfold X37;simp
  simp only [hc,hlen,hfo,t1,hw,if_true,if_false,Bool.false_eq_true,jS,bne_self_eq_false,cond_false]
  have e1':(X5v f [])=[]:=rfl
  have e2':(X5s f [])=[]:=rfl
  rw [e1',e2']
  simp only [List.length_nil,show decide (((0:Nat):Int)>0)=false from rfl,cond_false,hsl,bne_self_eq_false]
  obtain ⟨w,h1,h2⟩:=X85 (W6 (X37 f l (atP f x)) x f) (X37 f l (atP f x)).length (fun i (_:Unit)=>(i:Int)) (fun _ _=>True) (fun w=>w = .inr ())
   (fun _ _=>⟨.inr (),by simp [W6,Wa],rfl⟩)
   (fun i _ hi _=>by
    right
    refine ⟨(),?_,trivial⟩
    have hi':i<f.Instruments.length:=by omega
    have hw:=wS i (by omega)
    have e1:decide ((i:Int)<↑(X37 f l (atP f x)).length)=true:=by simp;omega
    have e2:=z0S i
    have hsp:(X37 f l (atP f x)).getD i ⟨0,0⟩=(atN f l (atP f x) 0 0).1 i:=by
     unfold X37;rw [List.getD_eq_getElem?_getD,List.getElem?_map,List.getElem?_range hi'];rfl
    have hin:=((X9W hg t1 i).2 _).2 (t2 i hi')
    unfold inS at hin
    simp only [W6,Wa,e1,e2,hw,cond_true,Bool.and_self,(X8B hg x ho i hi').1,jS,kS,hsp]
    rw [X6P]
    have d1:decide (((atN f l (atP f x) 0 0).1 i).Lo≤X4K f x i)=true:=by simp;omega
    have d2:decide (X4K f x i≤((atN f l (atP f x) 0 0).1 i).Hi)=true:=by simp;omega
    simp [d1,d2]) 0 () (by omega) trivial
  have h1':X2w (X37 f l (atP f x)) x f 0=some w:=h1
  rw [h1',h2]
  simp only [jS,Sum.elim_inr]
  rw [X8e _ _ (by omega)]
  simp only [hm,decide_true,jS,cond_true]
  obtain ⟨b1,_⟩:=X9N hne
  have b2:=b1 _ hm
  rw [X6P]
  have d1:decide ((X3h (Xu f l)).X.Lo≤(atP f x).X)=true:=by simp;omega
  have d2:decide ((atP f x).X≤(X3h (Xu f l)).X.Hi)=true:=by simp;omega
  have d3:decide ((X3h (Xu f l)).Y.Lo≤(atP f x).Y)=true:=by simp;omega
  have d4:decide ((atP f x).Y≤(X3h (Xu f l)).Y.Hi)=true:=by simp;omega
  rw [d1,d2]
  simp only [Bool.and_self,jS,cond_true]
  rw [X6P,d3,d4]
  rfl
 ·simp only [hf,decide_false,Bool.not_false,cond_true]
  rw [X5X]
  have hc:(Xg f []).2≠0:=by
   unfold Xg
   rw [if_pos hf];exact hf
  simp [hc,W8 hc]
end Nore
