/- The plain functions of the program and of the document answer alike. -/
import Derived.Test.YtehofdemanfenaaGreatD
import Derived.Test.YtehofdemanfenaaGreatY
set_option linter.unusedSectionVars false
set_option linter.unusedVariables false
set_option linter.unusedSimpArgs false
namespace Nore.Geo
def vxL:List Int:=[0,195,383,556,707,831,924,981,1000,981,924,831,707,556,383,195,0,-195,-383,-556,-707,-831,-924,-981,-1000,-981,-924,-831,-707,-556,-383,-195]
def vyL:List Int:=[1000,981,924,831,707,556,383,195,0,-195,-383,-556,-707,-831,-924,-981,-1000,-981,-924,-831,-707,-556,-383,-195,0,195,383,556,707,831,924,981]
def vx (p:Nat):Int:=vxL.getD p 0
def vy (p:Nat):Int:=vyL.getD p 0
def crs (p:Nat) (X Y:Int):Int:=vx p*Y-vy p*X
def cc (p q:Nat):Int:=vx p*vy q-vy p*vx q
theorem plucker (t u p:Nat) (X Y:Int):cc u t*crs p X Y=cc p t*crs u X Y+(- crs t X Y)*cc p u:=by
 unfold cc crs
 generalize vx t=a,vy t=b,vx u=c,vy u=d,vx p=e,vy p=f
 grind
def Tow (t:Nat) (X Y:Int):Prop:=crs t X Y≤0∧crs ((t+1) % 32) X Y>0
theorem tab0:∀ t,t<32→cc ((t+1) % 32) t>0:=by decide
theorem tab1:∀ t,t<32→∀ j,j<15→cc ((t+(j+1)) % 32) t>0∧cc ((t+(j+1)) % 32) ((t+1) % 32)≥0:=by decide
theorem tab2:∀ t,t<32→∀ j,j<16→cc ((t+(j+17)) % 32) t≤0∧cc ((t+(j+17)) % 32) ((t+1) % 32)≤0:=by decide
theorem tow_pos {t:Nat} {X Y:Int} (ht:t<32) (h:Tow t X Y) (j:Nat) (h1:1≤j) (h2:j≤15):crs ((t+j) % 32) X Y>0:=by
 obtain ⟨ha,hb⟩:=h
 have k0:=tab0 t ht
 have k1:=tab1 t ht (j-1) (by omega)
 rw [show j-1+1=j by omega] at k1
 have e:=plucker t ((t+1) % 32) ((t+j) % 32) X Y
 generalize crs ((t+j) % 32) X Y=z at *
 generalize crs ((t+1) % 32) X Y=y at *
 generalize crs t X Y=x at *
 obtain ⟨k1,k2⟩:=k1
 generalize cc ((t+1) % 32) t=K at *
 generalize cc ((t+j) % 32) t=A at *
 generalize cc ((t+j) % 32) ((t+1) % 32)=B at *
 have p1:A*y>0:=Int.mul_pos k1 hb
 have p2:(-x)*B≥0:=Int.mul_nonneg (by omega) k2
 have p3:K*z>0:=by omega
 exact Int.pos_of_mul_pos_right p3 k0 |> fun h=>h
theorem tow_neg {t:Nat} {X Y:Int} (ht:t<32) (h:Tow t X Y) (j:Nat) (h1:17≤j) (h2:j≤32):crs ((t+j) % 32) X Y≤0:=by
 obtain ⟨ha,hb⟩:=h
 have k0:=tab0 t ht
 have k1:=tab2 t ht (j-17) (by omega)
 rw [show j-17+17=j by omega] at k1
 have e:=plucker t ((t+1) % 32) ((t+j) % 32) X Y
 generalize crs ((t+j) % 32) X Y=z at *
 generalize crs ((t+1) % 32) X Y=y at *
 generalize crs t X Y=x at *
 obtain ⟨k1,k2⟩:=k1
 generalize cc ((t+1) % 32) t=K at *
 generalize cc ((t+j) % 32) t=A at *
 generalize cc ((t+j) % 32) ((t+1) % 32)=B at *
 have p1:A*y≤0:=Int.mul_nonpos_of_nonpos_of_nonneg k1 (by omega)
 have p2:(-x)*B≤0:=Int.mul_nonpos_of_nonneg_of_nonpos (by omega) k2
 have p3:K*z≤0:=by omega
 apply Int.not_lt.1
 intro hz
 have:=Int.mul_pos k0 hz
 omega
theorem tow_sign {t:Nat} {X Y:Int} (ht:t<32) (h:Tow t X Y) (p:Nat) (hp:p<32) (hne:p≠(t+16) % 32):(crs p X Y>0)↔(1≤(p+32-t) % 32∧(p+32-t) % 32≤15):=by
 have hj:(t+(p+32-t) % 32) % 32=p:=by omega
 constructor
 ·intro hs
  by_cases h1:1≤(p+32-t) % 32∧(p+32-t) % 32≤15
  ·exact h1
  ·exfalso
   by_cases h0:(p+32-t) % 32=0
   ·have:p=t:=by omega
    subst this
    have:=h.1
    omega
   ·have:=tow_neg ht h ((p+32-t) % 32) (by omega) (by omega)
    rw [hj] at this
    omega
 ·intro h1
  have:=tow_pos ht h _ h1.1 h1.2
  rw [hj] at this
  exact this
theorem tow_unique {t u:Nat} {X Y:Int} (ht:t<32) (hu:u<32) (h:Tow t X Y) (h':Tow u X Y):u=t:=by
 have a:=tow_sign ht h u hu
 have b:=tow_sign ht h ((u+1) % 32) (by omega)
 have a':=h'.1
 have b':=h'.2
 by_cases e:u=(t+16) % 32
 ·have e2:(u+1) % 32≠(t+16) % 32:=by omega
  have:=(b e2).1 b'
  omega
 ·by_cases e2:(u+1) % 32=(t+16) % 32
  ·have e3:(u+32-t) % 32=15:=by omega
   have:=(a e).2 (by omega)
   omega
  ·have:=(b e2).1 b'
   have e3:¬ (1≤(u+32-t) % 32∧(u+32-t) % 32≤15):=fun hh=>by have:=(a e).2 hh;omega
   omega
theorem opp:∀ p,p<16→vx (p+16) = - vx p∧vy (p+16) = - vy p:=by decide
theorem tow_exists {X Y:Int} (h:X≠0∨Y≠0):∃ t,t<32∧Tow t X Y:=by
 by_cases hx:∃ t,t<32∧Tow t X Y
 ·exact hx
 ·exfalso
  have hn:∀ t,t<32→crs t X Y≤0→crs ((t+1) % 32) X Y≤0:=fun t ht h1=>by
   apply Int.not_lt.1
   intro h2
   exact hx ⟨t,ht,h1,h2⟩
  have all:∀ t,t<32→crs t X Y≤0→∀ j,crs ((t+j) % 32) X Y≤0:=fun t ht h1 j=>by
   induction j with
   | zero=>rw [show (t+0) % 32=t by omega];exact h1
   | succ j ih =>
    have:=hn ((t+j) % 32) (by omega) ih
    rw [show ((t+j) % 32+1) % 32=(t+(j+1)) % 32 by omega] at this
    exact this
  have o:=opp
  have c0:crs 0 X Y = - (1000*X):=by unfold crs;simp only [show vx 0=0 from rfl,show vy 0=1000 from rfl];omega
  have c8:crs 8 X Y=1000*Y:=by unfold crs;simp only [show vx 8=1000 from rfl,show vy 8=0 from rfl];omega
  have c16:crs 16 X Y=1000*X:=by unfold crs;simp only [show vx 16=0 from rfl,show vy 16 = -1000 from rfl];omega
  have c24:crs 24 X Y = - (1000*Y):=by unfold crs;simp only [show vx 24 = -1000 from rfl,show vy 24=0 from rfl];omega
  have z:∃ t,t<32∧crs t X Y≤0:=by
   by_cases h0:crs 0 X Y≤0
   ·exact ⟨0,by omega,h0⟩
   ·exact ⟨16,by omega,by omega⟩
  obtain ⟨t,ht,h1⟩:=z
  have r:∀ p,p<32→crs p X Y≤0:=fun p hp=>by
   have:=all t ht h1 (p+32-t)
   rw [show (t+(p+32-t)) % 32=p by omega] at this
   exact this
  have r0:=r 0 (by omega)
  have r8:=r 8 (by omega)
  have r16:=r 16 (by omega)
  have r24:=r 24 (by omega)
  omega
def isTow (X Y:Int) (t:Nat):Bool:=decide (crs t X Y≤0)&&decide (crs ((t+1) % 32) X Y>0)
def tow (X Y:Int):Nat:=((List.range 32).find? (isTow X Y)).getD 0
theorem isTow_iff {X Y:Int} {t:Nat}:isTow X Y t=true↔Tow t X Y:=by simp [isTow,Tow]
theorem tow_spec {X Y:Int} (h:X≠0∨Y≠0):tow X Y<32∧Tow (tow X Y) X Y:=by
 obtain ⟨t,ht,hT⟩:=tow_exists h
 unfold tow
 cases hf:(List.range 32).find? (isTow X Y) with
 | none =>
  rw [List.find?_eq_none] at hf
  exact absurd (isTow_iff.2 hT) (hf t (by simp [ht]))
 | some u =>
  have h1:=List.find?_some hf
  have h2:=List.mem_of_find?_eq_some hf
  simp only [Option.getD_some]
  exact ⟨by simpa using h2,isTow_iff.1 h1⟩
theorem tow_eq {X Y:Int} {t:Nat} (ht:t<32) (hT:Tow t X Y):tow X Y=t:=by
 have h:X≠0∨Y≠0:=by
  apply Classical.byContradiction
  intro hc
  have:X=0∧Y=0:=by omega
  obtain ⟨rfl,rfl⟩:=this
  have:=hT.2
  simp [crs] at this
 have:=tow_spec h
 exact tow_unique ht this.1 hT this.2
end Nore.Geo
open Go Go.Ab
namespace Nore
theorem w64 {x:Int} (h1 : -9223372036854775808≤x) (h2:x≤9223372036854775807):IntKind.wrap .i64 x=x:=by
 simp only [IntKind.wrap,IntKind.signed,IntKind.bits]
 simp
 omega
theorem jS {α β:Type} (a:α) (f:α→Option β):Option.bind (some a) f=f a:=rfl
theorem kS (n:Nat):Int.toNat (n:Int)=n:=rfl
theorem wS (i:Nat) (h:i<9223372036854775807):IntKind.wrap .i64 ((i:Int)+1)=((i+1:Nat):Int):=by rw [w64]<;>omega
theorem z0S (i:Nat):decide ((0:Int)≤↑i)=true:=by simp
theorem X4p {σ ω γ:Type} (st:σ→Option (σ⊕ω)) (k:ω→Option γ) (s:σ):Option.bind (Z8N st s) k=Option.bind (st s) (Sum.elim (fun s'=>Option.bind (Z8N st s') k) k):=by
 rw [ZgL]
 cases st s with
 | none=>rfl
 | some r=>cases r<;>rfl
theorem X5 {β σ ω γ:Type} (st:σ→Option (σ⊕ω)) (k:ω→Option γ) (n:Nat) (emb:Nat→β→σ) (P:Nat→β→Prop) (nice:Nat→β→Option γ)
  (hd:∀ b,P n b→∀ R:σ→Option γ,Option.bind (st (emb n b)) (Sum.elim R k)=nice n b)
  (hn:∀ i b,i<n→P i b→∀ R:σ→Option γ,(∀ b',P (i+1) b'→R (emb (i+1) b')=nice (i+1) b')→Option.bind (st (emb i b)) (Sum.elim R k)=nice i b) :
  ∀ i b,i≤n→P i b→Option.bind (Z8N st (emb i b)) k=nice i b:=by
 intro i b hi hP
 induction hj:n-i generalizing i b with
 | zero =>
  have:i=n:=by omega
  subst this
  rw [X4p];exact hd b hP _
 | succ j ih =>
  rw [X4p]
  exact hn i b (by omega) hP _ fun b' hb'=>ih (i+1) b' (by omega) hb' (by omega)
theorem X2G {γ:Type} (o:Option γ):Option.bind o (fun x=>some x)=o:=by cases o<;>rfl
theorem X6B {β σ ω:Type} (st:σ→Option (σ⊕ω)) (n:Nat) (emb:Nat→β→σ) (P:Nat→β→Prop) (nice:Nat→β→Option ω)
  (hd:∀ b,P n b→∀ R:σ→Option ω,Option.bind (st (emb n b)) (Sum.elim R some)=nice n b)
  (hn:∀ i b,i<n→P i b→∀ R:σ→Option ω,(∀ b',P (i+1) b'→R (emb (i+1) b')=nice (i+1) b')→Option.bind (st (emb i b)) (Sum.elim R some)=nice i b)
  (i:Nat) (b:β) (hi:i≤n) (hP:P i b):Z8N st (emb i b)=nice i b:=by
 rw [←X2G (Z8N st (emb i b))]
 exact X5 st some n emb P nice hd hn i b hi hP
theorem X5q {a b:Int} (h:¬ a=b):(a==b)=false:=beq_eq_false_iff_ne.2 h
theorem X1A {a b:Int} (h:¬ a=b):(a != b)=true:=bne_iff_ne.2 h
theorem X1 {α:Type} (l:List α) (i:Nat) (d:α) (h:i<l.length):l.getD i d=l[i]:=by simp [List.getD,h]
def X4 (lo hi:Int) (l:List Int):Bool:=l.any fun n=>decide (n<lo)||decide (n>hi)
@[simp] theorem X78 (lo hi:Int):X4 lo hi []=false:=rfl
@[simp] theorem X4J (lo hi n:Int) (l:List Int):X4 lo hi (n::l)=(decide (n<lo)||decide (n>hi)||X4 lo hi l):=rfl
def inN (n lo hi:Int):Bool:=decide (lo≤n)&&decide (n≤hi)
theorem X18 (lo up:Int) (l:List Int) (hl:l.length<1000000):X1G lo up l=some (X4 lo up l):=by
 have key:=X5 (X1H (↑l.length) l up lo) (fun o3=>Sum.elim (fun y4:Int=>some (decide (y4≥0))) (fun _=>some (decide ((-1:Int)≥0))) o3) l.length (fun i (_:Unit)=>(i:Int)) (fun _ _=>True) (fun i _=>some (X4 lo up (l.drop i)))
  (by
   intro b _ R
   simp [X1H,X1M])
  (by
   intro i b hi _ R hR
   have hR':=hR () trivial
   simp only [X1H,X1M]
   rw [List.drop_eq_getElem_cons hi]
   simp only [kS,X1 _ _ _ hi,X4J]
   have hw:=wS i (by omega)
   rw [hw]
   have h1:decide ((i:Int)<↑l.length)=true:=by simp [hi]
   have h2:=z0S i
   simp only [h1,h2,Bool.and_self,cond_true]
   by_cases h3:l[i]<lo
   ·simp [h3]
   ·by_cases h4:l[i]>up
    ·simp [h3,h4]
    ·simp [h3,h4];exact hR')
 exact (key 0 () (by omega) trivial).trans (by simp)
theorem X1S (n lo hi:Int):X2e n lo hi=some (inN n lo hi):=by
 unfold X2e inN
 by_cases h:lo≤n<;>simp [h]
end Nore
open Go Go.Ab
namespace Nore
def X6k:Int→List UInt8→Option Int
 | last,[]=>some last
 | last,c::l=>if 97≤(c.toNat:Int)∧(c.toNat:Int)≤122 then X6k c.toNat l else if (c.toNat:Int)≠45∨last=45 then none else X6k c.toNat l
def X5c:Option Int→Bool
 | none=>false
 | some last=>last != 45
def X6l (s:ByteArray):Bool:=decide (s.size≤14)&&X5c (X6k 45 s.toList)
theorem X9o (s:ByteArray) (i:Nat) (h:(s.get! i).toNat<128):Utf8.decode s i=((s.get! i).toNat,1):=by
 unfold Utf8.decode;simp only [Nat.add_zero];rw [if_pos h]
theorem X9n (s:ByteArray) (i:Nat) (h:¬ (s.get! i).toNat<128):128≤(Utf8.decode s i).1:=by
 unfold Utf8.decode
 simp only [Nat.add_zero,Utf8.runeError]
 rw [if_neg h]
 repeat' split
 all_goals simp_all
 all_goals omega
theorem X2k (s:ByteArray):s.toList.length=s.size:=by rw [ByteArray.toList_eq];rfl
theorem X91 (s:ByteArray) (i:Nat) (h:i<s.toList.length):s.get! i=s.toList[i]:=by
 have hs:i<s.size:=by rw [←X2k];exact h
 simp only [ByteArray.toList_eq]
 show s.data[i]! = _
 have h2:i<s.data.size:=hs
 rw [getElem!_pos s.data i h2]
 rfl
theorem X5k (s:ByteArray):X3l s=some (X6l s):=by
 have key:=X5 (X1d s s) (fun o0=>Sum.elim (fun y1:Bool×Nat=>some y1.fst) (fun y2:Int×Nat=>bif decide ((↑(ByteArray.size s):Int)≤14) then some (y2.fst != 45) else some false) o0) s.toList.length (fun i (b:Int)=>(b,i)) (fun _ _=>True) (fun i b=>some (decide (s.size≤14)&&X5c (X6k b (s.toList.drop i))))
  (by
   intro b _ R
   have hh:(decide ((↑s.size:Int)≤14))=decide (s.size≤14):=by rw [decide_eq_decide];omega
   have hd:s.toList.drop s.size=[]:=List.drop_eq_nil_of_le (by rw [X2k];exact Nat.le_refl _)
   simp only [hd,X6k,X5c,X1d,X1j,X2k,hh,Nat.lt_irrefl,decide_false,cond_false,jS,Sum.elim_inr]
   cases decide (s.size≤14)<;>simp)
  (by
   intro i b hi _ R hR
   have hs:i<s.size:=by rw [←X2k];exact hi
   have hg:=X91 s i hi
   simp only [X1d,X1j]
   rw [List.drop_eq_getElem_cons hi]
   simp only [X6k]
   by_cases h:(s.get! i).toNat<128
   ·rw [X9o s i h]
    have hR':=hR ((s.get! i).toNat:Int) trivial
    rw [hg] at *
    generalize s.toList[i]=c at *
    simp only [hs,decide_true,cond_true]
    by_cases h1:97≤(c.toNat:Int)
    ·have q1:decide ((c.toNat:Int)≥97)=true:=decide_eq_true h1
     by_cases h2:(c.toNat:Int)≤122
     ·have q2:decide ((c.toNat:Int)≤122)=true:=decide_eq_true h2
      simp only [decide_true,decide_false,q1,q2,cond_true,jS,Sum.elim_inl,h1,h2,and_self,if_true]
      exact hR'
     ·have q2:decide ((c.toNat:Int)≤122)=false:=decide_eq_false h2
      have h3:¬ ((c.toNat:Int)=45):=by omega
      have q3:((c.toNat:Int) != 45)=true:=bne_iff_ne.2 h3
      simp only [decide_true,decide_false,q1,q2,q3,cond_true,cond_false,jS,Sum.elim_inl,Sum.elim_inr,h2,and_false,if_false,ne_eq,h3,not_false_iff,true_or,if_true,X5c,Bool.and_false]
    ·have q1:decide ((c.toNat:Int)≥97)=false:=decide_eq_false h1
     by_cases h3:(c.toNat:Int)=45
     ·have q3:((c.toNat:Int) != 45)=false:=by rw [h3];rfl
      by_cases h4:b=45
      ·have q4:(b==45)=true:=by rw [h4];rfl
       rw [q1,q3,q4,if_neg (fun hc=>h1 hc.1),if_pos (Or.inr h4)]
       simp [X5c]
      ·have q4:(b==45)=false:=beq_eq_false_iff_ne.2 h4
       simp only [decide_true,decide_false,q1,q3,q4,cond_true,cond_false,jS,Sum.elim_inl,Sum.elim_inr,h1,false_and,if_false,h4,ne_eq,h3,not_true,or_self,if_true]
       rw [h3] at hR'
       exact hR'
     ·have q3:((c.toNat:Int) != 45)=true:=bne_iff_ne.2 h3
      simp only [decide_true,decide_false,q1,q3,cond_true,cond_false,jS,Sum.elim_inl,Sum.elim_inr,h1,false_and,if_false,ne_eq,h3,not_false_iff,true_or,if_true,X5c,Bool.and_false]
   ·have h':=X9n s i h
    rw [hg] at h
    generalize s.toList[i]=c at *
    simp only [hs,decide_true,cond_true]
    generalize (Utf8.decode s i)=d at *
    have e1:((d.1:Nat):Int)≥97:=by omega
    have e2:¬ ((d.1:Nat):Int)≤122:=by omega
    have e3:¬ ((d.1:Nat):Int)=45:=by omega
    have e4:¬ ((c.toNat:Int)≤122):=by omega
    have e5:¬ ((c.toNat:Int)=45):=by omega
    have q1:decide (((d.1:Nat):Int)≥97)=true:=decide_eq_true e1
    have q2:decide (((d.1:Nat):Int)≤122)=false:=decide_eq_false e2
    have q3:(((d.1:Nat):Int) != 45)=true:=bne_iff_ne.2 e3
    simp only [decide_true,decide_false,q1,q2,q3,cond_true,cond_false,jS,Sum.elim_inl,Sum.elim_inr,e4,and_false,if_false,ne_eq,e5,not_false_iff,true_or,if_true,X5c,Bool.and_false])
 exact (key 0 45 (by omega) trivial).trans (by simp [X6l])
theorem X86 (s:ByteArray):X51 s=some (X6l s):=by
 unfold X51
 rw [X1S]
 simp only [jS]
 by_cases hsz:1≤s.size∧s.size≤14
 ·have e1:inN (↑s.size) 1 14=true:=by simp [inN];omega
  rw [e1]
  simp only [Bool.not_true,cond_false]
  have hl:=X2k s
  have key:=X5 (X1f s) (fun o0=>Sum.elim (fun y76:Bool=>some y76) (fun _:Unit=>some true) o0) s.toList.length (fun i (_:Int)=>(i:Int)) (fun i b=>b=if i=0 then 45 else ((s.toList.getD (i-1) 0).toNat:Int)) (fun i b=>some (if i<s.toList.length then X5c (X6k b (s.toList.drop i)) else true))
   (by
    intro b _ R
    simp [X1f,X1s,X2k])
   (by
    intro i b hi hP R hR
    have hs:i<s.size:=by rw [←X2k];exact hi
    simp only [X1f,X1s]
    rw [List.drop_eq_getElem_cons hi]
    have hR':=hR ((s.toList[i]).toNat:Int) (by simp [List.getD,hi])
    have hw:=wS i (by omega)
    have hw1:IntKind.wrap .i64 ((i:Int)-1)=((i:Int)-1):=by rw [w64]<;>omega
    have hw2:IntKind.wrap .i64 ((s.size:Int)-1)=((s.size:Int)-1):=by rw [w64]<;>omega
    simp only [X6k,kS,X1 _ _ _ hi,hw,hw1,hw2]
    have d1:decide ((i:Int)<↑s.size)=true:=by simp [hs]
    have d2:=z0S i
    simp only [d1,d2,Bool.and_self,cond_true,hi,if_true]
    generalize hc:s.toList[i]=c at *
    by_cases h1:97≤(c.toNat:Int)∧(c.toNat:Int)≤122
    ·have q1:decide ((c.toNat:Int)≥97)=true:=decide_eq_true h1.1
     have q2:decide ((c.toNat:Int)≤122)=true:=decide_eq_true h1.2
     simp only [decide_true,decide_false,q1,q2,cond_true,jS,Sum.elim_inl,h1,and_self,if_true]
     have hne:¬ ((c.toNat:Int)=45):=by omega
     rw [hR']
     by_cases hi2:i+1<s.toList.length
     ·simp [hi2]
     ·have:s.toList.drop (i+1)=[]:=List.drop_eq_nil_of_le (by omega)
      simp [hi2,this,X6k,X5c,hne]
    ·have g:(bif decide ((c.toNat:Int)≥97) then bif decide ((c.toNat:Int)≤122) then true else false else false)=false:=by
      by_cases a1:(c.toNat:Int)≥97
      ·by_cases a2:(c.toNat:Int)≤122
       ·exact absurd ⟨a1,a2⟩ h1
       ·simp [a1,a2]
      ·simp [a1]
     have g2:∀ (Z:Type) (x y:Z),(bif decide ((c.toNat:Int)≥97) then bif decide ((c.toNat:Int)≤122) then x else y else y)=y:=by
      intro Z x y
      by_cases a1:(c.toNat:Int)≥97
      ·by_cases a2:(c.toNat:Int)≤122
       ·exact absurd ⟨a1,a2⟩ h1
       ·simp [a1,a2]
      ·simp [a1]
     rw [g2,if_neg h1]
     by_cases h2:(c.toNat:Int)=45
     ·simp only [h2,bne_self_eq_false,cond_false]
      by_cases h3:i=0
      ·subst h3
       simp [hP,X5c]
      ·by_cases h4:i+1=s.size
       ·have:s.toList.drop (i+1)=[]:=List.drop_eq_nil_of_le (by omega)
        have e5:(i:Int)=(s.size:Int)-1:=by omega
        have e6:((s.size:Int)-1==0)=false:=by simp;omega
        simp only [e5,e6,this,X6k]
        by_cases h5:b=45<;>simp [h5,X5c]
       ·have e5:((i:Int)==(s.size:Int)-1)=false:=by simp;omega
        have e6:((i:Int)==0)=false:=by simp;omega
        have e7:(0:Int)≤(i:Int)-1:=by omega
        have e8:(i:Int)-1<(s.size:Int):=by omega
        have e9:((i:Int)-1).toNat=i-1:=by omega
        simp only [e5,e6,e7,e8,e9,cond_false,decide_true,Bool.and_self,cond_true]
        simp only [h3,if_false] at hP
        rw [←hP]
        by_cases h5:b=45
        ·simp [h5,X5c]
        ·have q5:(b==45)=false:=beq_eq_false_iff_ne.2 h5
         rw [h2] at hR'
         rw [q5]
         simp only [cond_false,jS,Sum.elim_inl,ne_eq,not_true,false_or,h5,if_false]
         rw [hR']
         simp [show i+1<s.toList.length by omega]
     ·have:((c.toNat:Int) != 45)=true:=by simp [h2]
      simp [this,h2,X5c])
  have:=key 0 45 (by omega) (by simp)
  refine this.trans ?_
  simp [X6l,show 0<s.toList.length by omega,hsz.2]
 ·have e1:inN (↑s.size) 1 14=false:=by
   simp [inN];omega
  rw [e1]
  simp only [Bool.not_false,cond_true,X6l]
  by_cases h:s.size≤14
  ·have h0:s.toList=[]:=by
    apply List.eq_nil_of_length_eq_zero;rw [X2k];omega
   simp [h0,X6k,X5c]
  ·simp [h]
end Nore
open Go Go.Ab
namespace Nore
def X41 (m:Int) (p:Zu):Bool:=X4 (-m) m [p.X,p.Y]
def X5d:Int→List Zj→Int
 | _,[]=>0
 | last,p::l=>if X4 0 40000 [p.Day]||X4 0 4 [p.Hz4] then 7 else if p.Day≤last then 2 else X5d p.Day l
def X3U (l:List Zj):Int:=if X4 1 4 [(l.length:Int)] then 3 else X5d (-1) l
def X8l (b:ZB) (m w:Int):Int:=if X4 (-m) m [b.X.Lo,b.X.Hi,b.Y.Lo,b.Y.Hi] then 7 else if X4 0 w [b.X.Hi-b.X.Lo,b.Y.Hi-b.Y.Lo] then 2 else 0
theorem X1z (n lo hi:Int):inN n lo hi = !X4 lo hi [n]:=by
 simp only [inN,X4J,X78,Bool.or_false,Bool.not_or]
 congr 1<;>rw [←decide_not,decide_eq_decide]<;>omega
theorem X5H (m:Int) (hm:0≤m∧m≤1000000) (l:List Zu) (hl:l.length<1000000):X4H m l=some (l.any (X41 m)):=by
 have hm1:IntKind.wrap .i64 (0-m) = -m:=by rw [w64]<;>omega
 have key:=X5 (X1F (↑l.length) l m) (fun o7=>Sum.elim (fun y8:Int×Zu×(List Int)=>some (decide (y8.fst≥0))) (fun _=>some (decide ((-1:Int)≥0))) o7) l.length (fun i (_:Unit)=>(i:Int)) (fun _ _=>True) (fun i _=>some ((l.drop i).any (X41 m)))
  (by
   intro b _ R
   simp [X1F,X1L])
  (by
   intro i b hi _ R hR
   have hR':=hR () trivial
   simp only [X1F,X1L]
   rw [List.drop_eq_getElem_cons hi]
   have hw:=wS i (by omega)
   simp only [kS,X1 _ _ _ hi,List.any_cons,hm1,hw]
   rw [X18 _ _ _ (by simp)]
   have h1:decide ((i:Int)<↑l.length)=true:=by simp [hi]
   have h2:=z0S i
   simp only [h1,h2,Bool.and_self,cond_true,jS]
   change Option.bind (bif X41 m l[i] then _ else _) _=_
   cases h3:X41 m l[i]
   ·simp;exact hR'
   ·simp)
 exact (key 0 () (by omega) trivial).trans (by simp)
theorem X5Z (p:Zu) (m:Int) (hm:0≤m∧m≤1000000):X2Z p m=some (!X41 m p):=by
 have hm1:IntKind.wrap .i64 (0-m) = -m:=by rw [w64]<;>omega
 unfold X2Z
 rw [X1S,X1S,hm1,X1z,X1z]
 simp only [jS,X41,X4J,X78,Bool.or_false]
 cases (decide (p.X < -m)||decide (p.X>m))<;>simp
theorem X7A (l:List Zj):X3E l=some (X3U l):=by
 unfold X3E X3U
 rw [X18 _ _ _ (by simp)]
 simp only [jS]
 cases hb:X4 1 4 [(l.length:Int)]
 ·simp only [cond_false,Bool.false_eq_true,if_false]
  have hl:1≤l.length∧l.length≤4:=by simp at hb;omega
  exact X5 (W8 (↑l.length) l [↑l.length]) _ l.length (fun i (b:Int)=>(b,(i:Int))) (fun _ _=>True) (fun i b=>some (X5d b (l.drop i)))
   (by
    intro b _ R
    simp [W8,Wi,X5d])
   (by
    intro i b hi _ R hR
    have hR':=hR (l[i].Day) trivial
    simp only [W8,Wi]
    rw [List.drop_eq_getElem_cons hi]
    have hw:=wS i (by omega)
    simp only [kS,X1 _ _ _ hi,X5d,hw]
    rw [X18 _ _ _ (by simp),X18 _ _ _ (by simp)]
    have h1:decide ((i:Int)<↑l.length)=true:=by simp [hi]
    have h2:=z0S i
    simp only [h1,h2,Bool.and_self,cond_true,jS]
    cases h3:X4 0 40000 [l[i].Day]
    ·cases h4:X4 0 4 [l[i].Hz4]
     ·by_cases h5:l[i].Day≤b
      ·simp [h5]
      ·simp [h5];exact hR'
     ·simp
    ·simp) 0 (-1) (by omega) trivial
 ·simp
theorem X7C (l:List Zj):X30 l=some (X3U l):=by
 unfold X30 X3U
 rw [X1S,X1z]
 simp only [jS]
 cases hb:X4 1 4 [(l.length:Int)]
 ·simp only [Bool.not_false,Bool.not_true,cond_false,Bool.false_eq_true,if_false]
  have hl:1≤l.length∧l.length≤4:=by simp at hb;omega
  exact X5 (Wd l) _ l.length (fun i (_:Int)=>(i:Int)) (fun i b=>b=if i=0 then -1 else (l.getD (i-1) ⟨0,0⟩).Day) (fun i b=>some (X5d b (l.drop i)))
   (by
    intro b _ R
    simp [Wd,Wo,X5d])
   (by
    intro i b hi hP R hR
    have hR':=hR (l[i].Day) (by simp [List.getD,hi])
    simp only [Wd,Wo]
    rw [List.drop_eq_getElem_cons hi]
    have hw:=wS i (by omega)
    have hw1:IntKind.wrap .i64 ((i:Int)-1)=((i:Int)-1):=by rw [w64]<;>omega
    simp only [kS,X1 _ _ _ hi,X5d,hw,hw1]
    rw [X1S,X1S,X1z,X1z]
    have h1:decide ((i:Int)<↑l.length)=true:=by simp [hi]
    have h2:=z0S i
    simp only [h1,h2,Bool.and_self,cond_true,jS]
    cases h3:X4 0 40000 [l[i].Day]
    ·cases h4:X4 0 4 [l[i].Hz4]
     ·by_cases h0:i=0
      ·subst h0
       simp at hP h3
       have h5:¬ l[0].Day≤b:=by omega
       simp [h5];simpa using hR'
      ·have e7:(0:Int)≤(i:Int)-1:=by omega
       have e8:(i:Int)-1<(l.length:Int):=by omega
       have e9:((i:Int)-1).toNat=i-1:=by omega
       have e10:(i:Int)>0:=by omega
       simp only [e7,e8,e9,e10,decide_true,Bool.and_self,cond_true]
       simp only [h0,if_false] at hP
       rw [←hP]
       by_cases h5:l[i].Day≤b
       ·simp [h5]
       ·simp [h5];exact hR'
     ·simp
    ·simp) 0 (-1) (by omega) (by simp)
 ·simp
theorem X8m (b:ZB) (m:Int) (hm:0≤m∧m≤1000000):X5r b m=some (X8l b m 40):=by
 have hm1:IntKind.wrap .i64 (0-m) = -m:=by rw [w64]<;>omega
 unfold X5r X8l
 rw [X18 _ _ _ (by simp),hm1]
 simp only [jS]
 cases hb:X4 (-m) m [b.X.Lo,b.X.Hi,b.Y.Lo,b.Y.Hi]
 ·simp at hb
  have h1:IntKind.wrap .i64 (b.X.Hi-b.X.Lo)=b.X.Hi-b.X.Lo:=by rw [w64]<;>omega
  have h2:IntKind.wrap .i64 (b.Y.Hi-b.Y.Lo)=b.Y.Hi-b.Y.Lo:=by rw [w64]<;>omega
  rw [h1,h2,X18 _ _ _ (by simp)]
  simp only [jS,cond_false,Bool.false_eq_true,if_false]
  cases X4 0 40 [b.X.Hi-b.X.Lo,b.Y.Hi-b.Y.Lo]<;>simp
 ·simp
def X31 (lo hi:Int):Int→List ZE→Int
 | e,[]=>e
 | e,s::l=>if X4 lo hi [s.Lo,s.Hi] then 7 else X31 lo hi (if s.Lo>s.Hi then 2 else e) l
theorem X3i (l:List ZE) (lo hi:Int) (hl:l.length<1000000):X2q l lo hi=some (X31 lo hi 0 l):=by
 unfold X2q
 exact X5 (Wb lo l hi) _ l.length (fun i (b:Int)=>(b,(i:Int))) (fun _ _=>True) (fun i b=>some (X31 lo hi b (l.drop i)))
   (by
    intro b _ R
    simp [Wb,Wm,X31])
   (by
    intro i b hi' _ R hR
    simp only [Wb,Wm]
    rw [List.drop_eq_getElem_cons hi']
    have hw:=wS i (by omega)
    simp only [kS,X1 _ _ _ hi',X31,hw]
    rw [X1S,X1S,X1z,X1z]
    have h1:decide ((i:Int)<↑l.length)=true:=by simp [hi']
    have h2:=z0S i
    simp only [h1,h2,Bool.and_self,cond_true,jS]
    have hsplit:X4 lo hi [l[i].Lo,l[i].Hi]=(X4 lo hi [l[i].Lo]||X4 lo hi [l[i].Hi]):=by simp
    rw [hsplit]
    cases h3:X4 lo hi [l[i].Lo]
    ·cases h4:X4 lo hi [l[i].Hi]
     ·by_cases h5:l[i].Lo>l[i].Hi
      ·have:=hR 2 trivial
       simp only [h5];simp;simpa using this
      ·have:=hR b trivial
       simp only [h5];simp;simpa using this
     ·simp
    ·simp) 0 0 (by omega) trivial
theorem X9b (b:ZB) (m w:Int) (hw:0≤w):(let e:=X31 (-m) m 0 [b.X,b.Y];if e=0 then (if b.X.Hi-b.X.Lo>w then 2 else if b.Y.Hi-b.Y.Lo>w then 2 else 0) else e)=X8l b m w:=by
 simp only [X31,X8l,X4J,X78,Bool.or_false]
 generalize b.X.Lo=x,b.X.Hi=X,b.Y.Lo=y,b.Y.Hi=Y
 by_cases a1:x < -m∨x>m∨X < -m∨X>m
 ·have e1:(decide (x < -m)||decide (x>m)||(decide (X < -m)||decide (X>m)))=true:=by simp;omega
  have e2:(decide (x < -m)||decide (x>m)||(decide (X < -m)||decide (X>m)||(decide (y < -m)||decide (y>m)||(decide (Y < -m)||decide (Y>m)))))=true:=by simp;omega
  rw [e1,e2];simp
 ·have e1:(decide (x < -m)||decide (x>m)||(decide (X < -m)||decide (X>m)))=false:=by simp;omega
  rw [e1]
  by_cases a2:y < -m∨y>m∨Y < -m∨Y>m
  ·have e2:(decide (y < -m)||decide (y>m)||(decide (Y < -m)||decide (Y>m)))=true:=by simp;omega
   have e3:(decide (x < -m)||decide (x>m)||(decide (X < -m)||decide (X>m)||(decide (y < -m)||decide (y>m)||(decide (Y < -m)||decide (Y>m)))))=true:=by simp;omega
   rw [e3,e2];simp
  ·have e2:(decide (y < -m)||decide (y>m)||(decide (Y < -m)||decide (Y>m)))=false:=by simp;omega
   have e3:(decide (x < -m)||decide (x>m)||(decide (X < -m)||decide (X>m)||(decide (y < -m)||decide (y>m)||(decide (Y < -m)||decide (Y>m)))))=false:=by simp;omega
   rw [e3,e2]
   simp only [Bool.false_eq_true,if_false]
   by_cases b1:Y<y
   ·have e4:(decide (X-x<0)||decide (X-x>w)||(decide (Y-y<0)||decide (Y-y>w)))=true:=by simp;omega
    rw [e4]
    simp [b1]
   ·by_cases b2:X<x
    ·have e4:(decide (X-x<0)||decide (X-x>w)||(decide (Y-y<0)||decide (Y-y>w)))=true:=by simp;omega
     rw [e4]
     simp [b1,b2]
    ·simp only [gt_iff_lt,b1,b2,if_false]
     by_cases b3:X-x>w
     ·have e4:(decide (X-x<0)||decide (w<X-x)||(decide (Y-y<0)||decide (w<Y-y)))=true:=by simp;omega
      rw [e4];simp;omega
     ·by_cases b4:Y-y>w
      ·have e4:(decide (X-x<0)||decide (w<X-x)||(decide (Y-y<0)||decide (w<Y-y)))=true:=by simp;omega
       rw [e4];simp;omega
      ·have e4:(decide (X-x<0)||decide (w<X-x)||(decide (Y-y<0)||decide (w<Y-y)))=false:=by simp;omega
       rw [e4];simp;omega
theorem X9y (lo hi:Int) (b:ZB) (h:X31 lo hi 0 [b.X,b.Y]=0):lo≤b.X.Lo∧b.X.Hi≤hi∧b.X.Lo≤b.X.Hi∧lo≤b.Y.Lo∧b.Y.Hi≤hi∧b.Y.Lo≤b.Y.Hi:=by
 simp only [X31,X4J,X78,Bool.or_false] at h
 split at h
 ·simp at h
 ·split at h
  ·simp at h
  ·rename_i h1 h2
   simp at h1 h2
   split at h
   ·simp at h
   ·split at h
    ·simp at h
    ·omega
theorem X8s (b:ZB) (m:Int) (hm:0≤m∧m≤1000000):X5x b (-m) m=some (X8l b m 40):=by
 unfold X5x
 rw [X3i _ _ _ (by simp)]
 rw [←X9b b m 40 (by omega)]
 simp only [jS]
 by_cases h:X31 (-m) m 0 [b.X,b.Y]=0
 ·have hb:=X9y _ _ _ h
  have h1:IntKind.wrap .i64 (b.X.Hi-b.X.Lo)=b.X.Hi-b.X.Lo:=by rw [w64]<;>omega
  have h2:IntKind.wrap .i64 (b.Y.Hi-b.Y.Lo)=b.Y.Hi-b.Y.Lo:=by rw [w64]<;>omega
  rw [h1,h2,h]
  by_cases h3:b.X.Hi-b.X.Lo>40
  ·simp [h3]
  ·by_cases h4:b.Y.Hi-b.Y.Lo>40<;>simp [h3,h4]
 ·have h':(X31 (-m) m 0 [b.X,b.Y]==0)=false:=beq_eq_false_iff_ne.2 h
  rw [h',if_neg h];rfl
end Nore
open Go Go.Ab
namespace Nore
theorem X5m {a b:Int} (A B:Int) (h1 : -A≤a) (h2:a≤A) (h3 : -B≤b) (h4:b≤B) : -(A*B)≤a*b∧a*b≤A*B:=by
 have p1:=Int.mul_nonneg (show 0≤A-a by omega) (show 0≤B+b by omega)
 have p2:=Int.mul_nonneg (show 0≤A+a by omega) (show 0≤B-b by omega)
 have p3:=Int.mul_nonneg (show 0≤A-a by omega) (show 0≤B-b by omega)
 have p4:=Int.mul_nonneg (show 0≤A+a by omega) (show 0≤B+b by omega)
 constructor<;>grind
def X2T (p:Nat→Bool):Nat→Nat→Bool
 | _,0=>true
 | i,k+1=>p i&&X2T p (i+1) k
theorem X7k (p:Nat→Bool) (k i:Nat):X2T p i k=true↔∀ j,i≤j→j<i+k→p j=true:=by
 induction k generalizing i with
 | zero=>simp [X2T];intro j h1 h2;omega
 | succ k ih =>
  simp only [X2T,Bool.and_eq_true,ih]
  constructor
  ·rintro ⟨h1,h2⟩ j h3 h4
   by_cases h:j=i
   ·subst h;exact h1
   ·exact h2 j (by omega) (by omega)
  ·intro h
   exact ⟨h i (by omega) (by omega),fun j h1 h2=>h j (by omega) (by omega)⟩
def Xp (a b:Zu):Zu:=⟨a.X-b.X,a.Y-b.Y⟩
def X2d (a b:Zu):Int:=a.X*b.Y-a.Y*b.X
def P0:Zu:=⟨0,0⟩
def X8f (l:List Zu) (i:Nat):Bool :=
 X2T (fun m=>m==i||m==(i+1) % l.length||decide (0<X2d (Xp (l.getD ((i+1) % l.length) P0) (l.getD i P0)) (Xp (l.getD m P0) (l.getD i P0)))) 0 l.length
def X7j (l:List Zu):Bool:=X2T (X8f l) 0 l.length
def X7e (s:CtSand):Int :=
 if X4 3 8 [(s.Hz2.length:Int)] then 3 else if s.Hz2.any (X41 10000) then 7 else if X8l s.Hzc 500 40=0 then (if X7j s.Hz2 then 0 else 9) else X8l s.Hzc 500 40
def Bd (A:Int) (p:Zu):Prop := -A≤p.X∧p.X≤A ∧ -A≤p.Y∧p.Y≤A
theorem X71 (A:Int) (p:Zu):X41 A p=false↔Bd A p:=by
 simp [X41,Bd];omega
theorem X6v {A:Int} {l:List Zu} (h:l.any (X41 A)=false) (i:Nat) (hi:i<l.length):Bd A l[i]:=by
 rw [List.any_eq_false] at h
 rw [←X71]
 simpa using h l[i] (List.getElem_mem hi)
theorem X7w {a b:Int} (A:Int) (hA:A≤1000000) (h1 : -A≤a∧a≤A) (h2 : -A≤b∧b≤A):IntKind.wrap .i64 (a-b)=a-b:=by rw [w64]<;>omega
theorem X95 {a b c d:Int} (A:Int) (hA:A=2000000) (h1 : -A≤a∧a≤A) (h2 : -A≤b∧b≤A) (h3 : -A≤c∧c≤A) (h4 : -A≤d∧d≤A):IntKind.wrap .i64 (IntKind.wrap .i64 (a*b)-IntKind.wrap .i64 (c*d))=a*b-c*d:=by
 subst hA
 have p:=X5m _ _ h1.1 h1.2 h2.1 h2.2
 have q:=X5m _ _ h3.1 h3.2 h4.1 h4.2
 rw [w64 (x:=a*b),w64 (x:=c*d),w64]<;>omega
theorem X8a (l:List Zu) (hl:3≤l.length∧l.length≤8) (hf:l.any (X41 10000)=false) (i:Nat) (hi:i<l.length) :
  X2r (i:Int) l (((i+1) % l.length:Nat):Int) 0=some (if X8f l i then .inr () else .inl false):=by
 have hk:(i+1) % l.length<l.length:=Nat.mod_lt _ (by omega)
 unfold X8f
 generalize hkk:(i+1) % l.length=k at *
 have key:=X6B (WD (i:Int) l (k:Int)) l.length (fun j (_:Unit)=>(j:Int)) (fun _ _=>True) (fun j _=>some (if X2T (fun m=>m==i||m==k||decide (0<X2d (Xp (l.getD k P0) (l.getD i P0)) (Xp (l.getD m P0) (l.getD i P0)))) j (l.length-j) then .inr () else .inl false))
  (by
   intro b _ R
   simp [WD,X10,X2T])
  (by
   intro m b hm _ R hR
   have hR':=hR () trivial
   rw [show l.length-m=(l.length-(m+1))+1 by omega]
   simp only [X2T]
   simp only [WD,X10]
   have hw:=wS m (by omega)
   simp only [kS,X1 _ _ _ hm,X1 _ _ _ hi,X1 _ _ _ hk,hw]
   have b1:=X6v hf m hm
   have b2:=X6v hf i hi
   have b3:=X6v hf k hk
   unfold Bd at b1 b2 b3
   rw [X7w 10000 (by omega) ⟨b3.1,b3.2.1⟩ ⟨b2.1,b2.2.1⟩,X7w 10000 (by omega) b1.2.2 b2.2.2,X7w 10000 (by omega) b3.2.2 b2.2.2,X7w 10000 (by omega) ⟨b1.1,b1.2.1⟩ ⟨b2.1,b2.2.1⟩]
   rw [X95 2000000 rfl (by omega) (by omega) (by omega) (by omega)]
   have d1:decide ((m:Int)<↑l.length)=true:=by simp [hm]
   have d2:=z0S m
   have d3:decide ((i:Int)<↑l.length)=true:=by simp [hi]
   have d4:=z0S i
   have d5:decide ((k:Int)<↑l.length)=true:=by simp [hk]
   have d6:=z0S k
   simp only [d1,d2,d3,d4,d5,d6,Bool.and_self,cond_true]
   change Option.bind (bif ((m:Int) != ↑i) then bif ((m:Int) != ↑k) then bif decide (X2d (Xp l[k] l[i]) (Xp l[m] l[i])≤0) then _ else _ else _ else _) _=_
   by_cases e1:m=i
   ·have:((m:Int) != (i:Int))=false:=by simp [e1]
    rw [this];simp [e1];simpa [e1,hi,hk] using hR'
   ·have t1:((m:Int) != (i:Int))=true:=by simp;omega
    by_cases e2:m=k
    ·have:((m:Int) != (k:Int))=false:=by simp [e2]
     rw [t1,this];simp [e2];simpa [e2,hi,hk] using hR'
    ·have t2:((m:Int) != (k:Int))=true:=by simp;omega
     rw [t1,t2]
     by_cases e3:X2d (Xp l[k] l[i]) (Xp l[m] l[i])≤0
     ·have t3:¬ 0<X2d (Xp l[k] l[i]) (Xp l[m] l[i]):=by omega
      simp [e1,e2,e3,t3]
     ·have t3:0<X2d (Xp l[k] l[i]) (Xp l[m] l[i]):=by omega
      simp [e1,e2,e3,t3];simpa [hi,hk] using hR')
 have:=key 0 () (by omega) trivial
 simpa [X2r] using this
theorem X7Y (l:List Zu) (hl:3≤l.length∧l.length≤8) (hf:l.any (X41 10000)=false):X4m l=some (X7j l):=by
 unfold X4m X7j
 have key:=X5 (WC l) (fun o103=>Sum.elim (fun y104:Bool=>some y104) (fun _:Unit=>some true) o103) l.length (fun i (_:Unit)=>(i:Int)) (fun _ _=>True) (fun i _=>some (X2T (X8f l) i (l.length-i)))
  (by
   intro b _ R
   simp [WC,WZ,X2T])
  (by
   intro i b hi _ R hR
   have hR':=hR () trivial
   rw [show l.length-i=(l.length-(i+1))+1 by omega]
   simp only [X2T]
   simp only [WC,WZ]
   have hw:=wS i (by omega)
   have hm:Int.tmod ((i+1:Nat):Int) (l.length:Int)=(((i+1) % l.length:Nat):Int):=rfl
   have d1:decide ((i:Int)<↑l.length)=true:=by simp [hi]
   have d2:((l.length:Int)==0)=false:=by simp;intro h;simp [h] at hl
   simp only [hw,hm,d1,d2,cond_true,cond_false]
   rw [X8a l hl hf i hi]
   simp only [jS]
   cases h:X8f l i
   ·simp
   ·simp;simpa using hR')
 exact (key 0 () (by omega) trivial).trans (by simp)
theorem X87 (s:CtSand):X53 s=some (X7e s):=by
 unfold X53 X7e
 rw [X1S,X1z]
 simp only [jS]
 cases hb:X4 3 8 [(s.Hz2.length:Int)]
 ·have hl:3≤s.Hz2.length∧s.Hz2.length≤8:=by simp at hb;omega
  simp only [Bool.not_false,Bool.not_true,cond_false,Bool.false_eq_true,if_false]
  have key:=X6B (We s) s.Hz2.length (fun i (_:Unit)=>(i:Int)) (fun _ _=>True) (fun i _=>some (if (s.Hz2.drop i).any (X41 10000) then .inl 7 else .inr ()))
   (by
    intro b _ R
    simp [We,X1t])
   (by
    intro i b hi _ R hR
    have hR':=hR () trivial
    simp only [We,X1t]
    rw [List.drop_eq_getElem_cons hi]
    have hw:=wS i (by omega)
    simp only [kS,X1 _ _ _ hi,List.any_cons,hw]
    rw [X5Z _ _ (by omega)]
    have h1:decide ((i:Int)<↑s.Hz2.length)=true:=by simp [hi]
    have h2:=z0S i
    simp only [h1,h2,Bool.and_self,cond_true,jS]
    by_cases h3:X41 10000 s.Hz2[i]=true
    ·simp [h3]
    ·simp [h3];simpa using hR')
  have k0:=key 0 () (by omega) trivial
  simp only [List.drop_zero,Int.natCast_zero] at k0
  unfold X3W
  have k0':Z8N (We s) 0=some (if s.Hz2.any (X41 10000) then .inl 7 else .inr ()):=k0
  rw [k0']
  simp only [jS]
  cases hf:s.Hz2.any (X41 10000)
  ·simp only [Bool.false_eq_true,if_false,Sum.elim_inr]
   rw [X8s _ _ (by omega),X7Y _ hl hf]
   simp only [jS]
   by_cases h:X8l s.Hzc 500 40=0
   ·rw [h]
    cases X7j s.Hz2<;>simp
   ·simp [h,X5q h]
  ·simp
 ·simp
end Nore
open Go Go.Ab
namespace Nore
theorem Xa0 {α:Type} (P:α→Bool) (l:List α):l.countP P=0↔∀ m,(h:m<l.length)→P l[m]=false:=by
 rw [List.countP_eq_zero]
 constructor
 ·intro h m hm;simpa using h l[m] (List.getElem_mem hm)
 ·intro h a ha
  obtain ⟨m,hm,rfl⟩:=List.getElem_of_mem ha
  simp [h m hm]
theorem X9Y {α:Type} (P:α→Bool) (l:List α):∀ i,(hi:i<l.length)→P l[i]=true→(l.countP P=1↔∀ m,(h:m<l.length)→m≠i→P l[m]=false):=by
 induction l with
 | nil=>intro i hi;simp at hi
 | cons a t ih =>
  intro i hi hP
  cases i with
  | zero =>
   simp only [List.getElem_cons_zero] at hP
   rw [List.countP_cons_of_pos hP]
   rw [show (t.countP P+1=1)↔t.countP P=0 by omega,Xa0]
   constructor
   ·intro h m hm hne
    cases m with
    | zero=>exact absurd rfl hne
    | succ m=>simpa using h m (by simpa using hm)
   ·intro h m hm
    exact h (m+1) (by simpa using hm) (by omega)
  | succ i =>
   simp only [List.getElem_cons_succ] at hP
   have hi':i<t.length:=by simpa using hi
   have hpos:0<t.countP P:=by
    rw [List.countP_pos_iff];exact ⟨t[i],List.getElem_mem hi',hP⟩
   have ih':=ih i hi' hP
   cases ha:P a
   ·rw [List.countP_cons_of_neg (by simp [ha]),ih']
    constructor
    ·intro h m hm hne
     cases m with
     | zero=>simpa using ha
     | succ m=>simpa using h m (by simpa using hm) (by omega)
    ·intro h m hm hne
     exact h (m+1) (by simpa using hm) (by omega)
   ·rw [List.countP_cons_of_pos ha]
    constructor
    ·intro h;omega
    ·intro h
     have:=h 0 (by simp) (by omega)
     simp [ha] at this
theorem X9Z {α:Type} (P:α→Bool) (l:List α):∀ i k,(hi:i<l.length)→(hk:k<l.length)→i<k→P l[i]=true→P l[k]=true→(l.countP P=2↔∀ m,(h:m<l.length)→m≠i→m≠k→P l[m]=false):=by
 induction l with
 | nil=>intro i k hi;simp at hi
 | cons a t ih =>
  intro i k hi hk hik hP hQ
  cases k with
  | zero=>omega
  | succ k =>
   simp only [List.getElem_cons_succ] at hQ
   have hk':k<t.length:=by simpa using hk
   cases i with
   | zero =>
    simp only [List.getElem_cons_zero] at hP
    rw [List.countP_cons_of_pos hP]
    rw [show (t.countP P+1=2)↔t.countP P=1 by omega,X9Y P t k hk' hQ]
    constructor
    ·intro h m hm hne hne2
     cases m with
     | zero=>exact absurd rfl hne
     | succ m=>simpa using h m (by simpa using hm) (by omega)
    ·intro h m hm hne
     exact h (m+1) (by simpa using hm) (by omega) (by omega)
   | succ i =>
    simp only [List.getElem_cons_succ] at hP
    have hi':i<t.length:=by simpa using hi
    have ih':=ih i k hi' hk' (by omega) hP hQ
    cases ha:P a
    ·rw [List.countP_cons_of_neg (by simp [ha]),ih']
     constructor
     ·intro h m hm hne hne2
      cases m with
      | zero=>simpa using ha
      | succ m=>simpa using h m (by simpa using hm) (by omega) (by omega)
     ·intro h m hm hne hne2
      exact h (m+1) (by simpa using hm) (by omega) (by omega)
    ·have hpos:2≤t.countP P:=by
      have h1:=X9Y P t i hi' hP
      have:0<t.countP P:=by
       rw [List.countP_pos_iff];exact ⟨t[i],List.getElem_mem hi',hP⟩
      by_cases e:t.countP P=1
      ·have:=h1.1 e k hk' (by omega)
       simp [hQ] at this
      ·omega
     rw [List.countP_cons_of_pos ha]
     constructor
     ·intro h;omega
     ·intro h
      have:=h 0 (by simp) (by omega) (by omega)
      simp [ha] at this
def X4S (l:List Zu) (a b:Zu):Bool :=
 (l.countP fun p=>decide (X2d (Xp b a) (Xp p a)≤0))==2 && !((b.X-a.X==0)&&(b.Y-a.Y==0))
def X5p (l:List Zu):Zu→List Zu→Bool
 | _,[]=>true
 | last,p::r=>X4S l last p&&X5p l p r
theorem X9r (a b:Zu):X2d (Xp b a) (Xp b a)=0:=by simp [X2d,Int.mul_comm]
theorem X9s (a b:Zu):X2d (Xp b a) (Xp a a)=0:=by simp [X2d,Xp]
theorem X8p (l:List Zu) (hl:3≤l.length) (i k:Nat) (hi:i<l.length) (hk:k<l.length) (hne:i≠k) :
  X4S l l[i] l[k]=X2T (fun m=>m==i||m==k||decide (0<X2d (Xp (l.getD k P0) (l.getD i P0)) (Xp (l.getD m P0) (l.getD i P0)))) 0 l.length:=by
 rw [Bool.eq_iff_iff,X7k]
 have hPi:decide (X2d (Xp l[k] l[i]) (Xp l[i] l[i])≤0)=true:=by rw [X9s];rfl
 have hPk:decide (X2d (Xp l[k] l[i]) (Xp l[k] l[i])≤0)=true:=by rw [X9r];rfl
 have hc:(l.countP fun p=>decide (X2d (Xp l[k] l[i]) (Xp p l[i])≤0))=2↔∀ m,(h:m<l.length)→m≠i→m≠k→decide (X2d (Xp l[k] l[i]) (Xp l[m] l[i])≤0)=false:=by
  by_cases hik:i<k
  ·exact X9Z (fun p=>decide (X2d (Xp l[k] l[i]) (Xp p l[i])≤0)) l i k hi hk hik hPi hPk
  ·have:=X9Z (fun p=>decide (X2d (Xp l[k] l[i]) (Xp p l[i])≤0)) l k i hk hi (by omega) hPk hPi
   rw [this]
   constructor
   ·intro h m hm h1 h2;exact h m hm h2 h1
   ·intro h m hm h1 h2;exact h m hm h2 h1
 simp only [X4S,Bool.and_eq_true,beq_iff_eq,hc]
 constructor
 ·rintro ⟨h,_⟩ m _ hm
  have hm':m<l.length:=by omega
  by_cases e1:m=i
  ·simp [e1]
  ·by_cases e2:m=k
   ·simp [e2]
   ·have:=h m hm' e1 e2
    simp only [X1 _ _ _ hm',X1 _ _ _ hi,X1 _ _ _ hk]
    simp at this
    simp [this]
 ·intro h
  have h':∀ m,(hm:m<l.length)→m≠i→m≠k→0<X2d (Xp l[k] l[i]) (Xp l[m] l[i]):=fun m hm e1 e2=>by
   have:=h m (by omega) (by omega)
   simp only [X1 _ _ _ hm,X1 _ _ _ hi,X1 _ _ _ hk] at this
   simpa [e1,e2] using this
  refine ⟨fun m hm e1 e2 => ?_,?_⟩
  ·have:=h' m hm e1 e2
   simp;omega
  ·have:∃ m,m<l.length∧m≠i∧m≠k:=by
    by_cases a0:0≠i∧0≠k
    ·exact ⟨0,by omega,a0⟩
    ·by_cases a1:1≠i∧1≠k
     ·exact ⟨1,by omega,a1⟩
     ·exact ⟨2,by omega,by omega,by omega⟩
   obtain ⟨m,hm,e1,e2⟩:=this
   have:=h' m hm e1 e2
   rw [Bool.not_eq_true',Bool.eq_false_iff]
   intro hz
   simp only [Bool.and_eq_true,beq_iff_eq] at hz
   simp [X2d,Xp,hz.1,hz.2] at this
theorem X99 (l:List Zu):∀ k i,i+k=l.length→1≤i→(hi:i-1<l.length)→(X5p l l[i-1] (l.drop i)=true↔∀ j,(h1:i≤j)→(h2:j<l.length)→X4S l l[j-1] l[j]=true):=by
 intro k
 induction k with
 | zero =>
  intro i hk h1 hi
  rw [List.drop_eq_nil_of_le (by omega)]
  simp [X5p]
  intro j h1 h2;omega
 | succ k ih =>
  intro i hk h1 hi
  have hi2:i<l.length:=by omega
  rw [List.drop_eq_getElem_cons hi2]
  simp only [X5p,Bool.and_eq_true]
  have:=ih (i+1) (by omega) (by omega) (by omega)
  simp only [Nat.add_sub_cancel] at this
  rw [this]
  constructor
  ·rintro ⟨g,h⟩ j a b
   by_cases e:j=i
   ·subst e;exact g
   ·exact h j (by omega) b
  ·intro h
   exact ⟨h i (by omega) hi2,fun j a b=>h j (by omega) b⟩
theorem X8R (l:List Zu) (hl:3≤l.length):X5p l (l.getD (l.length-1) P0) l=X7j l:=by
 rw [Bool.eq_iff_iff]
 have e:X5p l (l.getD (l.length-1) P0) l=(X4S l l[l.length-1] l[0]&&X5p l l[1-1] (l.drop 1)):=by
  conv=>lhs;rw [show l=l[0]::l.drop 1 by rw [←List.drop_eq_getElem_cons (by omega)];rfl]
  rw [←show l=l[0]::l.drop 1 by rw [←List.drop_eq_getElem_cons (by omega)];rfl]
  rw [X1 _ _ _ (by omega)]
  conv=>lhs;arg 3;rw [show l=l[0]::l.drop 1 by rw [←List.drop_eq_getElem_cons (by omega)];rfl]
  rfl
 rw [e]
 simp only [Bool.and_eq_true]
 rw [X99 l (l.length-1) 1 (by omega) (by omega) (by omega)]
 unfold X7j
 rw [X7k]
 have hside:∀ i,(hi:i<l.length)→X8f l i=X4S l l[i] (l[(i+1) % l.length]'(Nat.mod_lt _ (by omega))):=fun i hi=>by
  have hk:(i+1) % l.length<l.length:=Nat.mod_lt _ (by omega)
  have hne:i≠(i+1) % l.length:=by
   by_cases h:i+1<l.length
   ·rw [Nat.mod_eq_of_lt h];omega
   ·have:i+1=l.length:=by omega
    rw [this,Nat.mod_self];omega
  rw [X8p l hl i _ hi hk hne]
  rfl
 constructor
 ·rintro ⟨h0,h⟩ i _ hi
  have hi':i<l.length:=by omega
  rw [hside i hi']
  by_cases hh:i+1<l.length
  ·have:=h (i+1) (by omega) hh
   simp only [Nat.mod_eq_of_lt hh]
   simpa using this
  ·have e1:i=l.length-1:=by omega
   subst e1
   simp only [show l.length-1+1=l.length by omega,Nat.mod_self]
   exact h0
 ·intro h
  constructor
  ·have:=h (l.length-1) (by omega) (by omega)
   rw [hside _ (by omega)] at this
   simpa only [show l.length-1+1=l.length by omega,Nat.mod_self] using this
  ·intro j h1 h2
   have:=h (j-1) (by omega) (by omega)
   rw [hside _ (by omega)] at this
   simpa only [show j-1+1=j by omega,Nat.mod_eq_of_lt h2] using this
theorem X7z (l:List Zu) (hl:l.length≤8) (hf:l.any (X41 10000)=false) (x4:Z7) (x5:Bool) (x6:Int) (x7:Bool) (x8:Z7) (x9:Bool) (x10:Int) (x11:Z7) (s:Z6) (a b:Zu) (ha:Bd 10000 a) (hb:Bd 10000 b) (hs:s=⟨a,Xp b a⟩) :
  Wt (↑l.length) l x4 x5 x6 x7 x8 x9 x10 x11 s (0,0)=some ((l.countP fun p=>decide (X2d (Xp b a) (Xp p a)≤0):Nat):Int):=by
 subst hs
 unfold Bd at ha hb
 have key:=X6B (Xk (↑l.length) l x4 x5 x6 x7 x8 x9 x10 x11 ⟨a,Xp b a⟩) l.length (fun i (c:Nat)=>((c:Int),(i:Int))) (fun i c=>c≤i) (fun i c=>some (((c+(l.drop i).countP fun p=>decide (X2d (Xp b a) (Xp p a)≤0):Nat)):Int))
  (by
   intro b _ R
   simp [Xk,Xt])
  (by
   intro i c hi hc R hR
   simp only [Xk,Xt]
   rw [List.drop_eq_getElem_cons hi]
   have hw:=wS i (by omega)
   have hw2:=wS c (by omega)
   have bp:=X6v hf i hi
   unfold Bd at bp
   simp only [kS,X1 _ _ _ hi,hw,hw2,Xp]
   rw [X7w 10000 (by omega) bp.2.2 ha.2.2,X7w 10000 (by omega) ⟨bp.1,bp.2.1⟩ ⟨ha.1,ha.2.1⟩]
   rw [X95 2000000 rfl (by omega) (by omega) (by omega) (by omega)]
   have h1:decide ((i:Int)<↑l.length)=true:=by simp [hi]
   have h2:=z0S i
   simp only [h1,h2,Bool.and_self,cond_true]
   change Option.bind (bif decide (X2d (Xp b a) (Xp l[i] a)≤0) then _ else _) _=_
   change _=some (((c+List.countP (fun p=>decide (X2d (Xp b a) (Xp p a)≤0)) (l[i]::List.drop (i+1) l):Nat)):Int)
   by_cases h:X2d (Xp b a) (Xp l[i] a)≤0
   ·rw [List.countP_cons_of_pos (by simpa using h)]
    simp only [h,decide_true,cond_true,jS,Sum.elim_inl]
    rw [hR (c+1) (by omega)]
    congr 1
    show ((_:Nat):Int)=((_:Nat):Int)
    congr 1
    show c+1+_=c+(_+1)
    simp only [Xp]
    omega
   ·rw [List.countP_cons_of_neg (by simpa using h)]
    simp only [h,decide_false,cond_false,jS,Sum.elim_inl]
    rw [hR c (by omega)])
 have:=key 0 0 (by omega) (by omega)
 simpa [Wt] using this
theorem X6D (s:Z7):X27 s=some (X7e s.CtSand):=by
 obtain ⟨s⟩:=s
 unfold X27 X7e
 rw [X18 _ _ _ (by simp)]
 simp only [jS]
 cases hb:X4 3 8 [(s.Hz2.length:Int)]
 ·have hl:3≤s.Hz2.length∧s.Hz2.length≤8:=by simp at hb;omega
  simp only [cond_false,Bool.false_eq_true,if_false]
  rw [X5H _ (by omega) _ (by omega)]
  simp only [jS]
  cases hf:s.Hz2.any (X41 10000)
  ·simp only [cond_false,Bool.false_eq_true,if_false]
   rw [X8m _ _ (by omega)]
   simp only [jS]
   by_cases h:X8l s.Hzc 500 40=0
   ·have hw:IntKind.wrap .i64 ((s.Hz2.length:Int)-1)=(s.Hz2.length:Int)-1:=by rw [w64]<;>omega
    have ht:((s.Hz2.length:Int)-1).toNat=s.Hz2.length-1:=by omega
    have h1:decide ((0:Int)≤(s.Hz2.length:Int)-1)=true:=by simp;omega
    have h2:decide ((s.Hz2.length:Int)-1<(s.Hz2.length:Int))=true:=by simp;omega
    simp only [h,hw,ht,h1,h2,bne_self_eq_false,cond_false,Bool.and_self,cond_true,if_true]
    rw [←X8R _ hl.1]
    have hlast:Bd 10000 (s.Hz2.getD (s.Hz2.length-1) P0):=by
     rw [X1 _ _ _ (by omega)];exact X6v hf _ (by omega)
    refine (X5 (Xj (↑s.Hz2.length) s.Hz2 ⟨s⟩ false 0 false ⟨s⟩ false 0 ⟨s⟩ [(↑s.Hz2.length:Int)]) _ s.Hz2.length (fun i (b:Zu)=>((i:Int),b)) (fun _ b=>Bd 10000 b) (fun i b=>some (if X5p s.Hz2 b (s.Hz2.drop i) then 0 else 9)) ?_ ?_ 0 _ (by omega) hlast).trans (by simp)
    ·intro b _ R
     simp [Xj,Xs,X5p]
    ·intro i b hi hP R hR
     have bp:=X6v hf i hi
     have hR':=hR s.Hz2[i] bp
     simp only [Xj,Xs]
     rw [List.drop_eq_getElem_cons hi]
     have hw:=wS i (by omega)
     simp only [kS,X1 _ _ _ hi,hw,X5p]
     have bp':=bp
     have hP':=hP
     unfold Bd at bp' hP'
     rw [X7w 10000 (by omega) bp'.2.2 hP'.2.2,X7w 10000 (by omega) ⟨bp'.1,bp'.2.1⟩ ⟨hP'.1,hP'.2.1⟩]
     rw [X7z s.Hz2 hl.2 hf _ _ _ _ _ _ _ _ ⟨⟨b.X,b.Y⟩,⟨s.Hz2[i].X-b.X,s.Hz2[i].Y-b.Y⟩⟩ b s.Hz2[i] hP bp rfl]
     have h1:decide ((i:Int)<↑s.Hz2.length)=true:=by simp [hi]
     have h2:=z0S i
     simp only [h1,h2,Bool.and_self,cond_true,jS]
     have hg:X4S s.Hz2 b s.Hz2[i]=((s.Hz2.countP fun p=>decide (X2d (Xp s.Hz2[i] b) (Xp p b)≤0))==2 && !((s.Hz2[i].X-b.X==0)&&(s.Hz2[i].Y-b.Y==0))):=rfl
     generalize (s.Hz2.countP fun p=>decide (X2d (Xp s.Hz2[i] b) (Xp p b)≤0))=c at hg ⊢
     by_cases h3:c=2
     ·subst h3
      cases h4:(s.Hz2[i].X-b.X==0)
      ·simp only [h4,Bool.false_and,Bool.not_false,Bool.and_true,beq_self_eq_true] at hg
       simp [hg];simpa using hR'
      ·cases h5:(s.Hz2[i].Y-b.Y==0)
       ·simp only [h4,h5,Bool.and_false,Bool.not_false,Bool.and_true,beq_self_eq_true] at hg
        simp [hg];simpa using hR'
       ·simp only [h4,h5,Bool.and_self,Bool.not_true,Bool.and_false] at hg
        simp [hg]
     ·have h3':(((c:Nat):Int) != 2)=true:=by simp;omega
      have h3'':(c==2)=false:=by simp [h3]
      rw [h3'',Bool.false_and] at hg
      simp [h3',hg]
   ·rw [X1A h,if_neg h];rfl
  ·simp
 ·simp
end Nore
open Go Go.Ab
namespace Nore
theorem Z7T (a b:ByteArray):(a==b)=(a.data==b.data):=by cases a;cases b;rfl
instance:LawfulBEq ByteArray where
 rfl:=by intro a;rw [Z7T];simp
 eq_of_beq:=by
  intro a b h
  rw [Z7T] at h
  have:=eq_of_beq h
  cases a;cases b
  simp only at this
  rw [this]
instance:DecidableEq ByteArray:=fun a b=>if h:(a==b)=true then isTrue (eq_of_beq h) else isFalse (fun e=>h (by rw [e];simp))
theorem X6V {v:Int} (s k:ByteArray):∀ m:List (ByteArray×Int),Z8u (fun a b=>a==b) s (Zg8 (fun a b=>a==b) k v m)=if s=k then some v else Z8u (fun a b=>a==b) s m
 | []=>by
  by_cases h:s=k
  ·simp [Zg8,Z8u,h]
  ·have h':(s==k)=false:=beq_eq_false_iff_ne.2 h
   simp [Zg8,Z8u,h,h']
 | (k',v')::m=>by
  have ih:=X6V s k m (v:=v)
  simp only [Zg8]
  by_cases h1:k=k'
  ·subst h1
   simp only [beq_self_eq_true,cond_true,Z8u]
   by_cases h:s=k
   ·simp [h]
   ·have h':(s==k)=false:=beq_eq_false_iff_ne.2 h
    simp [h,h']
  ·have:(k==k')=false:=by simp [h1]
   simp only [this,cond_false,Z8u]
   by_cases h2:s=k'
   ·subst h2
    have h3:s≠k:=fun h=>h1 h.symm
    simp [h3]
   ·have:(s==k')=false:=by simp [h2]
    simp only [this,cond_false,ih]
def X1o (s:ByteArray) (names:List ByteArray):Int:=if X6l s then (if s∈names then 5 else 0) else 6
theorem X6W {a b:ByteArray} (h:a.toList=b.toList):a=b:=by
 cases a;cases b
 simp only [ByteArray.toList_eq] at h
 congr 1
 exact Array.ext' h
theorem X50 (s:ByteArray) (names:List ByteArray) (hl:names.length<1000000):X2L s names=some (X1o s names):=by
 unfold X2L X1o
 rw [X86]
 simp only [jS]
 cases X6l s
 ·simp
 ·simp only [Bool.not_true,cond_false,if_true]
  unfold X5f
  have key:=X5 (XQ s names) (fun o78=>Option.bind (Sum.elim (fun y79:Int=>some y79) (fun _:Unit=>some (-1)) o78) fun r82=>bif decide (r82≥0) then some (5:Int) else some 0) names.length (fun i (_:Unit)=>(i:Int)) (fun _ _=>True) (fun i _=>some (if s∈names.drop i then 5 else 0))
   (by
    intro b _ R
    simp [XQ,WY])
   (by
    intro i b hi _ R hR
    have hR':=hR () trivial
    simp only [XQ,WY]
    rw [List.drop_eq_getElem_cons hi]
    have hw:=wS i (by omega)
    simp only [kS,X1 _ _ _ hi,hw]
    have h1:decide ((i:Int)<↑names.length)=true:=by simp [hi]
    have h2:=z0S i
    simp only [h1,h2,Bool.and_self,cond_true]
    by_cases h:names[i]=s
    ·simp [h]
    ·have h':(names[i].toList==s.toList)=false:=by
      simp only [beq_eq_false_iff_ne];intro hh;exact h (X6W hh)
     have h'':¬ s=names[i]:=fun hh=>h hh.symm
     simp only [h',cond_false,jS,Sum.elim_inl,List.mem_cons,h'',false_or]
     exact hR')
  have:=key 0 () (by omega) trivial
  simp only [List.drop_zero] at this
  rw [←this]
  show Option.bind (Option.bind _ _) _=Option.bind _ _
  unfold X3o
  simp only [Int.natCast_zero]
  cases Z8N (XQ s names) 0<;>rfl
def X46 (m:Zw) (names:List ByteArray):Int:=if X1o m.Name names=0 then (if X41 30000 m.At then 7 else X3U m.Hz3) else X1o m.Name names
def X66 (s:CtSand) (names:List ByteArray):Int:=if X1o s.Name names=0 then X7e s else X1o s.Name names
def X5o:Nat→List ByteArray→List CtSand→Int×Int×Int
 | _,_,[]=>(0,0,0)
 | i,names,s::l=>if X66 s names=0 then X5o (i+1) (names++[s.Name]) l else (2,(i:Int),X66 s names)
def X5l (sands:List CtSand):Nat→List ByteArray→List Zw→Int×Int×Int
 | _,names,[]=>if 4<sands.length then (2,0,3) else X5o 0 names sands
 | i,names,m::l=>if X46 m names=0 then X5l sands (i+1) (names++[m.Name]) l else (1,(i:Int),X46 m names)
def X4q (c:Zk):Int×Int×Int:=if 8<c.Hz8.length then (1,0,3) else X5l c.Hzb 0 [] c.Hz8
def Z2M (m:List (ByteArray×Int)) (names:List ByteArray):Prop:=∀ s,Option.getD (Z8u (fun a b=>a==b) s m) 0=if s∈names then 1 else 0
theorem X8I {m:List (ByteArray×Int)} {names:List ByteArray} (h:Z2M m names) (s:ByteArray) (hs:s∉names):Z2M (Zg8 (fun a b=>a==b) s (IntKind.wrap .i64 (Option.getD (Z8u (fun a b=>a==b) s m) 0+1)) m) (names++[s]):=by
 intro t
 rw [X6V,h s,if_neg hs]
 by_cases e:t=s
 ·simp [e];rfl
 ·simp [e];simpa using h t
theorem X7S {m:List (ByteArray×Int)} {names:List ByteArray} (h:Z2M m names) (s:ByteArray):decide (Option.getD (Z8u (fun a b=>a==b) s (Zg8 (fun a b=>a==b) s (IntKind.wrap .i64 (Option.getD (Z8u (fun a b=>a==b) s m) 0+1)) m)) 0>1)=decide (s∈names):=by
 rw [X6V,h s]
 simp only [if_true,Option.getD_some]
 by_cases e:s∈names
 ·simp only [e,if_true];rfl
 ·simp only [e,if_false];rfl
theorem X8D (c:Zk) (hl:c.Hzb.length≤4) (m:List (ByteArray×Int)) (names:List ByteArray) (hm:Z2M m names) (k:_→Option (Int×Int×Int))
  (hk:k=fun o56=>Sum.elim (fun (y57:Int×Int×Int×(List (ByteArray×Int))×CtSand)=>some (y57.snd.snd.fst,y57.fst,y57.snd.fst)) (fun y58=>Sum.elim (fun (y59:Int×Int×Int×(List (ByteArray×Int))×CtSand)=>some (y59.snd.snd.fst,y59.fst,y59.snd.fst)) (fun y60=>Sum.elim (fun (y61:Int×Int×Int×(List (ByteArray×Int))×CtSand)=>some (y61.snd.snd.fst,y61.fst,y61.snd.fst)) (fun (_:List (ByteArray×Int))=>some (0,0,0)) y60) y58) o56) :
  Option.bind (X2l (↑c.Hzb.length) c.Hzb c (0,m)) k=some (X5o 0 names c.Hzb):=by
 subst hk
 unfold X2l
 exact X5 (Ws (↑c.Hzb.length) c.Hzb c) _ c.Hzb.length (fun i (b:List (ByteArray×Int)×List ByteArray)=>((i:Int),b.1)) (fun _ b=>Z2M b.1 b.2) (fun i b=>some (X5o i b.2 (c.Hzb.drop i)))
  (by
   intro b _ R
   simp [Ws,WP,X5o])
  (by
   intro i b hi hP R hR
   simp only [Ws,WP]
   rw [List.drop_eq_getElem_cons hi]
   have hw:=wS i (by omega)
   simp only [kS,X1 _ _ _ hi,hw,X5o]
   rw [X5k,X6D,X7S hP]
   have h1:decide ((i:Int)<↑c.Hzb.length)=true:=by simp [hi]
   have h2:=z0S i
   simp only [h1,h2,Bool.and_self,cond_true,jS]
   by_cases hn:X6l c.Hzb[i].Name=true
   ·by_cases he:c.Hzb[i].Name∈b.2
    ·have hE:X66 c.Hzb[i] b.2=5:=by simp [X66,X1o,hn,he]
     simp [hn,he,hE]
    ·have e0:(⟨c.Hzb[i].Name,c.Hzb[i].Hz2,c.Hzb[i].Hzc⟩:CtSand)=c.Hzb[i]:=rfl
     have hE:X66 c.Hzb[i] b.2=X7e c.Hzb[i]:=by simp [X66,X1o,hn,he]
     rw [e0]
     simp only [hn,he,Bool.not_true,decide_false,cond_false,hE]
     by_cases hs:X7e c.Hzb[i]=0
     ·simp only [hs,bne_self_eq_false,cond_false,if_true,jS,Sum.elim_inl]
      exact hR (_,b.2++[c.Hzb[i].Name]) (X8I hP _ he)
     ·simp [hs,X1A hs]
   ·have hE:X66 c.Hzb[i] b.2=6:=by simp [X66,X1o,hn]
    simp [hn,hE]) 0 (m,names) (by omega) hm
theorem X69 (c:Zk):X3x c=some (X4q c):=by
 unfold X3x X4q
 by_cases h8:8<c.Hz8.length
 ·have:decide ((c.Hz8.length:Int)>8)=true:=by simp;omega
  rw [this];simp [h8]
 ·have:decide ((c.Hz8.length:Int)>8)=false:=by simp;omega
  rw [this]
  simp only [cond_false,h8,if_false]
  exact X5 (Wr (↑c.Hz8.length) c.Hz8 c) _ c.Hz8.length (fun i (b:List (ByteArray×Int)×List ByteArray)=>((i:Int),b.1)) (fun _ b=>Z2M b.1 b.2) (fun i b=>some (X5l c.Hzb i b.2 (c.Hz8.drop i)))
   (by
    intro b hP R
    simp only [Wr,WO]
    have h1:decide ((c.Hz8.length:Int)<↑c.Hz8.length)=false:=by simp
    simp only [h1,cond_false,jS,Sum.elim_inr,List.drop_length,X5l]
    by_cases h4:4<c.Hzb.length
    ·have:decide ((c.Hzb.length:Int)>4)=true:=by simp;omega
     rw [this];simp [h4]
    ·have:decide ((c.Hzb.length:Int)>4)=false:=by simp;omega
     rw [this]
     simp only [cond_false,h4,if_false]
     exact X8D c (by omega) _ _ hP _ rfl)
   (by
    intro i b hi hP R hR
    simp only [Wr,WO]
    rw [List.drop_eq_getElem_cons hi]
    have hw:=wS i (by omega)
    simp only [kS,X1 _ _ _ hi,hw,X5l]
    rw [X5k,X7A,X7S hP,X5H _ (by omega) _ (by simp)]
    have h1:decide ((i:Int)<↑c.Hz8.length)=true:=by simp [hi]
    have h2:=z0S i
    simp only [h1,h2,Bool.and_self,cond_true,jS,List.any_cons,List.any_nil,Bool.or_false]
    by_cases hn:X6l c.Hz8[i].Name=true
    ·by_cases he:c.Hz8[i].Name∈b.2
     ·have hE:X46 c.Hz8[i] b.2=5:=by simp [X46,X1o,hn,he]
      simp [hn,he,hE]
     ·by_cases hfar:X41 30000 c.Hz8[i].At=true
      ·have hE:X46 c.Hz8[i] b.2=7:=by simp [X46,X1o,hn,he,hfar]
       simp [hn,he,hfar,hE]
      ·have hE:X46 c.Hz8[i] b.2=X3U c.Hz8[i].Hz3:=by simp [X46,X1o,hn,he,hfar]
       simp only [hn,he,hfar,Bool.not_true,decide_false,cond_false,hE]
       by_cases hs:X3U c.Hz8[i].Hz3=0
       ·simp only [hs,bne_self_eq_false,cond_false,if_true,jS,Sum.elim_inl]
        exact hR (_,b.2++[c.Hz8[i].Name]) (X8I hP _ he)
       ·simp [hs,X1A hs]
    ·have hE:X46 c.Hz8[i] b.2=6:=by simp [X46,X1o,hn]
     simp [hn,hE]) 0 ([],[]) (by omega) (by intro s;simp [Z8u])
theorem X8P (c:Zk) (hl:c.Hzb.length≤4) (names:List ByteArray) (hm:names.length≤8) (k:_→Option (Int×Int×Int))
  (hk:k=fun o134=>Sum.elim (fun (y135:Int×Int×Int×(List ByteArray)×(List ByteArray))=>some (y135.snd.snd.fst,y135.fst,y135.snd.fst)) (fun y136=>Sum.elim (fun (y137:Int×Int×Int×(List ByteArray)×(List ByteArray))=>some (y137.snd.snd.fst,y137.fst,y137.snd.fst)) (fun (_:List ByteArray)=>some (0,0,0)) y136) o134) :
  Option.bind (X2p c (0,names)) k=some (X5o 0 names c.Hzb):=by
 subst hk
 unfold X2p
 exact X5 (WB c) _ c.Hzb.length (fun i (b:List ByteArray)=>((i:Int),b)) (fun i b=>b.length≤8+i) (fun i b=>some (X5o i b (c.Hzb.drop i)))
  (by
   intro b _ R
   simp [WB,WX,X5o])
  (by
   intro i b hi hP R hR
   simp only [WB,WX]
   rw [List.drop_eq_getElem_cons hi]
   have hw:=wS i (by omega)
   simp only [kS,X1 _ _ _ hi,hw,X5o]
   rw [X50 _ _ (by omega),X87]
   have h1:decide ((i:Int)<↑c.Hzb.length)=true:=by simp [hi]
   have h2:=z0S i
   have h3:Nat.ble ((b.length+[c.Hzb[i].Name].length)*(16+1)) 200000000000000=true:=by
    rw [Nat.ble_eq];simp;omega
   simp only [h1,h2,h3,Bool.and_self,cond_true,jS]
   by_cases hf:X1o c.Hzb[i].Name b=0
   ·have hE:X66 c.Hzb[i] b=X7e c.Hzb[i]:=by simp [X66,hf]
    simp only [hf,hE,beq_self_eq_true,cond_true]
    by_cases hs:X7e c.Hzb[i]=0
    ·simp only [hs,bne_self_eq_false,cond_false,if_true,jS,Sum.elim_inl]
     exact hR (b++[c.Hzb[i].Name]) (by simp;omega)
    ·simp [hs,X1A hs]
   ·have hE:X66 c.Hzb[i] b=X1o c.Hzb[i].Name b:=by simp [X66,hf]
    simp [hE,hf,X5q hf,X1A hf]) 0 names (by omega) (by omega)
theorem X7V (c:Zk):X4k c=some (X4q c):=by
 unfold X4k X4q
 by_cases h8:8<c.Hz8.length
 ·have:decide ((c.Hz8.length:Int)>8)=true:=by simp;omega
  rw [this];simp [h8]
 ·have:decide ((c.Hz8.length:Int)>8)=false:=by simp;omega
  rw [this]
  simp only [cond_false,h8,if_false]
  exact X5 (WA c) _ c.Hz8.length (fun i (b:List ByteArray)=>((i:Int),b)) (fun i b=>b.length≤i) (fun i b=>some (X5l c.Hzb i b (c.Hz8.drop i)))
   (by
    intro b hP R
    simp only [WA,WW]
    have h1:decide ((c.Hz8.length:Int)<↑c.Hz8.length)=false:=by simp
    simp only [h1,cond_false,jS,Sum.elim_inr,List.drop_length,X5l]
    by_cases h4:4<c.Hzb.length
    ·have:decide ((c.Hzb.length:Int)>4)=true:=by simp;omega
     rw [this];simp [h4]
    ·have:decide ((c.Hzb.length:Int)>4)=false:=by simp;omega
     rw [this]
     simp only [cond_false,h4,if_false]
     exact X8P c (by omega) _ (by omega) _ rfl)
   (by
    intro i b hi hP R hR
    simp only [WA,WW]
    rw [List.drop_eq_getElem_cons hi]
    have hw:=wS i (by omega)
    simp only [kS,X1 _ _ _ hi,hw,X5l]
    rw [X50 _ _ (by omega),X7C,X5Z _ _ (by omega)]
    have h1:decide ((i:Int)<↑c.Hz8.length)=true:=by simp [hi]
    have h2:=z0S i
    have h3:Nat.ble ((b.length+[c.Hz8[i].Name].length)*(16+1)) 200000000000000=true:=by
     rw [Nat.ble_eq];simp;omega
    simp only [h1,h2,h3,Bool.and_self,cond_true,jS]
    by_cases hf:X1o c.Hz8[i].Name b=0
    ·by_cases hfar:X41 30000 c.Hz8[i].At=true
     ·have hE:X46 c.Hz8[i] b=7:=by simp [X46,hf,hfar]
      simp [hf,hfar,hE]
     ·have hE:X46 c.Hz8[i] b=X3U c.Hz8[i].Hz3:=by simp [X46,hf,hfar]
      simp only [hf,hfar,hE,Bool.not_false,Bool.not_true,cond_false,beq_self_eq_true,cond_true]
      by_cases hs:X3U c.Hz8[i].Hz3=0
      ·simp only [hs,bne_self_eq_false,cond_false,if_true,jS,Sum.elim_inl]
       exact hR (b++[c.Hz8[i].Name]) (by simp;omega)
      ·simp [hs,X1A hs]
    ·have hE:X46 c.Hz8[i] b=X1o c.Hz8[i].Name b:=by simp [X46,hf]
     simp [hE,hf,X5q hf,X1A hf]) 0 [] (by omega) (by simp)
end Nore
open Go Go.Ab
namespace Nore
theorem X2 (lo up:Int) (l:List Int) (hl:l.length<1000000):X3 lo up l=some (X4 lo up l):=by
 rw [X6f];unfold X2v
 have key:=X5 (Wz (↑l.length) l up lo) (fun o3=>Sum.elim (fun y4:Int=>some (decide (y4≥0))) (fun _=>some (decide ((-1:Int)≥0))) o3) l.length (fun i (_:Unit)=>(i:Int)) (fun _ _=>True) (fun i _=>some (X4 lo up (l.drop i)))
  (by
   intro b _ R
   simp [Wz,WU])
  (by
   intro i b hi _ R hR
   have hR':=hR () trivial
   simp only [Wz,WU]
   rw [List.drop_eq_getElem_cons hi]
   simp only [kS,X1 _ _ _ hi,X4J]
   have hw:=wS i (by omega)
   rw [hw]
   have h1:decide ((i:Int)<↑l.length)=true:=by simp [hi]
   have h2:=z0S i
   simp only [h1,h2,Bool.and_self,cond_true]
   by_cases h3:l[i]<lo
   ·simp [h3]
   ·by_cases h4:l[i]>up
    ·simp [h3,h4]
    ·simp [h3,h4];exact hR')
 exact (key 0 () (by omega) trivial).trans (by simp)
theorem Xw (n lo hi:Int):X15 n lo hi=some (inN n lo hi):=by
 rw [X7t];unfold X3Z inN
 by_cases h:lo≤n<;>simp [h]
def X48 (x:Z5):Int:=if x.Lead then 20 else 4
theorem X88 (x:Z5):X5C x=some (X48 x):=by
 rw [X7c];unfold X3f X48
 cases x.Lead<;>rfl
def X7o (x:Z5) (names:List ByteArray):Int :=
 if X1o x.Name names≠0 then X1o x.Name names else if X4 (-X48 x) (X48 x) [x.Off.Lo,x.Off.Hi] then 7 else if x.Off.Lo>x.Off.Hi then 2 else 0
theorem X92 (x:Z5) (l:List Z5) (hl:l.length<1000000) (k:(Int×Z5)⊕Unit→Option Int) (r1 r2:Option Int) (h1:∀ (i:Nat) y,k (.inl ((i:Int),y))=r1) (h2:k (.inr ())=r2) :
  Option.bind (X2z (↑l.length) l x 0) k=if x.Name∈l.map (·.Name) then r1 else r2:=by
 have key:=X5 (XH (↑l.length) l x) k l.length (fun i (_:Unit)=>(i:Int)) (fun _ _=>True) (fun i _=>if x.Name∈(l.drop i).map (·.Name) then r1 else r2)
  (by
   intro b _ R
   simp [XH,XO,h2])
  (by
   intro i b hi _ R hR
   have hR':=hR () trivial
   simp only [XH,XO]
   rw [List.drop_eq_getElem_cons hi]
   simp only [kS,X1 _ _ _ hi,List.map_cons,List.mem_cons]
   have hw:=wS i (by omega)
   rw [hw]
   have e1:decide ((i:Int)<↑l.length)=true:=by simp [hi]
   have e2:=z0S i
   simp only [e1,e2,Bool.and_self,cond_true]
   by_cases h3:l[i].Name.toList=x.Name.toList
   ·have h4:x.Name=l[i].Name:=X6W h3.symm
    simp [h3,h4,h1]
   ·have h4:¬ x.Name=l[i].Name:=fun e=>h3 (by rw [e])
    have h5:(l[i].Name.toList==x.Name.toList)=false:=beq_eq_false_iff_ne.2 h3
    simp only [h5,cond_false,h4,false_or]
    exact hR')
 exact (key 0 () (by omega) trivial).trans (by simp)
theorem X93 (x:Z5) (l:List Z5) (hl:l.length<1000000) (k:(Int×Z5)⊕Unit→Option Int) (r1 r2:Option Int) (h1:∀ (i:Nat) y,k (.inl ((i:Int),y))=r1) (h2:k (.inr ())=r2) :
  Option.bind (X2A (↑l.length) l x 0) k=if x.Name∈l.map (·.Name) then r1 else r2:=by
 have key:=X5 (XI (↑l.length) l x) k l.length (fun i (_:Unit)=>(i:Int)) (fun _ _=>True) (fun i _=>if x.Name∈(l.drop i).map (·.Name) then r1 else r2)
  (by
   intro b _ R
   simp [XI,XP,h2])
  (by
   intro i b hi _ R hR
   have hR':=hR () trivial
   simp only [XI,XP]
   rw [List.drop_eq_getElem_cons hi]
   simp only [kS,X1 _ _ _ hi,List.map_cons,List.mem_cons]
   have hw:=wS i (by omega)
   rw [hw]
   have e1:decide ((i:Int)<↑l.length)=true:=by simp [hi]
   have e2:=z0S i
   simp only [e1,e2,Bool.and_self,cond_true]
   by_cases h3:l[i].Name.toList=x.Name.toList
   ·have h4:x.Name=l[i].Name:=X6W h3.symm
    simp [h3,h4,h1]
   ·have h4:¬ x.Name=l[i].Name:=fun e=>h3 (by rw [e])
    have h5:(l[i].Name.toList==x.Name.toList)=false:=beq_eq_false_iff_ne.2 h3
    simp only [h5,cond_false,h4,false_or]
    exact hR')
 exact (key 0 () (by omega) trivial).trans (by simp)
theorem X6U (x:Z5) (l:List Z5) (hl:l.length<1000000):X3T x l=some (X7o x (l.map (·.Name))):=by
 rw [X59];unfold X1n X7o X1o X48
 have hw20:IntKind.wrap .i64 (0-20) = -20:=by rw [w64]<;>omega
 have hw4:IntKind.wrap .i64 (0-4) = -4:=by rw [w64]<;>omega
 rw [X5k]
 simp only [jS,hw20,hw4]
 cases hb:x.Lead
 ·simp only [cond_false,Bool.false_eq_true,if_false]
  cases hn:X6l x.Name
  ·simp
  ·simp only [Bool.not_true,cond_false,if_true]
   rw [X93 x l hl _ (some 5) (if X4 (-4) 4 [x.Off.Lo,x.Off.Hi] then some 7 else if x.Off.Lo>x.Off.Hi then some 2 else some 0) (fun i y=>by simp) (by
    simp only [Sum.elim_inr]
    rw [X2 _ _ _ (by simp)]
    simp only [jS]
    cases X4 (-4) 4 [x.Off.Lo,x.Off.Hi]
    ·by_cases h:x.Off.Lo>x.Off.Hi<;>simp [h]
    ·simp)]
   by_cases hm:x.Name∈l.map (·.Name)
   ·simp [hm]
   ·simp only [hm,if_false,ne_eq,not_true]
    cases X4 (-4) 4 [x.Off.Lo,x.Off.Hi]
    ·by_cases h:x.Off.Lo>x.Off.Hi<;>simp [h]
    ·simp
 ·simp only [cond_true,if_true]
  cases hn:X6l x.Name
  ·simp
  ·simp only [Bool.not_true,cond_false,if_true]
   rw [X92 x l hl _ (some 5) (if X4 (-20) 20 [x.Off.Lo,x.Off.Hi] then some 7 else if x.Off.Lo>x.Off.Hi then some 2 else some 0) (fun i y=>by simp) (by
    simp only [Sum.elim_inr]
    rw [X2 _ _ _ (by simp)]
    simp only [jS]
    cases X4 (-20) 20 [x.Off.Lo,x.Off.Hi]
    ·by_cases h:x.Off.Lo>x.Off.Hi<;>simp [h]
    ·simp)]
   by_cases hm:x.Name∈l.map (·.Name)
   ·simp [hm]
   ·simp only [hm,if_false,ne_eq,not_true]
    cases X4 (-20) 20 [x.Off.Lo,x.Off.Hi]
    ·by_cases h:x.Off.Lo>x.Off.Hi<;>simp [h]
    ·simp
def X55 (a:Zt):Int:=if X4 (-30000) 30000 [a.X.Lo,a.X.Hi,a.Y.Lo,a.Y.Hi]||X4 0 1000 [a.Hza.Lo,a.Hza.Hi]||X4 1 4 [a.Hz5] then 7 else if a.X.Lo>a.X.Hi∨a.Y.Lo>a.Y.Hi∨a.Hza.Lo>a.Hza.Hi then 2 else 0
theorem X8o (a:Zt):X76 a=some (X55 a):=by
 rw [X7m];unfold X3G X55
 rw [X2 _ _ _ (by simp),X2 _ _ _ (by simp),X2 _ _ _ (by simp)]
 simp only [jS]
 cases X4 (-30000) 30000 [a.X.Lo,a.X.Hi,a.Y.Lo,a.Y.Hi]
 ·cases X4 0 1000 [a.Hza.Lo,a.Hza.Hi]
  ·cases X4 1 4 [a.Hz5]
   ·by_cases h1:a.X.Lo>a.X.Hi
    ·simp [h1]
    ·by_cases h2:a.Y.Lo>a.Y.Hi
     ·simp [h1,h2]
     ·by_cases h3:a.Hza.Lo>a.Hza.Hi<;>simp [h1,h2,h3]
   ·simp
  ·simp
 ·simp
theorem X7B (i:Int) (a:Zt):X4i i a=some (X55 a):=by
 rw [X6a];unfold X2s
 rw [X8o];rfl
theorem Xa1 (lo hi a b c d:Int):X4 lo hi [a,b,c,d]=(X4 lo hi [a,b]||X4 lo hi [c,d]):=by simp [Bool.or_assoc]
theorem X7Z (a:Zt):X5N a=some (X55 a):=by
 rw [X6K];unfold X2P X55 X3C
 rw [X3i _ _ _ (by simp),X3i _ _ _ (by simp),Xw,X1z,Xa1]
 simp only [jS,X31]
 cases X4 (-30000) 30000 [a.X.Lo,a.X.Hi]
 ·cases X4 (-30000) 30000 [a.Y.Lo,a.Y.Hi]
  ·cases X4 0 1000 [a.Hza.Lo,a.Hza.Hi]
   ·cases X4 1 4 [a.Hz5]
    ·by_cases h1:a.X.Lo>a.X.Hi<;>by_cases h2:a.Y.Lo>a.Y.Hi<;>by_cases h3:a.Hza.Lo>a.Hza.Hi<;>simp [h1,h2,h3]
    ·by_cases h1:a.X.Lo>a.X.Hi<;>by_cases h2:a.Y.Lo>a.Y.Hi<;>by_cases h3:a.Hza.Lo>a.Hza.Hi<;>simp [h1,h2,h3]
   ·by_cases h1:a.X.Lo>a.X.Hi<;>by_cases h2:a.Y.Lo>a.Y.Hi<;>simp [h1,h2]
  ·simp
 ·simp
def X2c:Nat→List ByteArray→List Z5→Int×Int×Int
 | _,_,[]=>(0,0,0)
 | i,names,x::l=>if X7o x names=0 then X2c (i+1) (names++[x.Name]) l else (3,(i:Int),X7o x names)
def X3k:Nat→List Zt→Int×Int×Int
 | _,[]=>(0,0,0)
 | i,a::l=>if X55 a=0 then X3k (i+1) l else (4,(i:Int),X55 a)
def X3g (f:ZI):Int×Int×Int :=
 if (X4q f.Hz9).2.2≠0 then (1,0,(X4q f.Hz9).2.2) else
 if X4 0 40000 [f.Day]||X4 1 500 [f.Step]||X4 0 8 [f.Half] then (2,0,7) else
 if X4 1 4 [(f.Hz0.length:Int)] then (3,0,3) else
 if (X2c 0 [] f.Hz0).2.2≠0 then X2c 0 [] f.Hz0 else
 if 6<f.Hz7.length then (4,0,3) else X3k 0 f.Hz7
theorem X8x (l:List Zt) (hl:l.length≤6) (k:(Int×Int×Zt)⊕Unit→Option (Int×Int×Int)) (h1:∀ (i e:Int) y,e≠0→k (.inl (e,i,y))=some (4,i,e)) (h2:k (.inr ())=some (0,0,0)) :
  Option.bind (X4a l (↑l.length) 0) k=some (X3k 0 l):=by
 have key:=X5 (X1J l (↑l.length)) k l.length (fun i (_:Unit)=>(i:Int)) (fun _ _=>True) (fun i _=>some (X3k i (l.drop i)))
  (by
   intro b _ R
   simp [X1J,X1O,h2,X3k])
  (by
   intro i b hi _ R hR
   have hR':=hR () trivial
   simp only [X1J,X1O]
   rw [List.drop_eq_getElem_cons hi]
   simp only [kS,X1 _ _ _ hi,X3k]
   have hw:=wS i (by omega)
   rw [hw,X7B]
   have e1:decide ((i:Int)<↑l.length)=true:=by simp [hi]
   have e2:=z0S i
   simp only [e1,e2,Bool.and_self,cond_true,jS]
   by_cases h3:X55 l[i]=0
   ·simp only [h3,bne_self_eq_false,cond_false,jS,Sum.elim_inl,if_true]
    exact hR'
   ·simp [h3,X1A h3,h1])
 exact (key 0 () (by omega) trivial).trans (by simp)
theorem X8y (l:List Zt) (hl:l.length≤6) (k:(Int×Int×Zt)⊕Unit→Option (Int×Int×Int)) (h1:∀ (i e:Int) y,e≠0→k (.inl (e,i,y))=some (4,i,e)) (h2:k (.inr ())=some (0,0,0)) :
  Option.bind (X2U l (↑l.length) 0) k=some (X3k 0 l):=X8x l hl k h1 h2
theorem X94 (f:ZI) (hl:f.Hz0.length≤4) (k:(Int×Int×Z5×Z5)⊕Unit→Option (Int×Int×Int)) (r:Option (Int×Int×Int)) (h1:∀ (i e:Int) y y',e≠0→k (.inl (e,i,y,y'))=some (3,i,e)) (h2:k (.inr ())=r) :
  Option.bind (X49 f.Hz0 (↑f.Hz0.length) f 0) k=if (X2c 0 [] f.Hz0).2.2≠0 then some (X2c 0 [] f.Hz0) else r:=by
 have key:=X5 (X1I f.Hz0 (↑f.Hz0.length) f) k f.Hz0.length (fun i (_:Unit)=>(i:Int)) (fun _ _=>True) (fun i _=>if (X2c i ((f.Hz0.take i).map (·.Name)) (f.Hz0.drop i)).2.2≠0 then some (X2c i ((f.Hz0.take i).map (·.Name)) (f.Hz0.drop i)) else r)
  (by
   intro b _ R
   simp [X1I,X1N,h2,X2c])
  (by
   intro i b hi _ R hR
   have hR':=hR () trivial
   simp only [X1I,X1N]
   rw [List.drop_eq_getElem_cons hi]
   rw [←List.take_concat_get hi] at hR'
   simp only [List.concat_eq_append,List.map_append,List.map_cons,List.map_nil] at hR'
   simp only [kS,X1 _ _ _ hi,X2c,List.drop_zero]
   have hw:=wS i (by omega)
   rw [hw,X6U _ _ (by simp;omega)]
   have e1:decide ((i:Int)<↑f.Hz0.length)=true:=by simp [hi]
   have e2:=z0S i
   have e3:decide ((i:Int)≤↑f.Hz0.length)=true:=by simp;omega
   simp only [e1,e2,e3,Bool.and_self,cond_true,jS]
   by_cases h3:X7o f.Hz0[i] ((f.Hz0.take i).map (·.Name))=0
   ·simp only [h3,bne_self_eq_false,cond_false,jS,Sum.elim_inl,if_true]
    exact hR'
   ·simp only [X1A h3,cond_true,jS,Sum.elim_inr,h1 _ _ _ _ h3,if_neg h3]
    rw [if_pos h3])
 exact (key 0 () (by omega) trivial).trans (by simp)
theorem X84 (f:ZI):X6x f=some (X3g f):=by
 rw [X72];unfold X3b X3g
 rw [X69,X2 _ _ _ (by simp),X2 _ _ _ (by simp),X2 _ _ _ (by simp),X2 _ _ _ (by simp)]
 simp only [jS]
 by_cases h1:(X4q f.Hz9).2.2=0
 ·simp only [h1,bne_self_eq_false,cond_false,ne_eq,not_true,if_false]
  cases X4 0 40000 [f.Day]
  ·cases X4 1 500 [f.Step]
   ·cases X4 0 8 [f.Half]
    ·cases hi:X4 1 4 [(f.Hz0.length:Int)]
     ·have hl:f.Hz0.length≤4:=by simp at hi;omega
      simp only [cond_false,Bool.or_self,Bool.false_eq_true,if_false]
      have ha:(bif decide ((f.Hz7.length:Int)>6) then some (4,0,3) else Option.bind (X2U f.Hz7 (↑f.Hz7.length) 0) fun o257↦Sum.elim (fun y258↦bif y258.fst != 0 then some (4,y258.snd.fst,y258.fst) else some ((0:Int),(0:Int),(0:Int))) (fun y259↦some (0,0,0)) o257)=(some (if 6<f.Hz7.length then (4,0,3) else X3k 0 f.Hz7):Option (Int×Int×Int)):=by
       by_cases h6:6<f.Hz7.length
       ·have:decide ((f.Hz7.length:Int)>6)=true:=by simp;omega
        rw [this];simp [h6]
       ·have:decide ((f.Hz7.length:Int)>6)=false:=by simp;omega
        rw [this]
        simp only [cond_false,h6,if_false]
        exact X8y _ (by omega) _ (fun i e y he=>by simp [X1A he]) rfl
      rw [X94 f hl _ _ (fun i e y y' he=>by simp [X1A he]) (by simp only [Sum.elim_inr];exact ha)]
      by_cases h3:(X2c 0 [] f.Hz0).2.2=0<;>simp [h3]
     ·simp
    ·simp
   ·simp
  ·simp
 ·simp [h1,X1A h1]
theorem X82 (f:ZI) (hl:f.Hz0.length≤4) (k:(Int×Int×Int×List ByteArray×List ByteArray×Z5)⊕((Int×Int×Int×List ByteArray×List ByteArray×Z5)⊕List ByteArray)→Option (Int×Int×Int)) (r:Option (Int×Int×Int))
  (h1:∀ (i e:Int) y y' z,k (.inl (i,e,3,y,y',z))=some (3,i,e)) (h1':∀ (i e:Int) y y' z,k (.inr (.inl (i,e,3,y,y',z)))=some (3,i,e)) (h2:∀ l,k (.inr (.inr l))=r) :
  Option.bind (X3p f (0,[])) k=if (X2c 0 [] f.Hz0).2.2≠0 then some (X2c 0 [] f.Hz0) else r:=by
 have key:=X5 (WE f) k f.Hz0.length (fun i (b:List ByteArray)=>((i:Int),b)) (fun i b=>b=(f.Hz0.take i).map (·.Name)) (fun i b=>if (X2c i b (f.Hz0.drop i)).2.2≠0 then some (X2c i b (f.Hz0.drop i)) else r)
  (by
   intro b _ R
   simp [WE,X11,h2,X2c])
  (by
   intro i b hi hb R hR
   have hR':=hR (b++[f.Hz0[i].Name]) (by rw [hb,←List.take_concat_get hi,List.concat_eq_append,List.map_append];rfl)
   have hbl:b.length≤4:=by rw [hb];simp;omega
   simp only [WE,X11]
   rw [List.drop_eq_getElem_cons hi]
   simp only [kS,X1 _ _ _ hi,X2c]
   have hw:=wS i (by omega)
   rw [hw,X50 _ _ (by omega),X88]
   have e1:decide ((i:Int)<↑f.Hz0.length)=true:=by simp [hi]
   have e2:=z0S i
   have e3:Nat.ble ((b.length+[f.Hz0[i].Name].length)*(16+1)) 200000000000000=true:=by
    apply Nat.ble_eq_true_of_le;simp;omega
   have hf:IntKind.wrap .i64 (0-X48 f.Hz0[i]) = -X48 f.Hz0[i]:=by unfold X48;split<;>(rw [w64]<;>omega)
   simp only [e1,e2,e3,Bool.and_self,cond_true,jS,hf,X3C]
   rw [X3i _ _ _ (by simp)]
   unfold X7o
   by_cases h3:X1o f.Hz0[i].Name b=0
   ·simp only [h3,beq_self_eq_true,cond_true,ne_eq,not_true,if_false,jS,X31]
    cases ho:X4 (-X48 f.Hz0[i]) (X48 f.Hz0[i]) [f.Hz0[i].Off.Lo,f.Hz0[i].Off.Hi]
    ·by_cases h4:f.Hz0[i].Off.Lo>f.Hz0[i].Off.Hi
     ·simp [h4,h1]
     ·simp only [h4,Bool.false_eq_true,if_false,bne_self_eq_false,cond_false,jS,Sum.elim_inl,if_true]
      exact hR'
    ·simp [h1]
   ·have h5:=X1A h3
    simp [h3,X5q h3,h5,h1'])
 exact (key 0 [] (by omega) (by simp)).trans (by simp)
theorem X81 (f:ZI) (hl:f.Hz7.length≤6) (k:(Int×Int×Int)⊕Unit→Option (Int×Int×Int)) (h1:∀ (i e:Int),k (.inl (i,e,4))=some (4,i,e)) (h2:k (.inr ())=some (0,0,0)) :
  Option.bind (X3q f 0) k=some (X3k 0 f.Hz7):=by
 have key:=X5 (WF f) k f.Hz7.length (fun i (_:Unit)=>(i:Int)) (fun _ _=>True) (fun i _=>some (X3k i (f.Hz7.drop i)))
  (by
   intro b _ R
   simp [WF,X12,h2,X3k])
  (by
   intro i b hi _ R hR
   have hR':=hR () trivial
   simp only [WF,X12]
   rw [List.drop_eq_getElem_cons hi]
   simp only [kS,X1 _ _ _ hi,X3k]
   have hw:=wS i (by omega)
   rw [hw,X7Z]
   have e1:decide ((i:Int)<↑f.Hz7.length)=true:=by simp [hi]
   have e2:=z0S i
   simp only [e1,e2,Bool.and_self,cond_true,jS]
   by_cases h3:X55 f.Hz7[i]=0
   ·simp only [h3,bne_self_eq_false,cond_false,jS,Sum.elim_inl,if_true]
    exact hR'
   ·simp [h3,X1A h3,h1])
 exact (key 0 () (by omega) trivial).trans (by simp)
theorem X7D (f:ZI):X5g f=some (X3g f):=by
 rw [X6n];unfold X2w X3g
 rw [X7V,Xw,Xw,Xw,Xw,X1z,X1z,X1z,X1z]
 simp only [jS,Bool.not_not]
 by_cases h1:(X4q f.Hz9).2.2=0
 ·simp only [h1,bne_self_eq_false,cond_false,ne_eq,not_true,if_false]
  cases X4 0 40000 [f.Day]
  ·cases X4 1 500 [f.Step]
   ·cases X4 0 8 [f.Half]
    ·cases hi:X4 1 4 [(f.Hz0.length:Int)]
     ·have hl:f.Hz0.length≤4:=by simp at hi;omega
      simp only [cond_false,Bool.or_self,Bool.false_eq_true,if_false]
      rw [X82 f hl _ (some (if 6<f.Hz7.length then (4,0,3) else X3k 0 f.Hz7)) (fun i e y y' z=>rfl) (fun i e y y' z=>rfl) (fun l=>by
       simp only [Sum.elim_inr]
       by_cases h6:6<f.Hz7.length
       ·have:decide ((f.Hz7.length:Int)>6)=true:=by simp;omega
        rw [this];simp [h6]
       ·have:decide ((f.Hz7.length:Int)>6)=false:=by simp;omega
        rw [this]
        simp only [cond_false,h6,if_false]
        exact X81 f (by omega) _ (fun i e=>rfl) rfl)]
      by_cases h3:(X2c 0 [] f.Hz0).2.2=0<;>simp [h3]
     ·simp
    ·simp
   ·simp
  ·simp
 ·simp [h1,X1A h1]
end Nore
open Go Go.Ab
namespace Nore
def X4W (d:Int):Int→List Zj→Int
 | c,[]=>c
 | c,p::l=>X4W d (if p.Day≤d then p.Hz4 else c) l
def X5w (m:Zw) (d:Int):Int:=X4W d 0 m.Hz3
theorem X7s (d:Int) (p:Zj):∀ (l:List Zj) (c:Int),X4W d c (l++[p])=if p.Day≤d then p.Hz4 else X4W d c l
 | [],c=>rfl
 | q::l,c=>by simp only [List.cons_append,X4W,X7s d p l]
theorem X7a (m:Zw) (d:Int) (hl:m.Hz3.length<1000000):X4f m d=some (X5w m d):=by
 rw [X5y];unfold X1R X5w
 have key:=X5 (XU d m) (fun o=>some o) m.Hz3.length (fun i (b:Int)=>(b,(i:Int))) (fun _ _=>True) (fun i b=>some (X4W d b (m.Hz3.drop i)))
  (by
   intro b _ R
   simp [XU,W1,X4W])
  (by
   intro i b hi _ R hR
   simp only [XU,W1]
   rw [List.drop_eq_getElem_cons hi]
   simp only [kS,X1 _ _ _ hi,X4W]
   have hw:=wS i (by omega)
   rw [hw]
   have e1:decide ((i:Int)<↑m.Hz3.length)=true:=by simp [hi]
   have e2:=z0S i
   simp only [e1,e2,Bool.and_self,cond_true]
   by_cases h3:m.Hz3[i].Day≤d
   ·simp only [h3,decide_true,cond_true,jS,Sum.elim_inl,if_true]
    exact hR _ trivial
   ·simp only [h3,decide_false,cond_false,jS,Sum.elim_inl,if_false]
    exact hR _ trivial)
 exact key 0 0 (by omega) trivial
theorem X8J (d:Int) (l:List Zj) (hl:l.length<1000000) (k:(Zj×Int×Int)⊕Unit→Option (Zw×Int×Int)) (mk:Zw) (h1:∀ p c e,k (.inl (p,c,e))=some (mk,c,e)) (h2:k (.inr ())=some (mk,0,0)) :
  Option.bind (X1Z d l ((l.length:Int)-1)) k=some (mk,X4W d 0 l,0):=by
 have key:=X5 (W7 d l) k l.length (fun i (_:Unit)=>(l.length:Int)-1-i) (fun _ _=>True) (fun i _=>some (mk,X4W d 0 (l.take (l.length-i)),0))
  (by
   intro b _ R
   have:decide ((l.length:Int)-1-l.length≥0)=false:=by simp;omega
   simp only [W7,Wh,this,cond_false,jS,Sum.elim_inr,h2]
   simp [X4W])
  (by
   intro i b hi _ R hR
   have hR':=hR () trivial
   have ht:((l.length:Int)-1-i).toNat=l.length-1-i:=by omega
   have hj:l.length-1-i<l.length:=by omega
   simp only [W7,Wh,ht,X1 _ _ _ hj]
   have e1:decide ((l.length:Int)-1-i≥0)=true:=by simp;omega
   have e2:decide ((0:Int)≤(l.length:Int)-1-i)=true:=by simp;omega
   have e3:decide ((l.length:Int)-1-i<l.length)=true:=by simp;omega
   have hw:IntKind.wrap .i64 ((l.length:Int)-1-i-1)=(l.length:Int)-1-((i+1:Nat):Int):=by rw [w64]<;>omega
   simp only [e1,e2,e3,Bool.and_self,cond_true,hw]
   have hs:l.take (l.length-i)=l.take (l.length-(i+1))++[l[l.length-1-i]]:=by
    have:=List.take_concat_get hj
    rw [show l.length-i=l.length-1-i+1 by omega,←this,List.concat_eq_append,show l.length-(i+1)=l.length-1-i by omega]
   rw [hs,X7s]
   by_cases h3:l[l.length-1-i].Day≤d
   ·simp [h3,h1]
   ·simp only [h3,decide_false,cond_false,jS,Sum.elim_inl,if_false]
    exact hR')
 have:=key 0 () (by omega) trivial
 unfold X1Z
 simpa using this
theorem X96 (l:List Zj) (h:X3U l=0):l.length≤4:=by
 unfold X3U at h
 cases ho:X4 1 4 [(l.length:Int)]
 ·simp at ho;omega
 ·rw [ho] at h;simp at h
theorem X8K (sands:List CtSand):∀ (l:List Zw) (i:Nat) (names:List ByteArray),(X5l sands i names l).2.2=0→∀ m∈l,X41 30000 m.At=false∧m.Hz3.length≤4
 | [],_,_,_,m,hm=>by cases hm
 | x::l,i,names,h,m,hm=>by
  simp only [X5l] at h
  by_cases h0:X46 x names=0
  ·simp only [h0,if_true] at h
   rcases List.mem_cons.1 hm with e|e
   ·subst e
    unfold X46 at h0
    by_cases h1:X1o m.Name names=0
    ·simp only [h1,if_true] at h0
     cases hf:X41 30000 m.At
     ·rw [hf] at h0
      exact ⟨rfl,X96 _ (by simpa using h0)⟩
     ·rw [hf] at h0;simp at h0
    ·simp only [h1,if_false] at h0
   ·exact X8K sands l _ _ h m e
  ·simp only [h0,if_false] at h
structure XZ (f:ZI):Prop where
 chart:(X4q f.Hz9).2.2=0
 marks:f.Hz9.Hz8.length≤8
 mark:∀ m∈f.Hz9.Hz8,X41 30000 m.At=false∧m.Hz3.length≤4
 day:0≤f.Day∧f.Day≤40000
 step:1≤f.Step∧f.Step≤500
 half:0≤f.Half∧f.Half≤8
 inst:1≤f.Hz0.length∧f.Hz0.length≤4
 off:∀ x∈f.Hz0,-X48 x≤x.Off.Lo∧x.Off.Lo≤x.Off.Hi∧x.Off.Hi≤X48 x
 areas:f.Hz7.length≤6
 area:∀ a∈f.Hz7,X55 a=0
theorem X8H:∀ (l:List Z5) (i:Nat) (names:List ByteArray),(X2c i names l).2.2=0→∀ x∈l,-X48 x≤x.Off.Lo∧x.Off.Lo≤x.Off.Hi∧x.Off.Hi≤X48 x
 | [],_,_,_,m,hm=>by cases hm
 | x::l,i,names,h,m,hm=>by
  simp only [X2c] at h
  by_cases h0:X7o x names=0
  ·simp only [h0,if_true] at h
   rcases List.mem_cons.1 hm with e|e
   ·subst e
    unfold X7o at h0
    by_cases h1:X1o m.Name names=0
    ·simp only [h1,ne_eq,not_true,if_false] at h0
     cases ho:X4 (-X48 m) (X48 m) [m.Off.Lo,m.Off.Hi]
     ·rw [ho] at h0
      simp at ho h0
      omega
     ·rw [ho] at h0;simp at h0
    ·simp only [ne_eq,h1,not_false_eq_true,if_true] at h0
   ·exact X8H l _ _ h m e
  ·simp only [h0,if_false] at h
theorem X8z:∀ (l:List Zt) (i:Nat),(X3k i l).2.2=0→∀ x∈l,X55 x=0
 | [],_,_,m,hm=>by cases hm
 | x::l,i,h,m,hm=>by
  simp only [X3k] at h
  by_cases h0:X55 x=0
  ·simp only [h0,if_true] at h
   rcases List.mem_cons.1 hm with e|e
   ·subst e;exact h0
   ·exact X8z l _ h m e
  ·simp only [h0,if_false] at h
theorem X7Q {f:ZI} (h:(X3g f).2.2=0):XZ f:=by
 unfold X3g at h
 by_cases h1:(X4q f.Hz9).2.2=0
 ·simp only [h1,ne_eq,not_true,if_false] at h
  cases h2:(X4 0 40000 [f.Day]||X4 1 500 [f.Step]||X4 0 8 [f.Half])
  ·rw [h2] at h
   cases h3:X4 1 4 [(f.Hz0.length:Int)]
   ·rw [h3] at h
    simp only [Bool.false_eq_true,if_false] at h
    by_cases h4:(X2c 0 [] f.Hz0).2.2=0
    ·simp only [h4,ne_eq,not_true,if_false] at h
     by_cases h5:6<f.Hz7.length
     ·rw [if_pos h5] at h;simp at h
     ·rw [if_neg h5] at h
      simp at h2 h3
      have hm:¬ 8<f.Hz9.Hz8.length:=fun q=>by unfold X4q at h1;rw [if_pos q] at h1;simp at h1
      have h1':=h1
      unfold X4q at h1'
      rw [if_neg hm] at h1'
      exact ⟨h1,by omega,X8K _ _ _ _ h1',by omega,by omega,by omega,by omega,X8H _ _ _ h4,by omega,X8z _ _ h⟩
    ·exfalso
     rw [if_pos h4] at h;exact h4 h
   ·rw [h3] at h;simp at h
  ·rw [h2] at h;simp at h
 ·rw [if_pos h1] at h;exact absurd h h1
theorem X5t {f:ZI} (hg:XZ f) (mark:Int) (h0:0≤mark) (h1:mark<f.Hz9.Hz8.length) :
  X3D f.Hz9 f.Day mark=some (f.Hz9.Hz8.getD mark.toNat ⟨ByteArray.empty,⟨0,0⟩,[]⟩,X5w (f.Hz9.Hz8.getD mark.toNat ⟨ByteArray.empty,⟨0,0⟩,[]⟩) f.Day,0):=by
 rw [X5T];unfold X26
 have hm:=hg.marks
 have hd:=hg.day
 have hj:mark.toNat<f.Hz9.Hz8.length:=by omega
 have hp:=(hg.mark _ (List.getElem_mem hj)).2
 have hw:IntKind.wrap .i64 ((f.Hz9.Hz8.length:Int)-1)=(f.Hz9.Hz8.length:Int)-1:=by rw [w64]<;>omega
 rw [X69,X18 _ _ _ (by simp),X18 _ _ _ (by simp),hw]
 have o1:X4 0 40000 [f.Day]=false:=by simp;omega
 have o2:X4 0 ((f.Hz9.Hz8.length:Int)-1) [mark]=false:=by simp;omega
 have e1:decide (0≤mark)=true:=by simp [h0]
 have e2:decide (mark<(f.Hz9.Hz8.length:Int))=true:=by simp [h1]
 simp only [jS,hg.chart,bne_self_eq_false,cond_false,o1,o2,e1,e2,Bool.and_self,cond_true,X1 _ _ _ hj]
 have hw2:IntKind.wrap .i64 ((f.Hz9.Hz8[mark.toNat].Hz3.length:Int)-1)=(f.Hz9.Hz8[mark.toNat].Hz3.length:Int)-1:=by rw [w64]<;>omega
 rw [hw2]
 exact X8J f.Day _ (by omega) _ _ (fun p c e=>rfl) rfl
def Z8t (f:ZI) (mark:Int):Zw:=f.Hz9.Hz8.getD mark.toNat ⟨ByteArray.empty,⟨0,0⟩,[]⟩
def X4G (f:ZI) (mark:Int):Bool:=X5w (Z8t f mark) f.Day != 0
theorem X9c {f:ZI} (hg:XZ f) (mark:Int) (h0:0≤mark) (h1:mark<f.Hz9.Hz8.length) (l:List Zl) (kit:Nat→Nat) (m:List (Zh×Int)) :
  XS (mark,f,l,kit,m)=some (X4G f mark,f,l,kit,m):=by
 rw [X3K];unfold XD
 rw [X5R];unfold X25
 rw [X5t hg mark h0 h1]
 rfl
def Kit (f:ZI) (kit:Nat→Nat):Prop:=∀ i,(h:i<f.Hz0.length)→kit i=if f.Hz0[i].Lead then 2 else 1
def Xy (f:ZI) (i:Int):Z5:=f.Hz0.getD i.toNat ⟨ByteArray.empty,false,⟨0,0⟩⟩
def XK (f:ZI) (x:Zl):Int :=
 if X4 0 ((f.Hz0.length:Int)-1) [x.Hz1] then 4 else
 if (Xy f x.Hz1).Lead then (if X4 0 1000 [x.Hz6]||X4 0 4 [x.Hz5] then 7 else if x.Mark≠0 then 2 else 0)
 else if X4 0 ((f.Hz9.Hz8.length:Int)-1) [x.Mark] then 4 else if X4G f x.Mark=false then 9 else if X4 0 31 [x.Hz6] then 7 else if x.Hz5≠0 then 7 else 0
theorem X9w {f:ZI} (hg:XZ f) (x:Zl) (l:List Zl) {kit:Nat→Nat} (hk:Kit f kit) (m:List (Zh×Int)) :
  X1l (x,f,l,kit,m)=some (XK f x,f,l,kit,m):=by
 rw [X43];unfold XN XK
 have hm:=hg.marks
 have hi:=hg.inst
 have hw:IntKind.wrap .i64 ((f.Hz9.Hz8.length:Int)-1)=(f.Hz9.Hz8.length:Int)-1:=by rw [w64]<;>omega
 have hw2:IntKind.wrap .i64 ((f.Hz0.length:Int)-1)=(f.Hz0.length:Int)-1:=by rw [w64]<;>omega
 simp only [hw,hw2]
 rw [X2 _ _ _ (by simp),X2 _ _ _ (by simp),X2 _ _ _ (by simp),X2 _ _ _ (by simp),X2 _ _ _ (by simp)]
 simp only [jS]
 cases ho:X4 0 ((f.Hz0.length:Int)-1) [x.Hz1]
 ·simp at ho
  have hj:x.Hz1.toNat<f.Hz0.length:=by omega
  have e1:decide (0≤x.Hz1)=true:=by simp;omega
  have e2:decide (x.Hz1<((4:Nat):Int))=true:=by simp;omega
  have e3:Nat.blt x.Hz1.toNat 4=true:=by rw [Tr.blt_dec];simp;omega
  have hkk:=hk _ hj
  have hio:Xy f x.Hz1=f.Hz0[x.Hz1.toNat]:=X1 _ _ _ hj
  rw [hio]
  have e2':decide (x.Hz1<(4:Int))=true:=by simp;omega
  simp only [cond_false,Bool.false_eq_true,if_false,e1,e2,e2',e3,Bool.and_self,cond_true]
  cases hL:f.Hz0[x.Hz1.toNat].Lead
  ·rw [hL] at hkk
   simp only [Bool.false_eq_true,if_false] at hkk
   simp only [hkk,show Nat.beq 1 0=false from rfl,show Nat.beq 1 1=true from rfl,cond_false,cond_true,Bool.false_eq_true,if_false]
   cases hmk:X4 0 ((f.Hz9.Hz8.length:Int)-1) [x.Mark]
   ·simp at hmk
    simp only [cond_false,Bool.false_eq_true,if_false]
    rw [X9c hg x.Mark (by omega) (by omega)]
    simp only [jS]
    cases X4G f x.Mark
    ·simp
    ·cases X4 0 31 [x.Hz6]
     ·by_cases h5:x.Hz5=0<;>simp [h5,X1A]
     ·simp
   ·simp
  ·rw [hL] at hkk
   simp only [if_true] at hkk
   simp only [hkk,show Nat.beq 2 0=false from rfl,show Nat.beq 2 1=false from rfl,show Nat.beq 2 (1+1)=true from rfl,cond_false,cond_true,if_true]
   cases X4 0 1000 [x.Hz6]
   ·cases X4 0 4 [x.Hz5]
    ·by_cases h5:x.Mark=0<;>simp [h5,X1A]
    ·simp
   ·simp
 ·simp
theorem X7E {f:ZI} (hg:XZ f) (x:Zl):X5j f x=some (XK f x):=by
 rw [X6r];unfold X2y XK
 have hm:=hg.marks
 have hi:=hg.inst
 have hw:IntKind.wrap .i64 ((f.Hz9.Hz8.length:Int)-1)=(f.Hz9.Hz8.length:Int)-1:=by rw [w64]<;>omega
 have hw2:IntKind.wrap .i64 ((f.Hz0.length:Int)-1)=(f.Hz0.length:Int)-1:=by rw [w64]<;>omega
 simp only [hw,hw2]
 rw [Xw,Xw,Xw,Xw,Xw,X1z,X1z,X1z,X1z,X1z]
 simp only [jS,Bool.not_not]
 cases ho:X4 0 ((f.Hz0.length:Int)-1) [x.Hz1]
 ·simp at ho
  have hj:x.Hz1.toNat<f.Hz0.length:=by omega
  have e1:decide (0≤x.Hz1)=true:=by simp;omega
  have e2:decide (x.Hz1<(f.Hz0.length:Int))=true:=by simp;omega
  have hio:Xy f x.Hz1=f.Hz0[x.Hz1.toNat]:=X1 _ _ _ hj
  rw [hio]
  simp only [cond_false,Bool.false_eq_true,if_false,e1,e2,Bool.and_self,cond_true,X1 _ _ _ hj]
  cases hL:f.Hz0[x.Hz1.toNat].Lead
  ·simp only [cond_false,Bool.false_eq_true,if_false]
   cases hmk:X4 0 ((f.Hz9.Hz8.length:Int)-1) [x.Mark]
   ·simp at hmk
    have hj2:x.Mark.toNat<f.Hz9.Hz8.length:=by omega
    have e3:decide (0≤x.Mark)=true:=by simp;omega
    have e4:decide (x.Mark<(f.Hz9.Hz8.length:Int))=true:=by simp;omega
    have hp:=(hg.mark _ (List.getElem_mem hj2)).2
    simp only [cond_false,Bool.false_eq_true,if_false,e3,e4,Bool.and_self,cond_true,X1 _ _ _ hj2]
    rw [X7a _ _ (by omega)]
    unfold X4G Z8t
    rw [X1 _ _ _ hj2]
    simp only [jS]
    by_cases h0:X5w f.Hz9.Hz8[x.Mark.toNat] f.Day=0
    ·simp [h0]
    ·simp only [X5q h0,X1A h0,cond_false,Bool.true_eq_false,if_false]
     cases X4 0 31 [x.Hz6]
     ·by_cases h5:x.Hz5=0<;>simp [h5,X1A]
     ·simp
   ·simp
  ·simp only [cond_true,if_true]
   cases X4 0 1000 [x.Hz6]
   ·cases X4 0 4 [x.Hz5]
    ·by_cases h5:x.Mark=0<;>simp [h5,X1A]
    ·simp
   ·simp
 ·simp
def WK (f:ZI):Nat→List Zl→Int×Int
 | _,[]=>(0,0)
 | i,x::l=>if XK f x=0 then WK f (i+1) l else ((i:Int),XK f x)
def X21 (f:ZI) (l:List Zl):Int×Int:=if (X3g f).2.2≠0 then (0,(X3g f).2.2) else if 8<l.length then (0,3) else WK f 0 l
theorem X67 (f:ZI) (l:List Zl):X2D f l=some (X21 f l):=by
 rw [X4n];unfold W2 X21
 rw [X7D]
 simp only [jS]
 by_cases h:(X3g f).2.2=0
 ·have hg:=X7Q h
  simp only [h,beq_self_eq_true,cond_true,bne_self_eq_false,cond_false,ne_eq,not_true,if_false]
  by_cases h8:8<l.length
  ·have:decide ((l.length:Int)>8)=true:=by simp;omega
   rw [this];simp [h8]
  ·have:decide ((l.length:Int)>8)=false:=by simp;omega
   rw [this]
   simp only [cond_false,h8,if_false]
   exact X5 (Xh l f) _ l.length (fun i (_:Unit)=>(i:Int)) (fun _ _=>True) (fun i _=>some (WK f i (l.drop i)))
    (by
     intro b _ R
     simp [Xh,Xm,WK])
    (by
     intro i b hi _ R hR
     have hR':=hR () trivial
     simp only [Xh,Xm]
     rw [List.drop_eq_getElem_cons hi]
     have hw:=wS i (by omega)
     simp only [kS,X1 _ _ _ hi,hw,WK]
     rw [X7E hg]
     have h1:decide ((i:Int)<↑l.length)=true:=by simp [hi]
     have h2:=z0S i
     simp only [h1,h2,Bool.and_self,cond_true,jS]
     by_cases he:XK f l[i]=0
     ·simp only [he,bne_self_eq_false,cond_false,jS,Sum.elim_inl,if_true]
      exact hR'
     ·simp [he,X1A he]) 0 () (by omega) trivial
 ·simp [h,X1A h,X5q h]
theorem X9D (f:ZI) (hi:f.Hz0.length≤4):∃ kit,X3m f.Hz0 (↑f.Hz0.length) (0,fun _=>0)=some kit∧Kit f kit:=by
 have key:∀ j i (b:Nat→Nat),f.Hz0.length-i=j→i≤f.Hz0.length→(∀ q,(h:q<f.Hz0.length)→q<i→b q=if f.Hz0[q].Lead then 2 else 1) →
   ∃ kit,Z8N (Wx f.Hz0 (↑f.Hz0.length)) ((i:Int),b)=some kit∧Kit f kit:=fun j=>by
  induction j with
  | zero =>
   intro i b hj hil hb
   have:i=f.Hz0.length:=by omega
   subst this
   refine ⟨b,?_,fun q hq=>hb q hq hq⟩
   rw [←X2G (Z8N _ _),X4p]
   simp [Wx,WS]
  | succ j ih =>
   intro i b hj hil hb
   have hlt:i<f.Hz0.length:=by omega
   have hw:=wS i (by omega)
   have e1:decide ((i:Int)<↑f.Hz0.length)=true:=by simp [hlt]
   have e2:=z0S i
   have e3:decide ((i:Int)<((4:Nat):Int))=true:=by simp;omega
   have e3':decide ((i:Int)<(4:Int))=true:=by simp;omega
   have e4:Nat.blt i 4=true:=by rw [Tr.blt_dec];simp;omega
   obtain ⟨kit,h1,h2⟩:=ih (i+1) (fun q=>if q=i then (if f.Hz0[i].Lead then 2 else 1) else b q) (by omega) (by omega) (fun q hq hq2=>by
    by_cases e:q=i
    ·subst e;simp
    ·simp only [e,if_false];exact hb q hq (by omega))
   refine ⟨kit,?_,h2⟩
   rw [←X2G (Z8N _ _),X4p]
   simp only [Wx,WS,kS,X1 _ _ _ hlt,hw,e1,e2,e3,e3',e4,Bool.and_self,cond_true]
   have hfun:(fun j=>bif Nat.beq j i then 1+1 else bif Nat.beq j i then 1 else b j)=fun q=>if q=i then 2 else b q:=by
    funext q;rw [Tr.beq_dec];by_cases e:q=i<;>simp [e]
   have hfun2:(fun j=>bif Nat.beq j i then 1 else b j)=fun q=>if q=i then 1 else b q:=by
    funext q;rw [Tr.beq_dec];by_cases e:q=i<;>simp [e]
   rw [hfun,hfun2]
   cases hL:f.Hz0[i].Lead
   ·rw [hL] at h1
    simp only [Bool.false_eq_true,if_false] at h1
    simp only [cond_false,jS,Sum.elim_inl]
    rw [X2G];exact h1
   ·rw [hL] at h1
    simp only [if_true] at h1
    simp only [cond_true,jS,Sum.elim_inl]
    rw [X2G];exact h1
 exact key _ 0 _ rfl (by omega) (fun q _ h=>by omega)
theorem X9u {f:ZI} (hg:XZ f) (l:List Zl) (h8:l.length≤8) {kit:Nat→Nat} (hk:Kit f kit) {γ:Type} (k:_→Option γ) :
  Option.bind (X3n l (↑l.length) (0,f,l,kit,[])) k=if (WK f 0 l).2=0 then k (.inr (f,l,kit,[])) else k (.inl ((WK f 0 l).2,(WK f 0 l).1,f,l,kit,l.getD (WK f 0 l).1.toNat ⟨0,0,0,0⟩,l.getD (WK f 0 l).1.toNat ⟨0,0,0,0⟩,[])):=by
 refine (X5 (Wy l (↑l.length)) k l.length (fun i (_:Unit)=>((i:Int),f,l,kit,[])) (fun _ _=>True) (fun i _=>if (WK f i (l.drop i)).2=0 then k (.inr (f,l,kit,[])) else k (.inl ((WK f i (l.drop i)).2,(WK f i (l.drop i)).1,f,l,kit,l.getD (WK f i (l.drop i)).1.toNat ⟨0,0,0,0⟩,l.getD (WK f i (l.drop i)).1.toNat ⟨0,0,0,0⟩,[])))
  (by
   intro b _ R
   simp [Wy,WT,WK])
  (by
   intro i b hi _ R hR
   have hR':=hR () trivial
   simp only [Wy,WT]
   rw [List.drop_eq_getElem_cons hi]
   have hw:=wS i (by omega)
   simp only [kS,X1 _ _ _ hi,hw,WK]
   rw [X9w hg _ _ hk]
   have h1:decide ((i:Int)<↑l.length)=true:=by simp [hi]
   have h2:=z0S i
   simp only [h1,h2,Bool.and_self,cond_true,jS]
   by_cases he:XK f l[i]=0
   ·simp only [he,bne_self_eq_false,cond_false,jS,Sum.elim_inl,if_true]
    exact hR'
   ·simp only [X1A he,cond_true,jS,Sum.elim_inr,if_neg he]
    rw [show ((i:Int)).toNat=i from rfl,X1 _ _ _ hi]) 0 () (by omega) trivial).trans (by simp)
theorem X9p (f:ZI) (l:List Zl):((X3g f).2.2≠0∨8<l.length)∧X2W (l,f)=some (.inl (X21 f l).2)∧(X21 f l).2≠0 ∨
  ∃ kit,XZ f∧l.length≤8∧Kit f kit∧X2W (l,f)=some (.inr ((X21 f l).2,f,l,kit,[])):=by
 rw [X5X];unfold X2b
 rw [X6d];unfold X2u
 rw [X84]
 unfold X21
 simp only [jS]
 by_cases h:(X3g f).2.2=0
 ·have hg:=X7Q h
  simp only [h,bne_self_eq_false,cond_false,ne_eq,not_true,if_false]
  by_cases h8:8<l.length
  ·have:decide ((l.length:Int)>8)=true:=by simp;omega
   rw [this];simp [h8]
  ·have:decide ((l.length:Int)>8)=false:=by simp;omega
   rw [this]
   simp only [cond_false,h8,if_false]
   obtain ⟨kit,hk1,hk2⟩:=X9D f hg.inst.2
   refine .inr ⟨kit,hg,by omega,hk2,?_⟩
   rw [hk1,jS]
   rw [X9u hg l (by omega) hk2]
   by_cases he:(WK f 0 l).2=0<;>simp [he]
 ·left
  simp [h,X1A h]
end Nore
open Go Go.Ab
namespace Nore
theorem X4K {β σ ω γ:Type} (st:σ→Option (σ⊕ω)) (k:ω→Option γ) (n:Nat) (emb:Nat→β→σ) (P:Nat→β→Prop) (Q:Nat→β→Option γ→Prop)
  (hd:∀ b,P n b→∀ R:σ→Option γ,Q n b (Option.bind (st (emb n b)) (Sum.elim R k)))
  (hn:∀ i b,i<n→P i b→∀ R:σ→Option γ,(∀ b',P (i+1) b'→Q (i+1) b' (R (emb (i+1) b')))→Q i b (Option.bind (st (emb i b)) (Sum.elim R k))) :
  ∀ i b,i≤n→P i b→Q i b (Option.bind (Z8N st (emb i b)) k):=by
 intro i b hi hP
 induction hj:n-i generalizing i b with
 | zero =>
  have:i=n:=by omega
  subst this
  rw [X4p];exact hd b hP _
 | succ j ih =>
  rw [X4p]
  exact hn i b (by omega) hP _ fun b' hb'=>ih (i+1) b' (by omega) hb' (by omega)
instance decPoint:DecidableEq Zu:=fun a b=>decidable_of_iff (a.X=b.X∧a.Y=b.Y) ⟨fun h=>Zu.ext h.1 h.2,fun h=>by subst h;exact ⟨rfl,rfl⟩⟩
def X4Y (v:Zu):Int×Zu :=
 if 0≤v.X∧0<v.Y then (0,v) else if 0<v.X∧v.Y≤0 then (8,⟨-v.Y,v.X⟩) else if v.X≤0∧v.Y<0 then (16,⟨-v.X,-v.Y⟩) else (24,⟨v.Y,-v.X⟩)
def X6:List Zu:=[⟨0,1000⟩,⟨195,981⟩,⟨383,924⟩,⟨556,831⟩,⟨707,707⟩,⟨831,556⟩,⟨924,383⟩,⟨981,195⟩]
def X6S (v:Zu) (l:List Zu):Nat:=l.countP fun q=>decide (q.X*v.Y-q.Y*v.X≤0)
def X4X (v:Zu):Int:=(X4Y v).1+(X6S (X4Y v).2 X6:Nat)-1
theorem X9g {v:Zu} (hb : -60000≤v.X∧v.X≤60000 ∧ -60000≤v.Y∧v.Y≤60000) (h0:¬ (v.X=0∧v.Y=0)):0≤(X4Y v).1∧(X4Y v).1≤24∧0≤(X4Y v).2.X∧(X4Y v).2.X≤60000∧0<(X4Y v).2.Y∧(X4Y v).2.Y≤60000:=by
 unfold X4Y
 split
 ·simp only;omega
 ·split
  ·simp only;omega
  ·split<;>simp only<;>omega
theorem X8u {γ:Type} (v:Zu) (hb : -60000≤v.X∧v.X≤60000 ∧ -60000≤v.Y∧v.Y≤60000) (h0:¬ (v.X=0∧v.Y=0)) (k:Int×Zu→Option γ) :
  Option.bind (X20 (0,v)) k=k (X4Y v):=by
 obtain ⟨x,y⟩:=v
 simp only at hb h0
 have stop:∀ (n:Int) (x y:Int),0≤x→0<y→Option.bind (Z8N Xd (n,⟨x,y⟩)) k=k (n,⟨x,y⟩):=fun n x y hx hy=>by
  rw [X4p]
  have e1:decide (x<0)=false:=by simp;omega
  have e2:decide (y≤0)=false:=by simp;omega
  simp only [Xd,Xz,e1,e2,cond_false,jS,Sum.elim_inr]
 have go:∀ (n:Int) (x y:Int),0≤n→n≤24 → -60000≤x→x≤60000 → -60000≤y→y≤60000→(x<0∨y≤0)→Option.bind (Z8N Xd (n,⟨x,y⟩)) k=Option.bind (Z8N Xd (n+8,⟨-y,x⟩)) k:=fun n x y h1 h2 h3 h4 h5 h6 h7=>by
  rw [X4p]
  have w1:IntKind.wrap .i64 (n+8)=n+8:=by rw [w64]<;>omega
  have w2:IntKind.wrap .i64 (0-y) = -y:=by rw [w64]<;>omega
  by_cases e1:x<0
  ·simp only [Xd,Xz,e1,decide_true,cond_true,jS,Sum.elim_inl,w1,w2]
  ·have e2:y≤0:=by omega
   simp only [Xd,Xz,e1,e2,decide_true,decide_false,cond_true,cond_false,jS,Sum.elim_inl,w1,w2]
 unfold X20 X4Y
 simp only
 by_cases c1:0≤x∧0<y
 ·rw [if_pos c1];exact stop _ _ _ c1.1 c1.2
 ·rw [if_neg c1]
  by_cases c2:0<x∧y≤0
  ·rw [if_pos c2,go 0 x y (by omega) (by omega) (by omega) (by omega) (by omega) (by omega) (by omega)]
   exact stop _ _ _ (by omega) (by omega)
  ·rw [if_neg c2]
   by_cases c3:x≤0∧y<0
   ·rw [if_pos c3,go 0 x y (by omega) (by omega) (by omega) (by omega) (by omega) (by omega) (by omega),go _ _ _ (by omega) (by omega) (by omega) (by omega) (by omega) (by omega) (by omega)]
    exact stop _ _ _ (by omega) (by omega)
   ·rw [if_neg c3,go 0 x y (by omega) (by omega) (by omega) (by omega) (by omega) (by omega) (by omega),go _ _ _ (by omega) (by omega) (by omega) (by omega) (by omega) (by omega) (by omega),go _ _ _ (by omega) (by omega) (by omega) (by omega) (by omega) (by omega) (by omega)]
    rw [show (- - y:Int)=y by omega]
    exact stop _ _ _ (by omega) (by omega)
theorem X8v {γ:Type} (q:Nat→Zu) (hq:∀ i,(h:i<8)→q i=X6[i]) (v:Zu) (hb:0≤v.X∧v.X≤60000∧0≤v.Y∧v.Y≤60000) (n:Int) (hn:0≤n∧n≤24) (k:Int→Option γ) :
  Option.bind (X36 q v (n,0)) k=k (n+(X6S v X6:Nat)):=by
 refine (X5 (W9 q v) k 8 (fun i (b:Int)=>(b,(i:Int))) (fun i b=>0≤b∧b≤24+i) (fun i b=>k (b+(X6S v (X6.drop i):Nat))) ?_ ?_ 0 n (by omega) (by omega)).trans (by simp)
 ·intro b _ R
  simp [W9,Wj,X6S,X6]
 ·intro i b hi hP R hR
  simp only [W9,Wj]
  rw [List.drop_eq_getElem_cons (show i<X6.length from hi)]
  have hw:=wS i (by omega)
  have hwb:IntKind.wrap .i64 (b+1)=b+1:=by rw [w64]<;>omega
  have e1:decide ((i:Int)<8)=true:=by simp;omega
  have e2:=z0S i
  have e3:decide ((i:Int)<((8:Nat):Int))=true:=by simp;omega
  have hqb:0≤(X6[i]'hi).X∧(X6[i]'hi).X≤1000∧0≤(X6[i]'hi).Y∧(X6[i]'hi).Y≤1000:=by
   have:i=0∨i=1∨i=2∨i=3∨i=4∨i=5∨i=6∨i=7:=by omega
   rcases this with rfl|rfl|rfl|rfl|rfl|rfl|rfl|rfl<;>simp [X6]
  have b1:=X5m (a:=(X6[i]'hi).X) (b:=v.Y) 1000 60000 (by omega) (by omega) (by omega) (by omega)
  have b2:=X5m (a:=(X6[i]'hi).Y) (b:=v.X) 1000 60000 (by omega) (by omega) (by omega) (by omega)
  simp only [kS,hq i hi,hw,hwb]
  rw [w64 (x:=(X6[i]'hi).X*v.Y) (by omega) (by omega),w64 (x:=(X6[i]'hi).Y*v.X) (by omega) (by omega),w64 (x:=(X6[i]'hi).X*v.Y-_) (by omega) (by omega)]
  simp only [e1,e2,e3,Bool.and_self,cond_true]
  unfold X6S at hR ⊢
  generalize X6[i]'hi=Q at *
  by_cases h:Q.X*v.Y-Q.Y*v.X≤0
  ·rw [List.countP_cons_of_pos (by simpa using h)]
   simp only [h,decide_true,cond_true,jS,Sum.elim_inl]
   rw [hR (b+1) (by omega)]
   congr 1
   push_cast
   omega
  ·rw [List.countP_cons_of_neg (by simpa using h)]
   simp only [h,decide_false,cond_false,jS,Sum.elim_inl]
   exact hR b (by omega)
theorem X7g (v:Zu) (hb : -60000≤v.X∧v.X≤60000 ∧ -60000≤v.Y∧v.Y≤60000) (h0:¬ (v.X=0∧v.Y=0)):X4D v=some (X4X v):=by
 rw [X5V];unfold X28
 have hq:=X9g hb h0
 rw [X8u v hb h0,X8v _ (fun i hi=>by
   have:i=0∨i=1∨i=2∨i=3∨i=4∨i=5∨i=6∨i=7:=by omega
   rcases this with rfl|rfl|rfl|rfl|rfl|rfl|rfl|rfl<;>rfl) _ (by omega) _ (by omega)]
 have hc:X6S (X4Y v).2 X6≤8:=List.countP_le_length (l:=X6)
 unfold X4X
 rw [w64 (by omega) (by omega)]
theorem X8O {v:Zu} (hb : -60000≤v.X∧v.X≤60000 ∧ -60000≤v.Y∧v.Y≤60000) (h0:¬ (v.X=0∧v.Y=0)):0≤X4X v∧X4X v≤31:=by
 have hq:=X9g hb h0
 have hc:X6S (X4Y v).2 X6≤8:=List.countP_le_length (l:=X6)
 have h1:1≤X6S (X4Y v).2 X6:=by
  unfold X6S X6
  rw [List.countP_cons_of_pos (by simp;omega)]
  omega
 unfold X4X
 omega
def X7v (f:ZI) (mark:Int) (p:Zu):Int×Int :=
 if X4G f mark=false then (0,9) else if X41 30000 p then (0,7) else if (Z8t f mark).At=p then (0,8) else (X4X (Xp (Z8t f mark).At p),0)
def X4B (f:ZI) (mark:Int) (p:Zu):Int:=if (X7v f mark p).2≠0 then -1 else (X7v f mark p).1
theorem X8r {f:ZI} (hg:XZ f) {mark:Int} (h0:0≤mark) (h1:mark<f.Hz9.Hz8.length):Bd 30000 (Z8t f mark).At:=by
 have hj:mark.toNat<f.Hz9.Hz8.length:=by omega
 have:=(hg.mark _ (List.getElem_mem hj)).1
 rw [X71] at this
 unfold Z8t
 rw [X1 _ _ _ hj];exact this
theorem X7M {f:ZI} (hg:XZ f) (mark:Int) (h0:0≤mark) (h1:mark<f.Hz9.Hz8.length) (p:Zu):X5G f.Hz9 f.Day mark p=some (X7v f mark p):=by
 rw [X6F];unfold X2H X7v
 rw [X57];unfold X1k
 rw [X5t hg mark h0 h1]
 have hb:=X8r hg h0 h1
 unfold X4G Z8t at *
 generalize hM:f.Hz9.Hz8.getD mark.toNat ⟨ByteArray.empty,⟨0,0⟩,[]⟩=M at *
 simp only [jS,beq_self_eq_true,cond_true]
 by_cases hp:X5w M f.Day=0
 ·simp [hp]
 ·simp only [X5q hp,cond_false,jS,bne_self_eq_false,X1A hp,Bool.true_eq_false,if_false]
  rw [X5H _ (by omega) _ (by simp)]
  simp only [jS,List.any_cons,List.any_nil,Bool.or_false]
  cases hf:X41 30000 p
  ·rw [X71] at hf
   unfold Bd at hb hf
   simp only [cond_false,Bool.false_eq_true,if_false,Bool.and_true]
   by_cases he:M.At=p
   ·subst he;simp
   ·have:(M.At.X==p.X&&M.At.Y==p.Y)=false:=by
     cases hc:(M.At.X==p.X&&M.At.Y==p.Y)
     ·rfl
     ·exfalso;simp at hc;exact he (Zu.ext hc.1 hc.2)
    rw [this,if_neg he]
    simp only [cond_false]
    rw [w64 (x:=M.At.X-p.X) (by omega) (by omega),w64 (x:=M.At.Y-p.Y) (by omega) (by omega)]
    have h00:¬ (M.At.X-p.X=0∧M.At.Y-p.Y=0):=fun q=>he (Zu.ext (by omega) (by omega))
    rw [X7g _ (by simp only;omega) h00]
    rfl
  ·simp
theorem X9R {f:ZI} (hg:XZ f) {mark:Int} (h0:0≤mark) (h1:mark<f.Hz9.Hz8.length) (p:Zu) : -1≤X4B f mark p∧X4B f mark p≤31:=by
 have hb:=X8r hg h0 h1
 unfold X4B X7v
 by_cases h:X4G f mark=false
 ·simp [h]
 ·rw [if_neg h]
  by_cases h3:X41 30000 p=true
  ·simp [h3]
  ·rw [if_neg h3]
   by_cases h4:(Z8t f mark).At=p
   ·simp [h4]
   ·rw [if_neg h4]
    simp only [Bool.not_eq_true] at h3
    rw [X71] at h3
    unfold Bd at hb h3
    have:=X8O (v:=Xp (Z8t f mark).At p) (by unfold Xp;simp only;omega) (fun q=>h4 (by unfold Xp at q;simp only at q;exact Zu.ext (by omega) (by omega)))
    simp only [ne_eq,not_true,if_false]
    omega
theorem X5P (a b:Zh):Zh.eqb a b=true↔a=b:=by
 obtain ⟨m,⟨x,y⟩⟩:=a
 obtain ⟨m',⟨x',y'⟩⟩:=b
 simp [Zh.eqb]
theorem X7r {v:Int} (s k:Zh):∀ m:List (Zh×Int),Z8u Zh.eqb s (Zg8 Zh.eqb k v m)=bif Zh.eqb s k then some v else Z8u Zh.eqb s m
 | []=>by
  simp only [Zg8,Z8u]
 | (a,b)::m=>by
  have ih:=X7r (v:=v) s k m
  simp only [Zg8]
  have sym:∀ x y,Zh.eqb x y=Zh.eqb y x:=fun x y=>by
   cases h:Zh.eqb y x with
   | true=>rw [(X5P _ _).1 h,(X5P x x).2 rfl]
   | false=>cases h2:Zh.eqb x y with
    | false=>rfl
    | true=>rw [(X5P _ _).1 h2,(X5P y y).2 rfl] at h;cases h
  cases e:Zh.eqb a k with
  | true =>
   have:=(X5P _ _).1 e
   subst this
   simp only [e,cond_true,Z8u]
   cases Zh.eqb s a<;>rfl
  | false =>
   have e6:Zh.eqb k a=false:=by rw [sym];exact e
   simp only [e,e6,cond_false,Z8u,ih]
   cases h:Zh.eqb s k with
   | true =>
    have:=(X5P _ _).1 h
    subst this
    simp [e,e6]
   | false=>rfl
def WL (f:ZI) (m:List (Zh×Int)):Prop:=∀ (mark:Int) p n,0≤mark→mark<f.Hz9.Hz8.length→Z8u Zh.eqb ⟨mark,p⟩ m=some n→n=X4B f mark p
theorem X8Z (f:ZI):WL f []:=fun _ _ _ _ _ h=>by cases h
theorem X9e {f:ZI} (hg:XZ f) {mark:Int} (h0:0≤mark) (h1:mark<f.Hz9.Hz8.length) (p:Zu) (l:List Zl) (kit:Nat→Nat) {m:List (Zh×Int)} (hm:WL f m) :
  ∃ m',WL f m'∧XT (mark,p,f,l,kit,m)=some (X4B f mark p,f,l,kit,m'):=by
 rw [X3P];unfold XF
 cases hf:Z8u Zh.eqb ⟨mark,p⟩ m with
 | some n=>exact ⟨m,hm,by simp only [hf,Option.isSome_some,Bool.not_true,cond_false,Option.getD_some];rw [hm _ _ _ h0 h1 hf]⟩
 | none =>
  simp only [hf,Option.isSome_none,Bool.not_false,cond_true]
  rw [X7M hg mark h0 h1]
  have put:∀ v,v=X4B f mark p→WL f (Zg8 Zh.eqb ⟨mark,p⟩ v m):=fun v hv mk q n k0 k1 hq=>by
   rw [X7r] at hq
   cases e:Zh.eqb ⟨mk,q⟩ ⟨mark,p⟩ with
   | true =>
    rw [e] at hq
    cases (X5P _ _).1 e;cases hq;exact hv
   | false =>
    rw [e] at hq
    exact hm _ _ _ k0 k1 hq
  simp only [jS]
  by_cases he:(X7v f mark p).2=0
  ·have hs:X4B f mark p=(X7v f mark p).1:=by unfold X4B;rw [if_neg (by simp [he])]
   refine ⟨_,put _ hs.symm,?_⟩
   simp only [he,bne_self_eq_false,cond_false,hs]
  ·have hs:X4B f mark p = -1:=by unfold X4B;rw [if_pos he]
   refine ⟨_,put _ hs.symm,?_⟩
   simp only [X1A he,cond_true,hs]
def X9l (shown Z5O:Int):Int:=if (shown-Z5O+32) % 32>16 then (shown-Z5O+32) % 32-32 else (shown-Z5O+32) % 32
def X4u (a:Zt) (p:Zu):Bool := !X4 a.X.Lo a.X.Hi [p.X] && !X4 a.Y.Lo a.Y.Hi [p.Y]
def X6P (f:ZI) (p:Zu):Option Zt:=f.Hz7.find? fun a=>X4u a p
def X2X (f:ZI) (p:Zu) (x:Zl):ZE×Bool :=
 if (Xy f x.Hz1).Lead then (match X6P f p with
  | none=>(⟨-20,20⟩,true)
  | some a=>(⟨x.Hz6-a.Hza.Hi,x.Hz6-a.Hza.Lo⟩,x.Hz5==0||x.Hz5==a.Hz5))
 else (⟨X9l x.Hz6 (X4B f x.Mark p),X9l x.Hz6 (X4B f x.Mark p)⟩,decide (X4B f x.Mark p≥0))
theorem X54 {f:ZI} {x:Zl} (h:XK f x=0):(0≤x.Hz1∧x.Hz1<f.Hz0.length)∧((Xy f x.Hz1).Lead=true→0≤x.Hz6∧x.Hz6≤1000∧0≤x.Hz5∧x.Hz5≤4∧x.Mark=0) ∧
  ((Xy f x.Hz1).Lead=false→0≤x.Mark∧x.Mark<f.Hz9.Hz8.length∧X4G f x.Mark=true∧0≤x.Hz6∧x.Hz6≤31∧x.Hz5=0):=by
 unfold XK at h
 cases h1:X4 0 ((f.Hz0.length:Int)-1) [x.Hz1]
 ·rw [h1] at h
  simp only [Bool.false_eq_true,if_false] at h
  simp at h1
  refine ⟨by omega,fun hL => ?_,fun hL => ?_⟩
  ·rw [if_pos hL] at h
   cases h2:X4 0 1000 [x.Hz6]
   ·cases h3:X4 0 4 [x.Hz5]
    ·rw [h2,h3] at h
     simp at h h2 h3
     omega
    ·rw [h2,h3] at h;simp at h
   ·rw [h2] at h;simp at h
  ·rw [if_neg (by simp [hL])] at h
   cases h2:X4 0 ((f.Hz9.Hz8.length:Int)-1) [x.Mark]
   ·rw [h2] at h
    cases h3:X4G f x.Mark
    ·rw [h3] at h;simp at h
    ·cases h4:X4 0 31 [x.Hz6]
     ·rw [h3,h4] at h
      simp at h h2 h4
      exact ⟨by omega,by omega,rfl,by omega,by omega,by omega⟩
     ·rw [h3,h4] at h;simp at h
   ·rw [h2] at h;simp at h
 ·rw [h1] at h;simp at h
theorem X8E {f:ZI} (hg:XZ f) {x:Zl} (hx:XK f x=0) (hL:(Xy f x.Hz1).Lead=false) (p:Zu) (l:List Zl) (kit:Nat→Nat) {m:List (Zh×Int)} (hm:WL f m) :
  ∃ m',WL f m'∧Xn (p,x,f,l,kit,m)=some ((X2X f p x).1,(X2X f p x).2,f,l,kit,m'):=by
 obtain ⟨h1,_,h3⟩:=X54 hx
 have h3:=h3 hL
 obtain ⟨m',hm',ht⟩:=X9e hg h3.1 h3.2.1 p l kit hm
 refine ⟨m',hm',?_⟩
 rw [X3R];unfold XG X2X X9l
 rw [ht,if_neg (by simp [hL])]
 have hs:=X9R hg h3.1 h3.2.1 p
 generalize X4B f x.Mark p=s at *
 simp only [jS]
 rw [w64 (x:=x.Hz6-s) (by omega) (by omega),w64 (x:=x.Hz6-s+32) (by omega) (by omega)]
 have ht:(x.Hz6-s+32).tmod 32=(x.Hz6-s+32) % 32:=Int.tmod_eq_emod_of_nonneg (by omega)
 rw [ht]
 by_cases hc:(x.Hz6-s+32) % 32>16
 ·have hw:IntKind.wrap .i64 ((x.Hz6-s+32) % 32-32)=(x.Hz6-s+32) % 32-32:=by rw [w64]<;>omega
  simp only [hc,decide_true,cond_true,if_true,hw]
 ·simp only [hc,decide_false,cond_false,if_false]
theorem X9f {a:Zt} (h:X55 a=0):0≤a.Hza.Lo∧a.Hza.Lo≤a.Hza.Hi∧a.Hza.Hi≤1000∧a.X.Lo≤a.X.Hi∧a.Y.Lo≤a.Y.Hi∧1≤a.Hz5∧a.Hz5≤4:=by
 unfold X55 at h
 cases h1:(X4 (-30000) 30000 [a.X.Lo,a.X.Hi,a.Y.Lo,a.Y.Hi]||X4 0 1000 [a.Hza.Lo,a.Hza.Hi]||X4 1 4 [a.Hz5])
 ·rw [h1] at h
  simp at h h1
  omega
 ·rw [h1] at h;simp at h
theorem X9E {f:ZI} (hg:XZ f) {x:Zl} (hx:XK f x=0) (hL:(Xy f x.Hz1).Lead=true) (p:Zu) (l:List Zl) (kit:Nat→Nat) (m:List (Zh×Int)) :
  Wa (p,x,f,l,kit,m)=some ((X2X f p x).1,(X2X f p x).2,f,l,kit,m):=by
 obtain ⟨h1,h2,_⟩:=X54 hx
 have h2:=h2 hL
 rw [X4w];unfold Wl X2X
 rw [if_pos hL]
 have ha:=hg.areas
 refine (X5 (Xl (↑f.Hz7.length) f.Hz7 p) _ f.Hz7.length (fun i (_:Unit)=>(i:Int)) (fun _ _=>True) (fun i _=>match (f.Hz7.drop i).find? fun a=>X4u a p with
   | none=>some (⟨-20,20⟩,true,f,l,kit,m)
   | some a=>some (⟨x.Hz6-a.Hza.Hi,x.Hz6-a.Hza.Lo⟩,x.Hz5==0||x.Hz5==a.Hz5,f,l,kit,m)) ?_ ?_ 0 () (by omega) trivial).trans ?_
 ·intro b _ R
  simp [Xl,Xv]
 ·intro i b hi _ R hR
  have hR':=hR () trivial
  have hab:=X9f (hg.area _ (List.getElem_mem hi))
  simp only [Xl,Xv]
  rw [List.drop_eq_getElem_cons hi,List.find?_cons]
  have hw:=wS i (by omega)
  simp only [kS,X1 _ _ _ hi,hw]
  rw [X2 _ _ _ (by simp),X2 _ _ _ (by simp)]
  have e1:decide ((i:Int)<↑f.Hz7.length)=true:=by simp [hi]
  have e2:=z0S i
  have e3:decide ((i:Int)<0)=false:=by simp
  simp only [e1,e2,Bool.and_self,cond_true,jS]
  have w1:IntKind.wrap .i64 (x.Hz6-f.Hz7[i].Hza.Hi)=x.Hz6-f.Hz7[i].Hza.Hi:=by rw [w64]<;>omega
  have w2:IntKind.wrap .i64 (x.Hz6-f.Hz7[i].Hza.Lo)=x.Hz6-f.Hz7[i].Hza.Lo:=by rw [w64]<;>omega
  cases o1:X4 f.Hz7[i].X.Lo f.Hz7[i].X.Hi [p.X]
  ·cases o2:X4 f.Hz7[i].Y.Lo f.Hz7[i].Y.Hi [p.Y]
   ·have:X4u f.Hz7[i] p=true:=by unfold X4u;rw [o1,o2];rfl
    simp only [this,Bool.not_false,cond_true,jS,Sum.elim_inr,Sum.elim_inl,e3,cond_false,e1,e2,Bool.and_self,kS,X1 _ _ _ hi,w1,w2]
    by_cases hG:x.Hz5=0
    ·simp [hG]
    ·simp [X5q hG]
   ·have:X4u f.Hz7[i] p=false:=by unfold X4u;rw [o1,o2];rfl
    simp only [this,Bool.not_false,Bool.not_true,cond_true,cond_false,jS,Sum.elim_inl]
    exact hR'
  ·have:X4u f.Hz7[i] p=false:=by unfold X4u;rw [o1];rfl
   simp only [this,Bool.not_true,cond_false,jS,Sum.elim_inl]
   exact hR'
 ·simp only [List.drop_zero,X6P]
  cases f.Hz7.find? fun a=>X4u a p<;>rfl
end Nore
open Go Go.Ab
namespace Nore
def X7f (x k:Int):Bool:=IntKind.wrap IntKind.i64 (↑(BitVec.toNat (BitVec.ofInt (IntKind.bits IntKind.i64) (Int.fdiv x (2 ^ min (Int.toNat k) (IntKind.bits IntKind.i64))) &&& BitVec.ofInt (IntKind.bits IntKind.i64) 1)):Int)==1
theorem X9k (k:Int):X7f 0 k=false:=by
 unfold X7f
 rw [show Int.fdiv 0 (2 ^ min (Int.toNat k) (IntKind.bits IntKind.i64))=0 from Int.zero_fdiv _]
 decide
def X34 (f:ZI) (ib mb:Int) (x:Zl):Bool:=X7f ib x.Hz1||(!(Xy f x.Hz1).Lead&&X7f mb x.Mark)
def X5I (n a:ZE):ZE:=⟨if a.Lo>n.Lo then a.Lo else n.Lo,if a.Hi<n.Hi then a.Hi else n.Hi⟩
def atL (f:ZI) (p:Zu) (ib mb:Int):(Nat→ZE)→List Zl→(Nat→ZE)×Bool
 | s,[]=>(s,true)
 | s,x::l=>if X34 f ib mb x then atL f p ib mb s l else
  if (X2X f p x).2=false∨(X5I (X2X f p x).1 (s x.Hz1.toNat)).Lo>(X5I (X2X f p x).1 (s x.Hz1.toNat)).Hi then (s,false) else
  atL f p ib mb (fun j=>if j=x.Hz1.toNat then X5I (X2X f p x).1 (s x.Hz1.toNat) else s j) l
def X7 (f:ZI) (i:Nat):ZE:=if h:i<f.Hz0.length then f.Hz0[i].Off else ⟨0,0⟩
def atN (f:ZI) (l:List Zl) (p:Zu) (ib mb:Int):(Nat→ZE)×Bool:=atL f p ib mb (X7 f) l
theorem X9C {γ:Type} (f:ZI) (hi4:f.Hz0.length≤4) (x0 x2:Int) (l:List Zl) (kit:Nat→Nat) (m:List (Zh×Int)) (p:Zu) (k:(Nat→ZE)→Option γ) :
  Option.bind (X2n (↑f.Hz0.length) x0 x2 f.Hz0 f l kit m p (0,fun _=>⟨0,0⟩)) k=k (X7 f):=by
 refine (X5 (Xq (↑f.Hz0.length) x0 x2 f.Hz0 f l kit m p) k f.Hz0.length (fun i (b:Nat→ZE)=>((i:Int),b)) (fun i b=>∀ j,b j=if j<i then X7 f j else ⟨0,0⟩) (fun _ _=>k (X7 f)) ?_ ?_ 0 _ (by omega) (fun j=>by simp))
 ·intro b hb R
  have:b=X7 f:=by
   funext j
   rw [hb]
   by_cases h:j<f.Hz0.length
   ·simp [h]
   ·simp [h,X7]
  simp [Xq,XB,this]
 ·intro i b hi hb R hR
  have hw:=wS i (by omega)
  have e1:decide ((i:Int)<↑f.Hz0.length)=true:=by simp [hi]
  have e2:=z0S i
  have e3:decide ((i:Int)<((4:Nat):Int))=true:=by simp;omega
  have e3':decide ((i:Int)<(4:Int))=true:=by simp;omega
  have e4:Nat.blt i 4=true:=by rw [Tr.blt_dec];simp;omega
  simp only [Xq,XB,kS,X1 _ _ _ hi,hw,e1,e2,e3,e3',e4,Bool.and_self,cond_true,jS,Sum.elim_inl]
  refine hR _ fun j => ?_
  rw [Tr.beq_dec]
  by_cases e:j=i
  ·subst e;simp [X7,hi]
  ·simp only [e,decide_false,cond_false,hb j]
   by_cases h:j<i
   ·simp [h,show j<i+1 by omega]
   ·simp [h,show ¬ j<i+1 by omega]
theorem X9T {f:ZI} (hg:XZ f) {l:List Zl} (hl:∀ x∈l,XK f x=0) (hll:l.length≤8) {kit:Nat→Nat} (hk:Kit f kit) {m:List (Zh×Int)} (hm:WL f m) (p:Zu) (ib mb:Int) :
  ∃ m',WL f m'∧WM (ib,p,mb,f,l,kit,m)=some ((atN f l p ib mb).1,(atN f l p ib mb).2,f,l,kit,m'):=by
 rw [X4O];unfold WQ atN
 rw [X9C f hg.inst.2]
 have main:=X4K (Xr ib l mb (↑l.length) p) (fun o=>Sum.elim (fun (y:Bool×(Nat→ZE)×ZI×List Zl×(Nat→Nat)×ZE×List (Zh×Int)×Zl)=>some (y.snd.fst,y.fst,y.snd.snd.fst,y.snd.snd.snd.fst,y.snd.snd.snd.snd.fst,y.snd.snd.snd.snd.snd.snd.fst)) (fun y=>Sum.elim (fun (y:Bool×(Nat→ZE)×ZI×List Zl×(Nat→Nat)×ZE×List (Zh×Int)×Zl)=>some (y.snd.fst,y.fst,y.snd.snd.fst,y.snd.snd.snd.fst,y.snd.snd.snd.snd.fst,y.snd.snd.snd.snd.snd.snd.fst)) (fun (y:(Nat→ZE)×ZI×List Zl×(Nat→Nat)×List (Zh×Int))=>some (y.fst,true,y.snd.fst,y.snd.snd.fst,y.snd.snd.snd.fst,y.snd.snd.snd.snd)) y) o) l.length
  (fun i (b:(Nat→ZE)×List (Zh×Int))=>((i:Int),b.1,f,l,kit,b.2)) (fun _ b=>WL f b.2) (fun i b r=>∃ m',WL f m'∧r=some ((atL f p ib mb b.1 (l.drop i)).1,(atL f p ib mb b.1 (l.drop i)).2,f,l,kit,m'))
  (by
   intro b hb R
   refine ⟨b.2,hb,?_⟩
   simp [Xr,XC,atL])
  (by
   intro i b hi hb R hR
   have hx:=hl _ (List.getElem_mem hi)
   obtain ⟨x,hxd⟩:∃ x,l[i]=x:=⟨_,rfl⟩
   rw [hxd] at hx
   have hgd:l.getD i ⟨0,0,0,0⟩=x:=(X1 _ _ _ hi).trans hxd
   obtain ⟨h1,h2,h3⟩:=X54 hx
   have hi4:=hg.inst.2
   have hw:=wS i (by omega)
   have e1:decide ((i:Int)<↑l.length)=true:=by simp [hi]
   have e2:=z0S i
   simp only [Xr,XC,kS,hgd,hw,e1,e2,Bool.and_self,cond_true]
   rw [List.drop_eq_getElem_cons hi,hxd]
   have hj:x.Hz1.toNat<f.Hz0.length:=by omega
   have i1:decide (0≤x.Hz1)=true:=by simp;omega
   have i2:decide (x.Hz1<((4:Nat):Int))=true:=by simp;omega
   have i2':decide (x.Hz1<(4:Int))=true:=by simp;omega
   have i3:Nat.blt x.Hz1.toNat 4=true:=by rw [Tr.blt_dec];simp;omega
   have i4:decide (x.Hz1<0)=false:=by simp;omega
   have hkk:=hk _ hj
   have hio:Xy f x.Hz1=f.Hz0[x.Hz1.toNat]:=X1 _ _ _ hj
   have hcut:∀ (n a:ZE),(⟨bif decide (a.Lo>n.Lo) then a.Lo else n.Lo,bif decide (a.Hi<n.Hi) then a.Hi else n.Hi⟩:ZE)=X5I n a:=fun n a=>by
    unfold X5I
    by_cases c1:a.Lo>n.Lo<;>by_cases c2:a.Hi<n.Hi<;>simp [c1,c2]
   have hcut1:∀ (n a:ZE),(bif decide (a.Lo>n.Lo) then a.Lo else n.Lo)=(X5I n a).Lo:=fun n a=>by rw [←hcut]
   have hcut2:∀ (n a:ZE),(bif decide (a.Hi<n.Hi) then a.Hi else n.Hi)=(X5I n a).Hi:=fun n a=>by rw [←hcut]
   have hfun:∀ (c:ZE) (s:Nat→ZE),(fun j=>bif Nat.beq j x.Hz1.toNat then c else s j)=fun j=>if j=x.Hz1.toNat then c else s j:=fun c s=>by
    funext j;rw [Tr.beq_dec];by_cases e:j=x.Hz1.toNat<;>simp [e]
   simp only [i1,i2,i2',i3,i4,Bool.and_self,cond_true,cond_false,atL]
   rcases Bool.eq_false_or_eq_true (Xy f x.Hz1).Lead with hL|hL
   rotate_left
   ·rw [←hio,hL] at hkk
    simp only [Bool.false_eq_true,if_false] at hkk
    have h3:=h3 hL
    have i5:decide (x.Mark<0)=false:=by simp;omega
    simp only [hkk,show Nat.beq 1 0=false from rfl,show Nat.beq 1 1=true from rfl,cond_false,cond_true,i5]
    have hib:(IntKind.wrap IntKind.i64 (↑(BitVec.toNat (BitVec.ofInt (IntKind.bits IntKind.i64) (Int.fdiv ib (2 ^ min (Int.toNat x.Hz1) (IntKind.bits IntKind.i64))) &&& BitVec.ofInt (IntKind.bits IntKind.i64) 1)):Int)==1)=X7f ib x.Hz1:=rfl
    have hmb:(IntKind.wrap IntKind.i64 (↑(BitVec.toNat (BitVec.ofInt (IntKind.bits IntKind.i64) (Int.fdiv mb (2 ^ min (Int.toNat x.Mark) (IntKind.bits IntKind.i64))) &&& BitVec.ofInt (IntKind.bits IntKind.i64) 1)):Int)==1)=X7f mb x.Mark:=rfl
    rw [hib,hmb]
    rcases Bool.eq_false_or_eq_true (X7f ib x.Hz1) with hb1|hb1
    rotate_left
    ·rcases Bool.eq_false_or_eq_true (X7f mb x.Mark) with hb2|hb2
     rotate_left
     ·have hsk:X34 f ib mb x=false:=by unfold X34;rw [hL,hb1,hb2];rfl
      simp only [hb1,hb2,cond_false,hsk,Bool.false_eq_true,if_false]
      obtain ⟨m',hm',hc⟩:=X8E hg hx hL p l kit hb
      rw [hc]
      simp only [jS,hcut,hcut1,hcut2,hfun]
      cases ho:(X2X f p x).2
      ·exact ⟨m',hm',by simp⟩
      ·by_cases hc:(X5I (X2X f p x).1 (b.1 x.Hz1.toNat)).Lo>(X5I (X2X f p x).1 (b.1 x.Hz1.toNat)).Hi
       ·exact ⟨m',hm',by simp [hc]⟩
       ·simp only [Bool.not_true,cond_false,hc,decide_false,jS,Sum.elim_inl,Bool.true_eq_false,or_self,if_false]
        exact hR (_,m') hm'
     ·have hsk:X34 f ib mb x=true:=by unfold X34;rw [hL,hb1,hb2];rfl
      simp only [hb1,hb2,cond_true,cond_false,jS,Sum.elim_inl,hsk,if_true]
      exact hR b hb
    ·have hsk:X34 f ib mb x=true:=by unfold X34;rw [hb1];rfl
     simp only [hb1,cond_true,jS,Sum.elim_inl,hsk,if_true]
     exact hR b hb
   ·rw [←hio,hL] at hkk
    simp only [if_true] at hkk
    have h2:=h2 hL
    simp only [hkk,show Nat.beq 2 0=false from rfl,show Nat.beq 2 1=false from rfl,show Nat.beq 2 (1+1)=true from rfl,cond_false,cond_true]
    have hib:(IntKind.wrap IntKind.i64 (↑(BitVec.toNat (BitVec.ofInt (IntKind.bits IntKind.i64) (Int.fdiv ib (2 ^ min (Int.toNat x.Hz1) (IntKind.bits IntKind.i64))) &&& BitVec.ofInt (IntKind.bits IntKind.i64) 1)):Int)==1)=X7f ib x.Hz1:=rfl
    rw [hib]
    rcases Bool.eq_false_or_eq_true (X7f ib x.Hz1) with hb1|hb1
    rotate_left
    ·have hsk:X34 f ib mb x=false:=by unfold X34;rw [hL,hb1];rfl
     simp only [hb1,cond_false,hsk,Bool.false_eq_true,if_false]
     rw [X9E hg hx hL p l kit]
     simp only [jS,hcut,hcut1,hcut2,hfun]
     cases ho:(X2X f p x).2
     ·exact ⟨b.2,hb,by simp⟩
     ·by_cases hc:(X5I (X2X f p x).1 (b.1 x.Hz1.toNat)).Lo>(X5I (X2X f p x).1 (b.1 x.Hz1.toNat)).Hi
      ·exact ⟨b.2,hb,by simp [hc]⟩
      ·simp only [Bool.not_true,cond_false,hc,decide_false,jS,Sum.elim_inl,Bool.true_eq_false,or_self,if_false]
       exact hR (_,b.2) hb
    ·have hsk:X34 f ib mb x=true:=by unfold X34;rw [hb1];rfl
     simp only [hb1,cond_true,jS,Sum.elim_inl,hsk,if_true]
     exact hR b hb)
 have:=main 0 (X7 f,m) (by omega) hm
 unfold X2o
 simpa using this
end Nore
open Go Go.Ab
namespace Nore
def Xo (f:ZI) (x y:Int):Nat→List Zu
 | 0=>[]
 | n+1=>⟨x*f.Step,y*f.Step⟩::Xo f x (y+1) n
def X8 (f:ZI):Nat:=(2*f.Half+1).toNat
def W0 (f:ZI) (x:Int):Nat→List Zu
 | 0=>[]
 | n+1=>Xo f x (-f.Half) (X8 f)++W0 f (x+1) n
def X45 (f:ZI):List Zu:=W0 f (-f.Half) (X8 f)
def X79 (f:ZI) (l:List Zl):List Zu:=(X45 f).filter fun p=>(atN f l p 0 0).2
theorem X6t (f:ZI) (x:Int):∀ (n:Nat) (y:Int),(Xo f x y n).length=n
 | 0,_=>rfl
 | n+1,y=>by simp [Xo,X6t f x n]
theorem X7q (f:ZI) (x:Int) (p:Zu):∀ (n:Nat) (y:Int),p∈Xo f x y n↔∃ j:Int,y≤j∧j<y+n∧p=⟨x*f.Step,j*f.Step⟩
 | 0,y=>by simp [Xo];intro j h1 h2;omega
 | n+1,y=>by
  simp only [Xo,List.mem_cons,X7q f x p n]
  constructor
  ·rintro (h|⟨j,h1,h2,h3⟩)
   ·exact ⟨y,by omega,by push_cast;omega,h⟩
   ·exact ⟨j,by omega,by push_cast;omega,h3⟩
  ·rintro ⟨j,h1,h2,h3⟩
   by_cases e:j=y
   ·subst e;exact .inl h3
   ·exact .inr ⟨j,by omega,by push_cast at h2;omega,h3⟩
theorem X77 (f:ZI) (p:Zu):∀ (n:Nat) (x:Int),p∈W0 f x n↔∃ i j:Int,x≤i∧i<x+n ∧ -f.Half≤j∧j < -f.Half+X8 f∧p=⟨i*f.Step,j*f.Step⟩
 | 0,x=>by simp [W0];intro i h1 h2;omega
 | n+1,x=>by
  simp only [W0,List.mem_append,X7q,X77 f p n]
  constructor
  ·rintro (⟨j,h1,h2,h3⟩|⟨i,j,h1,h2,h3,h4,h5⟩)
   ·exact ⟨x,j,by omega,by push_cast;omega,h1,h2,h3⟩
   ·exact ⟨i,j,by omega,by push_cast;omega,h3,h4,h5⟩
  ·rintro ⟨i,j,h1,h2,h3,h4,h5⟩
   by_cases e:i=x
   ·subst e;exact .inl ⟨j,h3,h4,h5⟩
   ·exact .inr ⟨i,j,by omega,by push_cast at h2;omega,h3,h4,h5⟩
theorem X8L {f:ZI} (hh:0≤f.Half) (p:Zu):p∈X45 f↔∃ i j:Int,-f.Half≤i∧i≤f.Half ∧ -f.Half≤j∧j≤f.Half∧p=⟨i*f.Step,j*f.Step⟩:=by
 unfold X45
 rw [X77]
 have:(X8 f:Int)=2*f.Half+1:=by unfold X8;omega
 constructor
 ·rintro ⟨i,j,h1,h2,h3,h4,h5⟩;exact ⟨i,j,by omega,by omega,by omega,by omega,h5⟩
 ·rintro ⟨i,j,h1,h2,h3,h4,h5⟩;exact ⟨i,j,by omega,by omega,by omega,by omega,h5⟩
theorem X9O {f:ZI} (hg:XZ f) {p:Zu} (h:p∈X45 f):Bd 4000 p:=by
 obtain ⟨i,j,h1,h2,h3,h4,rfl⟩:=(X8L hg.half.1 p).1 h
 have:=hg.half
 have:=hg.step
 have b1:=X5m (a:=i) (b:=f.Step) 8 500 (by omega) (by omega) (by omega) (by omega)
 have b2:=X5m (a:=j) (b:=f.Step) 8 500 (by omega) (by omega) (by omega) (by omega)
 unfold Bd;simp only;omega
structure X6Z (f:ZI) (l:List Zl):Prop where
 fix:XZ f
 len:l.length≤8
 each:∀ x∈l,XK f x=0
theorem X8g (f:ZI):∀ (l:List Zl) (i:Nat),(WK f i l).2=0→∀ x∈l,XK f x=0
 | [],_,_,m,hm=>by cases hm
 | x::l,i,h,m,hm=>by
  simp only [WK] at h
  by_cases h0:XK f x=0
  ·simp only [h0,if_true] at h
   rcases List.mem_cons.1 hm with e|e
   ·subst e;exact h0
   ·exact X8g f l _ h m e
  ·simp only [h0,if_false] at h
theorem X6h {f:ZI} {l:List Zl} (h:(X21 f l).2=0):X6Z f l:=by
 unfold X21 at h
 by_cases h1:(X3g f).2.2=0
 ·simp only [h1,ne_eq,not_true,if_false] at h
  by_cases h8:8<l.length
  ·rw [if_pos h8] at h;simp at h
  ·rw [if_neg h8] at h
   exact ⟨X7Q h1,by omega,X8g f l 0 h⟩
 ·rw [if_pos h1] at h;exact absurd h h1
end Nore
open Go Go.Ab
namespace Nore
def inS (v:Int) (s:ZE):Prop:=s.Lo≤v∧v≤s.Hi
def X7y (f:ZI) (p:Zu) (ib mb:Int) (s:Nat→ZE) (l:List Zl) (i:Nat) (v:Int):Prop :=
 inS v (s i)∧∀ x∈l,X34 f ib mb x=false→x.Hz1.toNat=i→(X2X f p x).2=true∧inS v (X2X f p x).1
theorem X7P (n a:ZE) (v:Int):inS v (X5I n a)↔inS v n∧inS v a:=by
 unfold inS X5I
 constructor
 ·rintro ⟨h1,h2⟩
  simp only at h1 h2
  split at h1<;>split at h2<;>omega
 ·rintro ⟨h1,h2⟩
  simp only
  constructor<;>split<;>omega
theorem X6z {f:ZI} {p:Zu} {ib mb:Int} {s:Nat→ZE} {x:Zl} {l:List Zl} {i:Nat} {v:Int} :
  X7y f p ib mb s (x::l) i v↔X7y f p ib mb s l i v∧(X34 f ib mb x=false→x.Hz1.toNat=i→(X2X f p x).2=true∧inS v (X2X f p x).1):=by
 unfold X7y
 constructor
 ·rintro ⟨h1,h2⟩
  exact ⟨⟨h1,fun y hy=>h2 y (by simp [hy])⟩,h2 x (by simp)⟩
 ·rintro ⟨⟨h1,h2⟩,h3⟩
  refine ⟨h1,fun y hy => ?_⟩
  rcases List.mem_cons.1 hy with e|e
  ·subst e;exact h3
  ·exact h2 y e
theorem X7L (f:ZI) (p:Zu) (ib mb:Int):∀ (l:List Zl) (s:Nat→ZE),(∀ i,(s i).Lo≤(s i).Hi) →
  ((atL f p ib mb s l).2=true→(∀ i,((atL f p ib mb s l).1 i).Lo≤((atL f p ib mb s l).1 i).Hi)∧∀ i v,inS v ((atL f p ib mb s l).1 i)↔X7y f p ib mb s l i v) ∧
  ((atL f p ib mb s l).2=false→∃ x∈l,X34 f ib mb x=false∧∀ v,¬ X7y f p ib mb s l x.Hz1.toNat v)
 | [],s,hs=>by
  simp only [atL]
  exact ⟨fun _=>⟨hs,fun i v=>by simp [X7y]⟩,fun h=>by cases h⟩
 | x::l,s,hs=>by
  simp only [atL]
  by_cases hk:X34 f ib mb x=true
  ·rw [if_pos hk]
   obtain ⟨h1,h2⟩:=X7L f p ib mb l s hs
   refine ⟨fun h=>⟨(h1 h).1,fun i v => ?_⟩,fun h => ?_⟩
   ·rw [(h1 h).2 i v,X6z]
    simp [hk]
   ·obtain ⟨y,hy,hy2,hy3⟩:=h2 h
    refine ⟨y,by simp [hy],hy2,fun v hv=>hy3 v ?_⟩
    exact (X6z.1 hv).1
  ·rw [if_neg hk]
   have hk':X34 f ib mb x=false:=by simpa using hk
   by_cases hc:(X2X f p x).2=false∨(X5I (X2X f p x).1 (s x.Hz1.toNat)).Lo>(X5I (X2X f p x).1 (s x.Hz1.toNat)).Hi
   ·rw [if_pos hc]
    refine ⟨fun h=>(by cases h),fun _=>⟨x,by simp,hk',fun v hv => ?_⟩⟩
    obtain ⟨h1,h2⟩:=X6z.1 hv
    obtain ⟨h3,h4⟩:=h2 hk' rfl
    rcases hc with hc|hc
    ·rw [hc] at h3;cases h3
    ·have:=(X7P (X2X f p x).1 (s x.Hz1.toNat) v).2 ⟨h4,h1.1⟩
     unfold inS at this;omega
   ·rw [if_neg hc]
    have hc1:(X2X f p x).2=true:=by
     cases h:(X2X f p x).2
     ·exact absurd (.inl h) hc
     ·rfl
    have hc2:(X5I (X2X f p x).1 (s x.Hz1.toNat)).Lo≤(X5I (X2X f p x).1 (s x.Hz1.toNat)).Hi:=Int.not_lt.1 fun q=>hc (.inr q)
    obtain ⟨h1,h2⟩:=X7L f p ib mb l (fun j=>if j=x.Hz1.toNat then X5I (X2X f p x).1 (s x.Hz1.toNat) else s j) (fun i=>by
     by_cases e:i=x.Hz1.toNat
     ·simp only [e,if_true];exact hc2
     ·simp only [e,if_false];exact hs i)
    have key:∀ i v,X7y f p ib mb (fun j=>if j=x.Hz1.toNat then X5I (X2X f p x).1 (s x.Hz1.toNat) else s j) l i v↔X7y f p ib mb s (x::l) i v:=fun i v=>by
     rw [X6z]
     unfold X7y
     by_cases e:i=x.Hz1.toNat
     ·subst e
      simp only [if_true,X7P,hk',hc1,true_and,forall_const]
      constructor
      ·rintro ⟨⟨a,b⟩,c⟩;exact ⟨⟨b,c⟩,a⟩
      ·rintro ⟨⟨b,c⟩,a⟩;exact ⟨⟨a,b⟩,c⟩
     ·simp only [e,if_false,hk',forall_const]
      constructor
      ·rintro ⟨a,b⟩;exact ⟨⟨a,b⟩,fun q=>absurd q.symm e⟩
      ·rintro ⟨⟨a,b⟩,_⟩;exact ⟨a,b⟩
    refine ⟨fun h=>⟨(h1 h).1,fun i v=>((h1 h).2 i v).trans (key i v)⟩,fun h => ?_⟩
    obtain ⟨y,hy,hy2,hy3⟩:=h2 h
    exact ⟨y,by simp [hy],hy2,fun v hv=>hy3 v ((key _ v).2 hv)⟩
theorem X7U {f:ZI} (hg:XZ f) (i:Nat):(X7 f i).Lo≤(X7 f i).Hi:=by
 unfold X7
 split
 ·rename_i h
  exact (hg.off _ (List.getElem_mem h)).2.1
 ·simp
def Num (f:ZI) (l:List Zl) (p:Zu) (ib mb:Int) (i:Nat) (v:Int):Prop:=X7y f p ib mb (X7 f) l i v
theorem X9U {f:ZI} (hg:XZ f) (l:List Zl) (p:Zu) (ib mb:Int):(atN f l p ib mb).2=true↔∀ i,∃ v,Num f l p ib mb i v:=by
 obtain ⟨h1,h2⟩:=X7L f p ib mb l (X7 f) (X7U hg)
 unfold atN
 constructor
 ·intro h i
  obtain ⟨h3,h4⟩:=h1 h
  exact ⟨_,(h4 i ((atL f p ib mb (X7 f) l).1 i).Lo).1 ⟨Int.le_refl _,h3 i⟩⟩
 ·intro h
  cases hb:(atL f p ib mb (X7 f) l).2
  ·obtain ⟨x,_,_,h3⟩:=h2 hb
   obtain ⟨v,hv⟩:=h x.Hz1.toNat
   exact absurd hv (h3 v)
  ·rfl
end Nore
open Go Go.Ab
namespace Nore
def XR:Nat→List Nat→List (List Nat)
 | 0,_=>[[]]
 | _+1,[]=>[]
 | n+1,t::l=>(XR n l).map (t :: ·)++XR (n+1) l
theorem X4I:∀ (l:List Nat) (n:Nat) (s:List Nat),s∈XR n l↔s.Sublist l∧s.length=n
 | l,0,s=>by
  cases l<;>simp only [XR,List.mem_singleton]<;>constructor
  ·rintro rfl;exact ⟨List.Sublist.refl _,rfl⟩
  ·intro h;exact List.eq_nil_of_length_eq_zero h.2
  ·rintro rfl;exact ⟨List.nil_sublist _,rfl⟩
  ·intro h;exact List.eq_nil_of_length_eq_zero h.2
 | [],n+1,s=>by
  simp only [XR,List.not_mem_nil,false_iff]
  rintro ⟨h1,h2⟩
  have:=List.sublist_nil.1 h1
  subst this;simp at h2
 | t::l,n+1,s=>by
  simp only [XR,List.mem_append,List.mem_map,X4I l]
  constructor
  ·rintro (⟨r,⟨h1,h2⟩,rfl⟩|⟨h1,h2⟩)
   ·exact ⟨h1.cons_cons t,by simp [h2]⟩
   ·exact ⟨h1.cons t,h2⟩
  ·rintro ⟨h1,h2⟩
   cases h1 with
   | cons _ h=>exact .inr ⟨h,h2⟩
   | cons_cons _ h=>exact .inl ⟨_,⟨h,by simpa using h2⟩,rfl⟩
def X4N (ok:List Nat→Bool) (l:List Nat):Nat→Nat→Option (List Nat)
 | _,0=>none
 | n,k+1=>match (XR n l).find? ok with
  | some s=>some s
  | none=>X4N ok l (n+1) k
theorem X7l (ok:List Nat→Bool) (l:List Nat):∀ (k n:Nat) (s:List Nat),X4N ok l n k=some s→ok s=true∧s.Sublist l∧n≤s.length∧s.length<n+k∧(∀ r,r.Sublist l→ok r=true→n≤r.length→s.length≤r.length)∧(XR s.length l).find? ok=some s
 | 0,n,s,h=>by cases h
 | k+1,n,s,h=>by
  unfold X4N at h
  cases hf:(XR n l).find? ok with
  | some r =>
   rw [hf] at h
   cases h
   have hm:=(X4I l n s).1 (List.mem_of_find?_eq_some hf)
   refine ⟨List.find?_some hf,hm.1,by omega,by omega,fun r _ _ h=>by omega,by rw [hm.2];exact hf⟩
  | none =>
   rw [hf] at h
   obtain ⟨h1,h2,h3,h4,h5,h6⟩:=X7l ok l k (n+1) s h
   refine ⟨h1,h2,by omega,by omega,fun r hr hk hn => ?_,h6⟩
   by_cases e:n=r.length
   ·have:=(List.find?_eq_none.1 hf) r ((X4I l n r).2 ⟨hr,e.symm⟩)
    exact absurd hk this
   ·exact h5 r hr hk (by omega)
theorem X8c (ok:List Nat→Bool) (l:List Nat):∀ (k n:Nat) (r:List Nat),r.Sublist l→ok r=true→n≤r.length→r.length<n+k→∃ s,X4N ok l n k=some s
 | 0,n,r,h1,h2,h3,h4=>by omega
 | k+1,n,r,h1,h2,h3,h4=>by
  unfold X4N
  cases hf:(XR n l).find? ok with
  | some s=>exact ⟨s,rfl⟩
  | none =>
   by_cases e:n=r.length
   ·have:=(List.find?_eq_none.1 hf) r ((X4I l n r).2 ⟨h1,e.symm⟩)
    exact absurd h2 this
   ·exact X8c ok l k (n+1) r h1 h2 (by omega) (by omega)
def X0 (f:ZI):Nat:=f.Hz9.Hz8.length
def X7R (f:ZI) (s:List Nat) (x:Zl):Bool := !(s.contains (X0 f+x.Hz1.toNat))&&((Xy f x.Hz1).Lead || !(s.contains x.Mark.toNat))
def X2F (f:ZI) (l:List Zl) (s:List Nat):List Zl:=l.filter (X7R f s)
def X1Y (f:ZI) (l:List Zl) (t:Nat):Bool:=l.any fun x=>decide (X0 f+x.Hz1.toNat=t)||(!(Xy f x.Hz1).Lead&&decide (x.Mark.toNat=t))
def Xx (f:ZI) (l:List Zl):List Nat:=(List.range (X0 f+f.Hz0.length)).filter (X1Y f l)
def okW (f:ZI) (l:List Zl) (s:List Nat):Bool := !(X79 f (X2F f l s)).isEmpty
def X4d (f:ZI) (l:List Zl):List Nat:=(X4N (okW f l) (Xx f l) 0 (f.Hz0.length+1)).getD []
theorem X9P {f:ZI} (hg:XZ f):X45 f≠[]:=fun h=>by
 have:=(X8L hg.half.1 ⟨(-f.Half)*f.Step,(-f.Half)*f.Step⟩).2 ⟨-f.Half,-f.Half,by have:=hg.half;omega,by have:=hg.half;omega,by have:=hg.half;omega,by have:=hg.half;omega,rfl⟩
 rw [h] at this;cases this
theorem X97 {f:ZI} (hg:XZ f):X79 f []=X45 f:=by
 unfold X79
 apply List.filter_eq_self.2
 intro p _
 rfl
theorem X9I {f:ZI} {l:List Zl} {s:List Nat}:∀ x∈X2F f l s,x∈l:=fun x hx=>(List.mem_filter.1 hx).1
theorem X9G {f:ZI} (hg:XZ f) {l:List Zl} (hl:∀ x∈l,XK f x=0):okW f l ((Xx f l).filter fun t=>decide (X0 f≤t))=true:=by
 have:X2F f l ((Xx f l).filter fun t=>decide (X0 f≤t))=[]:=by
  unfold X2F
  rw [List.filter_eq_nil_iff]
  intro x hx hk
  obtain ⟨⟨h1,h2⟩,_⟩:=X54 (hl x hx)
  unfold X7R at hk
  have hc:((Xx f l).filter fun t=>decide (X0 f≤t)).contains (X0 f+x.Hz1.toNat)=true:=by
   rw [List.contains_iff_mem,List.mem_filter]
   refine ⟨?_,by simp⟩
   unfold Xx
   rw [List.mem_filter,List.mem_range]
   refine ⟨by omega,?_⟩
   unfold X1Y
   rw [List.any_eq_true]
   exact ⟨x,hx,by simp⟩
  rw [hc] at hk
  simp at hk
 unfold okW
 rw [this,X97 hg]
 cases h:X45 f with
 | nil=>exact absurd h (X9P hg)
 | cons a b=>rfl
theorem X9q {f:ZI} {l:List Zl}:((Xx f l).filter fun t=>decide (X0 f≤t)).length≤f.Hz0.length:=by
 unfold Xx
 rw [List.filter_filter]
 have h1:((List.range (X0 f+f.Hz0.length)).filter fun t=>decide (X0 f≤t)&&X1Y f l t).length≤((List.range (X0 f+f.Hz0.length)).filter fun t=>decide (X0 f≤t)).length:=by
  apply List.Sublist.length_le
  have:((List.range (X0 f+f.Hz0.length)).filter fun t=>decide (X0 f≤t)&&X1Y f l t)=((List.range (X0 f+f.Hz0.length)).filter fun t=>decide (X0 f≤t)).filter (X1Y f l):=by
   rw [List.filter_filter]
   congr 1
   funext t
   rw [Bool.and_comm]
  rw [this]
  exact List.filter_sublist
 have h2:∀ (n m:Nat),((List.range (m+n)).filter fun t=>decide (m≤t)).length≤n:=fun n m=>by
  induction n with
  | zero =>
   have:(List.range (m+0)).filter (fun t=>decide (m≤t))=[]:=by
    rw [List.filter_eq_nil_iff]
    intro a ha
    have:=List.mem_range.1 ha
    simp;omega
   rw [this];simp
  | succ n ih =>
   rw [←Nat.add_assoc,List.range_succ,List.filter_append]
   simp only [List.length_append]
   have:([m+n].filter fun t=>decide (m≤t)).length≤1:=by
    exact List.length_filter_le (fun t=>decide (m≤t)) [m+n]
   omega
 have:=h2 f.Hz0.length (X0 f)
 omega
structure X9S (f:ZI) (l:List Zl) (s:List Nat):Prop where
 ok:okW f l s=true
 sub:s.Sublist (Xx f l)
 least:∀ r,r.Sublist (Xx f l)→okW f l r=true→s.length≤r.length
 first:X4N (okW f l) (Xx f l) 0 (f.Hz0.length+1)=some s
theorem X6Y {f:ZI} (hg:XZ f) {l:List Zl} (hl:∀ x∈l,XK f x=0):X9S f l (X4d f l):=by
 have hlen := @X9q f l
 obtain ⟨s,hs⟩:=X8c (okW f l) (Xx f l) (f.Hz0.length+1) 0 ((Xx f l).filter fun t=>decide (X0 f≤t)) List.filter_sublist (X9G hg hl) (by omega) (by omega)
 have:X4d f l=s:=by unfold X4d;rw [hs];rfl
 rw [this]
 obtain ⟨h1,h2,_,_,h5,_⟩:=X7l _ _ _ _ _ hs
 exact ⟨h1,h2,fun r hr hk=>h5 r hr hk (by omega),hs⟩
theorem X7I {f:ZI} {l:List Zl} {t:Nat} (h:t∈Xx f l):t<X0 f+f.Hz0.length:=by
 unfold Xx at h;exact List.mem_range.1 (List.mem_filter.1 h).1
theorem X8T {f:ZI} {l:List Zl}:(Xx f l).Pairwise (· < ·):=List.Pairwise.filter _ List.pairwise_lt_range
end Nore
open Go Go.Ab
namespace Nore
theorem X6A (n:Nat) (h:n<18446744073709551616):(BitVec.ofInt 64 (n:Int)).toNat=n:=by
 rw [BitVec.toNat_ofInt];omega
theorem X7H (k:Nat) (hk:k<40):IntKind.wrap .i64 (1*2 ^ min (Int.toNat (k:Int)) (IntKind.bits .i64))=((2 ^ k:Nat):Int):=by
 have hb:IntKind.bits .i64=64:=rfl
 have hp:((2:Int) ^ k)=((2 ^ k:Nat):Int):=by simp
 have hle:2 ^ k≤2 ^ 40:=Nat.pow_le_pow_right (by omega) (by omega)
 rw [hb,kS,show min k 64=k by omega,hp,Int.one_mul]
 generalize 2 ^ k=z at *
 rw [w64]<;>omega
theorem X9X (a b:Nat) (ha:a<2 ^ 41) (hb:b<2 ^ 41):IntKind.wrap .i64 (↑(BitVec.toNat (BitVec.ofInt (IntKind.bits .i64) (a:Int) ||| BitVec.ofInt (IntKind.bits .i64) (b:Int))):Int)=((a ||| b:Nat):Int):=by
 have h:=Nat.or_lt_two_pow ha hb
 rw [show IntKind.bits .i64=64 from rfl,BitVec.toNat_or,X6A _ (by omega),X6A _ (by omega),w64]<;>omega
theorem X9B (a b:Nat) (ha:a<2 ^ 41) (hb:b<2 ^ 41):IntKind.wrap .i64 (↑(BitVec.toNat (BitVec.ofInt (IntKind.bits .i64) (a:Int) &&& BitVec.ofInt (IntKind.bits .i64) (b:Int))):Int)=((a &&& b:Nat):Int):=by
 have h:a &&& b<2 ^ 41:=Nat.lt_of_le_of_lt Nat.and_le_left ha
 rw [show IntKind.bits .i64=64 from rfl,BitVec.toNat_and,X6A _ (by omega),X6A _ (by omega),w64]<;>omega
theorem X8Q (a k:Nat) (hk:k<64):Int.fdiv (a:Int) (2 ^ min (Int.toNat (k:Int)) (IntKind.bits .i64))=((a / 2 ^ k:Nat):Int):=by
 have hb:IntKind.bits .i64=64:=rfl
 have hp:((2:Int) ^ k)=((2 ^ k:Nat):Int):=by simp
 rw [hb,kS,show min k 64=k by omega,hp,Int.ofNat_fdiv]
theorem X8B (a k:Nat) (ha:a<2 ^ 41) (hk:k<64):X7f (a:Int) (k:Int)=a.testBit k:=by
 unfold X7f
 rw [X8Q a k hk]
 have hle:a / 2 ^ k≤a:=Nat.div_le_self _ _
 have h1:=X9B (a / 2 ^ k) 1 (by omega) (by omega)
 simp only [Int.natCast_one] at h1
 rw [h1,Nat.testBit_eq_decide_div_mod_eq,Nat.and_one_is_mod,Bool.eq_iff_iff]
 simp only [beq_iff_eq,decide_eq_true_eq]
 omega
theorem X8q {a n:Nat} (h:∀ k,n≤k→a.testBit k=false):a<2 ^ n:=Nat.lt_pow_two_of_testBit a h
def X7J (a:Nat) (s:List Nat):Prop:=∀ k,a.testBit k=s.contains k
theorem X5v {f:ZI} {x:Zl} (h:XK f x=0):((x.Hz1.toNat:Nat):Int)=x.Hz1∧x.Hz1.toNat<f.Hz0.length:=by
 obtain ⟨⟨h1,h2⟩,_⟩:=X54 h;omega
theorem X4V {f:ZI} {x:Zl} (h:XK f x=0) (hL:(Xy f x.Hz1).Lead=false):((x.Mark.toNat:Nat):Int)=x.Mark∧x.Mark.toNat<f.Hz9.Hz8.length:=by
 obtain ⟨_,_,h3⟩:=X54 h;have:=h3 hL;omega
theorem X83 {f:ZI} {l:List Zl} (hl:∀ x∈l,XK f x=0) (k:Nat) (hk:X0 f+f.Hz0.length≤k):X1Y f l k=false:=by
 unfold X1Y
 rw [List.any_eq_false]
 intro x hx
 have h1:=X5v (hl x hx)
 have e1:decide (X0 f+x.Hz1.toNat=k)=false:=by simp;omega
 rw [e1,Bool.false_or]
 cases hL:(Xy f x.Hz1).Lead
 ·have h2:=X4V (hl x hx) hL
  have:decide (x.Mark.toNat=k)=false:=by unfold X0 at hk;simp;omega
  rw [this];simp
 ·simp
theorem X9d {f:ZI} (hg:XZ f) {l:List Zl} (hl:∀ x∈l,XK f x=0) (hll:l.length≤8) {kit:Nat→Nat} (hk:Kit f kit) (m:List (Zh×Int)) :
  ∃ a:Nat,(∀ k,a.testBit k=X1Y f l k)∧WR (f,l,kit,m)=some ((a:Int),f,l,kit,m):=by
 rw [X3N];unfold XE
 have hM:=hg.marks
 have hI:=hg.inst
 have main:=X4K (Xc (↑l.length) l f kit) (fun o=>some (o,f,l,kit,m)) l.length (fun i (a:Nat)=>((i:Int),(a:Int))) (fun i a=>∀ k,a.testBit k=X1Y f (l.take i) k) (fun _ _ r=>∃ a:Nat,(∀ k,a.testBit k=X1Y f l k)∧r=some ((a:Int),f,l,kit,m))
  (by
   intro a ha R
   refine ⟨a,by simpa using ha,?_⟩
   simp [Xc,Xg])
  (by
   intro i a hi ha R hR
   have hw:=wS i (by omega)
   have e1:decide ((i:Int)<↑l.length)=true:=by simp [hi]
   have e2:=z0S i
   have hx:=hl _ (List.getElem_mem hi)
   obtain ⟨x,hxd⟩:∃ x,l[i]=x:=⟨_,rfl⟩
   rw [hxd] at hx
   have hgd:l.getD i ⟨0,0,0,0⟩=x:=(X1 _ _ _ hi).trans hxd
   obtain ⟨n1,n2⟩:=X5v hx
   have hw1:IntKind.wrap .i64 ((↑f.Hz9.Hz8.length:Int)+x.Hz1)=((X0 f+x.Hz1.toNat:Nat):Int):=by unfold X0;rw [w64]<;>omega
   have hneg:decide (((X0 f+x.Hz1.toNat:Nat):Int)<0)=false:=by simp;omega
   have i1:decide (0≤x.Hz1)=true:=by simp;omega
   have i2:decide (x.Hz1<((4:Nat):Int))=true:=by simp;omega
   have i2':decide (x.Hz1<(4:Int))=true:=by simp;omega
   have i3:Nat.blt x.Hz1.toNat 4=true:=by rw [Tr.blt_dec];simp;omega
   have htake:l.take (i+1)=l.take i++[x]:=by rw [List.take_succ_eq_append_getElem hi,hxd]
   have hlt:a<2 ^ 12:=X8q fun k hk=>by
    rw [ha]
    apply X83 (fun y hy=>hl y (List.mem_of_mem_take hy))
    unfold X0;omega
   have hp1:2 ^ (X0 f+x.Hz1.toNat)<2 ^ 12:=Nat.pow_lt_pow_right (by omega) (by unfold X0;omega)
   have ho1:=X9X a (2 ^ (X0 f+x.Hz1.toNat)) (by omega) (by omega)
   have hs1:=X7H (X0 f+x.Hz1.toNat) (by unfold X0;omega)
   have hkk:=hk _ n2
   have hio:Xy f x.Hz1=f.Hz0[x.Hz1.toNat]:=X1 _ _ _ n2
   simp only [Xc,Xg,kS,hgd,hw,e1,e2,hw1,hneg,i1,i2,i2',i3,Bool.and_self,cond_true,cond_false]
   simp only [kS] at hs1
   rcases Bool.eq_false_or_eq_true (Xy f x.Hz1).Lead with hL|hL
   ·rw [←hio,hL] at hkk
    simp only [if_true] at hkk
    simp only [hkk,show Nat.beq 2 0=false from rfl,show Nat.beq 2 1=false from rfl,show Nat.beq 2 (1+1)=true from rfl,cond_false,cond_true,hs1,ho1,jS,Sum.elim_inl]
    refine hR _ fun k => ?_
    rw [Nat.testBit_or,ha,Nat.testBit_two_pow,htake]
    unfold X1Y
    simp [hL]
   ·rw [←hio,hL] at hkk
    simp only [Bool.false_eq_true,if_false] at hkk
    obtain ⟨m1,m2⟩:=X4V hx hL
    have i5:decide (x.Mark<0)=false:=by simp;omega
    have hlt2:a ||| 2 ^ (X0 f+x.Hz1.toNat)<2 ^ 12:=Nat.or_lt_two_pow hlt hp1
    have hp2:2 ^ x.Mark.toNat<2 ^ 12:=Nat.pow_lt_pow_right (by omega) (by omega)
    have ho2:=X9X (a ||| 2 ^ (X0 f+x.Hz1.toNat)) (2 ^ x.Mark.toNat) (by omega) (by omega)
    have hs2:=X7H x.Mark.toNat (by omega)
    simp only [kS] at hs2
    simp only [hkk,show Nat.beq 1 0=false from rfl,show Nat.beq 1 1=true from rfl,cond_false,cond_true,i5,hs1,ho1,hs2,ho2,jS,Sum.elim_inl]
    refine hR _ fun k => ?_
    rw [Nat.testBit_or,Nat.testBit_or,ha,Nat.testBit_two_pow,Nat.testBit_two_pow,htake]
    unfold X1Y
    simp [hL,Bool.or_assoc])
 have h:=main 0 0 (by omega) (fun k=>by simp [X1Y])
 unfold X1m
 simpa using h
theorem X8h (f:ZI) (x:Zl):X34 f 0 0 x=false:=by unfold X34;simp [X9k]
theorem X6R (f:ZI) (p:Zu) (ib mb:Int) (q:Zl→Bool):∀ (l:List Zl) (s:Nat→ZE),(∀ x∈l,X34 f ib mb x = !q x)→atL f p ib mb s l=atL f p 0 0 s (l.filter q)
 | [],_,_=>rfl
 | x::l,s,h=>by
  have hx:=h x (by simp)
  have hl:∀ y∈l,X34 f ib mb y = !q y:=fun y hy=>h y (by simp [hy])
  cases hq:q x
  ·rw [hq] at hx
   rw [List.filter_cons_of_neg (by simp [hq])]
   simp only [atL,hx,Bool.not_false,if_true]
   exact X6R f p ib mb q l s hl
  ·rw [hq] at hx
   rw [List.filter_cons_of_pos hq]
   simp only [atL,hx,X8h,Bool.not_true,Bool.false_eq_true,if_false]
   rw [X6R f p ib mb q l _ hl]
theorem X9x {f:ZI} (hg:XZ f) {x:Zl} (hx:XK f x=0) {a:Nat} {s:List Nat} (ha:X7J a s) (h12:a<2 ^ 40):X34 f ((a / 2 ^ X0 f:Nat):Int) ((a &&& (2 ^ X0 f-1):Nat):Int) x = !X7R f s x:=by
 have hM:=hg.marks
 have hI:=hg.inst
 obtain ⟨n1,n2⟩:=X5v hx
 have hle:a / 2 ^ X0 f≤a:=Nat.div_le_self _ _
 have hle2:a &&& (2 ^ X0 f-1)≤a:=Nat.and_le_left
 unfold X34 X7R
 rw [←n1,X8B _ _ (by omega) (by omega),Nat.testBit_div_two_pow,ha,n1,Nat.add_comm]
 cases hL:(Xy f x.Hz1).Lead
 ·obtain ⟨m1,m2⟩:=X4V hx hL
  have hmb:X7f ((a &&& (2 ^ X0 f-1):Nat):Int) x.Mark=s.contains x.Mark.toNat:=by
   rw [←m1,X8B _ _ (by omega) (by omega),Nat.testBit_and,ha,Nat.testBit_two_pow_sub_one,kS]
   have:decide (x.Mark.toNat<X0 f)=true:=by unfold X0;simp;omega
   rw [this,Bool.and_true]
  rw [hmb]
  cases s.contains (X0 f+x.Hz1.toNat)<;>cases s.contains x.Mark.toNat<;>rfl
 ·cases s.contains (X0 f+x.Hz1.toNat)<;>rfl
theorem X9L {f:ZI} (hg:XZ f) {l:List Zl} (hl:∀ x∈l,XK f x=0) {a:Nat} {s:List Nat} (ha:X7J a s) (h12:a<2 ^ 40) (p:Zu):atN f l p ((a / 2 ^ X0 f:Nat):Int) ((a &&& (2 ^ X0 f-1):Nat):Int)=atN f (X2F f l s) p 0 0:=by
 unfold atN X2F
 exact X6R f p _ _ _ l _ fun x hx=>X9x hg (hl x hx) ha h12
end Nore
open Go Go.Ab
namespace Nore
theorem X6E {α:Type} (l:List α) (q:α→Bool):l.any q = !(l.filter q).isEmpty:=by
 induction l with
 | nil=>rfl
 | cons a l ih =>
  rw [List.any_cons,List.filter_cons]
  cases h:q a
  ·simp [ih]
  ·simp
theorem X8b {f:ZI} {l:List Zl} (hg:X6Z f l) {kit:Nat→Nat} (hk:Kit f kit) {a:Nat} {s:List Nat} (ha:X7J a s) (h12:a<2 ^ 40) (x:Int) (hx : -8≤x∧x≤8) {m:List (Zh×Int)} (hm:WL f m) {γ:Type} (k:_→Option γ) (Q:Option γ→Prop)
  (h1:∀ m' o p,WL f m'→((Xo f x (-f.Half) (X8 f)).any fun p=>(atN f (X2F f l s) p 0 0).2)=true→Q (k (.inl (f,l,kit,o,p,m',true))))
  (h2:∀ m',WL f m'→((Xo f x (-f.Half) (X8 f)).any fun p=>(atN f (X2F f l s) p 0 0).2)=false→Q (k (.inr (f,l,kit,m')))) :
  Q (Option.bind (XJ x (a:Int) ((2 ^ X0 f-1:Nat):Int) (-f.Half,f,l,kit,m)) k):=by
 have hh:=hg.fix.half
 have hs:=hg.fix.step
 have hM:=hg.fix.marks
 have hw0:(X8 f:Int)=2*f.Half+1:=by unfold X8;omega
 have hle2:a &&& (2 ^ X0 f-1)≤a:=Nat.and_le_left
 have hp8:2 ^ X0 f≤2 ^ 8:=Nat.pow_le_pow_right (by omega) hM
 refine (X4K (Xa x (a:Int) ((2 ^ X0 f-1:Nat):Int)) k (X8 f) (fun i (b:List (Zh×Int))=>(-f.Half+i,f,l,kit,b)) (fun i b=>WL f b∧((Xo f x (-f.Half+i) (X8 f-i)).any fun p=>(atN f (X2F f l s) p 0 0).2)=((Xo f x (-f.Half) (X8 f)).any fun p=>(atN f (X2F f l s) p 0 0).2)) (fun _ _ r=>Q r) ?_ ?_ 0 m (by omega) ⟨hm,by simp⟩) |> fun h=>by simpa [XJ] using h
 ·intro b hb R
  have e1:decide (-f.Half+(X8 f:Int)≤f.Half)=false:=by simp;omega
  simp only [Xa,Xf,e1,cond_false,jS,Sum.elim_inr]
  refine h2 _ hb.1 ?_
  rw [←hb.2];simp [Xo]
 ·intro i b hi hb R hR
  obtain ⟨hb1,hb3⟩:=hb
  have e1:decide (-f.Half+(i:Int)≤f.Half)=true:=by simp;omega
  have hw:IntKind.wrap .i64 (-f.Half+(i:Int)+1) = -f.Half+((i+1:Nat):Int):=by rw [w64]<;>omega
  have m1:=X5m (a:=x) (b:=f.Step) 8 500 (by omega) (by omega) (by omega) (by omega)
  have m2:=X5m (a := -f.Half+(i:Int)) (b:=f.Step) 8 500 (by omega) (by omega) (by omega) (by omega)
  simp only [Xa,Xf,e1,cond_true]
  rw [w64 (x:=x*f.Step) (by omega) (by omega),w64 (x:=(-f.Half+(i:Int))*f.Step) (by omega) (by omega),hw]
  have hsh:=X8Q a (X0 f) (by unfold X0;omega)
  have hnd:=X9B a (2 ^ X0 f-1) (by omega) (by omega)
  rw [show (f.Hz9.Hz8.length:Int)=((X0 f:Nat):Int) from rfl,hsh,hnd]
  obtain ⟨m',hm',hc⟩:=X9T hg.fix hg.each hg.len hk hb1 ⟨x*f.Step,(-f.Half+(i:Int))*f.Step⟩ ((a / 2 ^ X0 f:Nat):Int) ((a &&& (2 ^ X0 f-1):Nat):Int)
  rw [X9L hg.fix hg.each ha h12] at hc
  rw [hc]
  simp only [jS]
  have hrow:Xo f x (-f.Half+(i:Int)) (X8 f-i)=⟨x*f.Step,(-f.Half+(i:Int))*f.Step⟩::Xo f x (-f.Half+((i+1:Nat):Int)) (X8 f-(i+1)):=by
   rw [show X8 f-i=(X8 f-(i+1))+1 by omega,Xo,show -f.Half+(i:Int)+1 = -f.Half+((i+1:Nat):Int) by push_cast;omega]
  rw [hrow,List.any_cons] at hb3
  cases hat:(atN f (X2F f l s) ⟨x*f.Step,(-f.Half+(i:Int))*f.Step⟩ 0 0).2
  ·simp only [cond_false,jS,Sum.elim_inl]
   refine hR m' ⟨hm',?_⟩
   rw [hat,Bool.false_or] at hb3
   exact hb3
  ·simp only [cond_true,jS,Sum.elim_inr]
   refine h1 _ _ _ hm' ?_
   rw [hat,Bool.true_or] at hb3
   exact hb3.symm
theorem X8V {f:ZI} {l:List Zl} (hg:X6Z f l) {kit:Nat→Nat} (hk:Kit f kit) {a:Nat} {s:List Nat} (ha:X7J a s) (h12:a<2 ^ 40) {m:List (Zh×Int)} (hm:WL f m) :
  ∃ m',WL f m'∧Wk ((a:Int),f,l,kit,m)=some (okW f l s,f,l,kit,m'):=by
 rw [X3z];unfold Xu
 have hh:=hg.fix.half
 have hM:=hg.fix.marks
 have hw0:(X8 f:Int)=2*f.Half+1:=by unfold X8;omega
 have hw2:IntKind.wrap .i64 (0-f.Half) = -f.Half:=by rw [w64]<;>omega
 have hp8:2 ^ X0 f≤2 ^ 8:=Nat.pow_le_pow_right (by omega) hM
 have hp1:1≤2 ^ X0 f:=Nat.one_le_two_pow
 have hmask:IntKind.wrap .i64 (IntKind.wrap .i64 (1*2 ^ min (Int.toNat (↑f.Hz9.Hz8.length:Int)) (IntKind.bits .i64))-1)=((2 ^ X0 f-1:Nat):Int):=by
  rw [show (f.Hz9.Hz8.length:Int)=((X0 f:Nat):Int) from rfl,X7H _ (by unfold X0;omega),w64]<;>omega
 have hok:okW f l s=(X45 f).any fun p=>(atN f (X2F f l s) p 0 0).2:=by unfold okW X79;rw [X6E]
 simp only [hw2,hmask]
 refine (X4K (X9 (a:Int) ((2 ^ X0 f-1:Nat):Int)) _ (X8 f) (fun i (b:List (Zh×Int))=>(-f.Half+i,f,l,kit,b)) (fun i b=>WL f b∧((W0 f (-f.Half+i) (X8 f-i)).any fun p=>(atN f (X2F f l s) p 0 0).2)=okW f l s) (fun _ _ r=>∃ m',WL f m'∧r=some (okW f l s,f,l,kit,m')) ?_ ?_ 0 m (by omega) ⟨hm,by rw [hok];simp [X45]⟩) |> fun h=>by simpa [X1b] using h
 ·intro b hb R
  have e1:decide (-f.Half+(X8 f:Int)≤f.Half)=false:=by simp;omega
  simp only [X9,Xe,e1,cond_false,jS,Sum.elim_inr]
  refine ⟨b,hb.1,?_⟩
  rw [←hb.2];simp [W0]
 ·intro i b hi hb R hR
  obtain ⟨hb1,hb3⟩:=hb
  have e1:decide (-f.Half+(i:Int)≤f.Half)=true:=by simp;omega
  have hw:IntKind.wrap .i64 (-f.Half+(i:Int)+1) = -f.Half+((i+1:Nat):Int):=by rw [w64]<;>omega
  have hgr:W0 f (-f.Half+(i:Int)) (X8 f-i)=Xo f (-f.Half+(i:Int)) (-f.Half) (X8 f)++W0 f (-f.Half+((i+1:Nat):Int)) (X8 f-(i+1)):=by
   rw [show X8 f-i=(X8 f-(i+1))+1 by omega,W0,show -f.Half+(i:Int)+1 = -f.Half+((i+1:Nat):Int) by push_cast;omega]
  rw [hgr,List.any_append] at hb3
  simp only [X9,Xe,e1,cond_true,hw,hw2]
  rw [Option.bind_assoc]
  refine X8b hg hk ha h12 _ (by omega) hb1 _ (fun r=>∃ m',WL f m'∧r=some (okW f l s,f,l,kit,m')) (fun m' o p hm' ht => ?_) (fun m' hm' ht => ?_)
  ·simp only [Sum.elim_inl,jS,Sum.elim_inr]
   rw [ht,Bool.true_or] at hb3
   exact ⟨m',hm',by rw [←hb3]⟩
  ·simp only [jS,Sum.elim_inr,Sum.elim_inl]
   rw [ht,Bool.false_or] at hb3
   exact hR m' ⟨hm',hb3⟩
end Nore
open Go Go.Ab
namespace Nore
theorem X98 {α β:Type} {t:(α→Option β)→α→Option β} {x:α} (h:∃ n r,Z8k t n x=some r):∃ n r,Z9G t x=some r∧Z8k t n x=some r:=by
 obtain ⟨n,r,hr⟩:=h
 have:Z9G t x≠none:=by
  unfold Z9G
  rw [dif_pos ⟨n,r,hr⟩]
  exact fun h=>by cases h
 cases hc:Z9G t x with
 | none=>exact absurd hc this
 | some y =>
  obtain ⟨k,hk⟩:=Z8E hc
  exact ⟨k,y,rfl,hk⟩
theorem X8F {α β:Type} (g:α→β) (q:β→Bool):∀ (l:List α),(l.map g).find? q=(l.find? fun a=>q (g a)).map g
 | []=>rfl
 | a::l=>by
  rw [List.map_cons,List.find?_cons,List.find?_cons,X8F g q l]
  cases q (g a)<;>rfl
def X2j (f:ZI) (l:List Zl) (t:Nat):List Nat:=(Xx f l).filter fun k=>decide (t≤k)
theorem X6X (f:ZI) (l:List Zl):X2j f l 0=Xx f l:=List.filter_eq_self.2 fun _ _=>by simp
theorem X5Q:∀ (l:List Nat) (t:Nat),l.Pairwise (· < ·)→t∈l→(l.filter fun k=>decide (t≤k))=t::l.filter fun k=>decide (t+1≤k)
 | [],_,_,h=>by cases h
 | a::l,t,hp,h=>by
  have hp2:=List.pairwise_cons.1 hp
  by_cases e:a=t
  ·subst e
   rw [List.filter_cons_of_pos (by simp),List.filter_cons_of_neg (by simp)]
   congr 1
   apply List.filter_congr
   intro b hb
   have:=hp2.1 b hb
   simp;omega
  ·have hm:t∈l:=by
    rcases List.mem_cons.1 h with e'|e'
    ·exact absurd e'.symm e
    ·exact e'
   have:=hp2.1 t hm
   rw [List.filter_cons_of_neg (by simp;omega),List.filter_cons_of_neg (by simp;omega)]
   exact X5Q l t hp2.2 hm
theorem X8S {f:ZI} {l:List Zl} {t:Nat} (h:t∈Xx f l):X2j f l t=t::X2j f l (t+1):=X5Q _ t X8T h
theorem X8j {f:ZI} {l:List Zl} {t:Nat} (h:t∉Xx f l):X2j f l t=X2j f l (t+1):=by
 unfold X2j
 apply List.filter_congr
 intro b hb
 have:b≠t:=fun e=>h (e ▸ hb)
 simp only [decide_eq_decide];omega
theorem X6j {f:ZI} {l:List Zl} (hl:∀ x∈l,XK f x=0) {t:Nat}:t∈Xx f l↔X1Y f l t=true:=by
 unfold Xx
 rw [List.mem_filter,List.mem_range]
 constructor
 ·exact fun h=>h.2
 ·intro h
  refine ⟨?_,h⟩
  have:=X83 hl t
  by_cases c:t<X0 f+f.Hz0.length
  ·exact c
  ·rw [this (by omega)] at h;cases h
abbrev PSt:=Int×Bool×ZI×List Zl×(Nat→Nat)×Int×List (Zh×Int)
def X7G (f:ZI) (l:List Zl) (kit:Nat→Nat) (A:Nat) (s:List Nat) (n:Nat) (u:List Nat) (r:Option PSt):Prop :=
 ∃ m',WL f m'∧match (XR n u).find? (fun q=>okW f l (s++q)) with
  | some q=>∃ a':Nat,X7J a' (s++q)∧r=some ((a':Int),true,f,l,kit,(A:Int),m')
  | none=>∃ z,r=some (z,false,f,l,kit,(A:Int),m')
theorem X9M {a t:Nat} {s:List Nat} (h:X7J a s):X7J (a ||| 2 ^ t) (s++[t]):=fun k=>by
 rw [Nat.testBit_or,h k,Nat.testBit_two_pow,List.contains_eq_mem,List.contains_eq_mem]
 by_cases e:t=k
 ·subst e;simp
 ·simp [e,Ne.symm e]
theorem X8k {a:Nat} {s:List Nat} (h:X7J a s) (hs:∀ t∈s,t<12):a<2 ^ 12:=X8q fun k hk=>by
 rw [h k,List.contains_eq_mem]
 by_cases c:k∈s
 ·have:=hs k c;omega
 ·simp [c]
theorem X8A (a k:Nat) (ha:a<2 ^ 41) (hk:k<64):(IntKind.wrap IntKind.i64 (↑(BitVec.toNat (BitVec.ofInt (IntKind.bits IntKind.i64) (Int.fdiv (a:Int) (2 ^ min (Int.toNat (k:Int)) (IntKind.bits IntKind.i64))) &&& BitVec.ofInt (IntKind.bits IntKind.i64) 1)):Int)==0) = !a.testBit k:=by
 rw [X8Q a k hk]
 have hle:a / 2 ^ k≤a:=Nat.div_le_self _ _
 have h1:=X9B (a / 2 ^ k) 1 (by omega) (by omega)
 simp only [Int.natCast_one] at h1
 rw [h1,Nat.testBit_eq_decide_div_mod_eq,Nat.and_one_is_mod,Bool.eq_iff_iff]
 simp only [beq_iff_eq,Bool.not_eq_true',decide_eq_false_iff_not]
 omega
theorem X9Q {f:ZI} {l:List Zl} (hg:X6Z f l) {kit:Nat→Nat} (hk:Kit f kit) {A:Nat} (hA:∀ k,A.testBit k=X1Y f l k) :
  ∀ (n fuel t a:Nat) (s:List Nat) (m:List (Zh×Int)),n≤1000→t≤12→X7J a s→(∀ k∈s,k<12)→WL f m →
   (Z8k Xi fuel ((t:Int),(a:Int),(n:Int),f,l,kit,(A:Int),m)=none∧fuel≤n)∨X7G f l kit A s n (X2j f l t) (Z8k Xi fuel ((t:Int),(a:Int),(n:Int),f,l,kit,(A:Int),m)):=by
 have hM:=hg.fix.marks
 have hI:=hg.fix.inst
 have hA12:A<2 ^ 12:=X8q fun k hk=>by rw [hA];exact X83 hg.each k (by unfold X0;omega)
 intro n
 induction n with
 | zero =>
  intro fuel t a s m hn ht ha hs hm
  cases fuel with
  | zero=>exact .inl ⟨rfl,Nat.le_refl _⟩
  | succ fuel =>
   right
   have ha12:=X8k ha hs
   obtain ⟨m',hm',hc⟩:=X8V hg hk ha (by omega) hm
   simp only [Z8k,Xi,X2m]
   rw [show (((0:Nat):Int)==0)=true from rfl,cond_true,hc]
   refine ⟨m',hm',?_⟩
   simp only [XR,List.find?_cons,List.find?_nil,List.append_nil]
   cases hok:okW f l s
   ·exact ⟨_,rfl⟩
   ·exact ⟨a,by simpa using ha,rfl⟩
 | succ n ih =>
  intro fuel t a s m hn ht ha hs hm
  cases fuel with
  | zero=>exact .inl ⟨rfl,Nat.zero_le _⟩
  | succ fuel =>
   have ha12:=X8k ha hs
   simp only [Z8k,Xi,X2m]
   have en:((((n+1:Nat):Int))==0)=false:=X5q (by omega)
   rw [en,cond_false]
   have hn1:IntKind.wrap .i64 (((n+1:Nat):Int)-1)=(n:Int):=by rw [w64]<;>omega
   refine (X4K (XA (Z8k Xi fuel) (a:Int) ((n+1:Nat):Int)) _ 12 (fun i (b:List (Zh×Int))=>((i:Int),f,l,kit,(A:Int),b)) (fun i b=>WL f b) (fun i b r=>(r=none∧fuel+1≤n+1)∨X7G f l kit A s (n+1) (X2j f l i) r) ?_ ?_ t m ht hm)
   ·intro b hb R
    right
    have e0:decide (((12:Nat):Int)<0)=false:=by decide
    have e1:(Int.fdiv (A:Int) (2 ^ min (Int.toNat ((12:Nat):Int)) (IntKind.bits IntKind.i64)) != 0)=false:=by
     rw [X8Q A 12 (by omega)]
     have:A / 2 ^ 12=0:=Nat.div_eq_of_lt hA12
     rw [this];rfl
    simp only [XA,XM,e0,e1,cond_false,jS,Sum.elim_inr]
    refine ⟨b,hb,?_⟩
    have hu:X2j f l 12=[]:=by
     unfold X2j
     rw [List.filter_eq_nil_iff]
     intro x hx
     have:=X7I hx
     unfold X0 at this
     simp;omega
    rw [hu]
    simp only [XR,List.find?_nil]
    exact ⟨_,rfl⟩
   ·intro i b hi hb R hR
    have e0:decide ((i:Int)<0)=false:=by simp
    have hw:=wS i (by omega)
    have hbit:=X8A A i (by omega) (by omega)
    have hsr:=X8Q A i (by omega)
    simp only [XA,XM,e0,cond_false,hw,hbit]
    rw [hsr]
    by_cases hz:A / 2 ^ i=0
    ·have e1:(((A / 2 ^ i:Nat):Int) != 0)=false:=by rw [hz];rfl
     simp only [e1,cond_false,jS,Sum.elim_inr]
     right
     refine ⟨b,hb,?_⟩
     have hu:X2j f l i=[]:=by
      unfold X2j
      rw [List.filter_eq_nil_iff]
      intro x hx hle
      have h1:=(X6j hg.each).1 hx
      rw [←hA] at h1
      have hle':i≤x:=by simpa using hle
      have h2:(A / 2 ^ i).testBit (x-i)=true:=by rw [Nat.testBit_div_two_pow,show x-i+i=x by omega];exact h1
      rw [hz,Nat.zero_testBit] at h2
      cases h2
     rw [hu]
     simp only [XR,List.find?_nil]
     exact ⟨_,rfl⟩
    ·have e1:(((A / 2 ^ i:Nat):Int) != 0)=true:=X1A (by omega)
     simp only [e1,cond_true]
     rcases Bool.eq_false_or_eq_true (A.testBit i) with hb1|hb1
     rotate_left
     ·simp only [hb1,Bool.not_false,cond_true,jS,Sum.elim_inl]
      have:=hR b hb
      rw [←X8j (fun h=>by rw [X6j hg.each,←hA,hb1] at h;cases h)] at this
      exact this
     ·have hu:X2j f l i=i::X2j f l (i+1):=X8S (by rw [X6j hg.each,←hA];exact hb1)
      have hp:2 ^ i<2 ^ 12:=Nat.pow_lt_pow_right (by omega) hi
      have hor:=X9X a (2 ^ i) (by omega) (by omega)
      have hsh:=X7H i (by omega)
      simp only [hb1,Bool.not_true,cond_false]
      rw [hsh,hor]
      rw [hu]
      have hs':∀ k∈s++[i],k<12:=fun k hk=>by
       rcases List.mem_append.1 hk with h|h
       ·exact hs k h
       ·have:=List.mem_singleton.1 h;omega
      rw [hn1]
      rcases ih fuel (i+1) (a ||| 2 ^ i) (s++[i]) b (by omega) (by omega) (X9M ha) hs' hb with ⟨h1,h2⟩|⟨m',hm',h1⟩
      ·rw [h1];exact .inl ⟨rfl,by omega⟩
      ·unfold X7G
       simp only [XR,List.find?_append,X8F]
       have happ:(fun q=>okW f l (s++[i]++q))=fun q=>okW f l (s++(i::q)):=by funext q;simp
       rw [happ] at h1
       cases hf:(XR n (X2j f l (i+1))).find? (fun q=>okW f l (s++(i::q))) with
       | some q =>
        rw [hf] at h1
        obtain ⟨a',ha',h1⟩:=h1
        rw [h1]
        right
        refine ⟨m',hm',a',?_,?_⟩
        ·simpa using ha'
        ·simp
       | none =>
        rw [hf] at h1
        obtain ⟨z,h1⟩:=h1
        rw [h1]
        simp only [jS,cond_false,Sum.elim_inl,Option.map_none,Option.none_or]
        exact hR m' hm'
theorem X9z {f:ZI} {l:List Zl} (hg:X6Z f l) {kit:Nat→Nat} (hk:Kit f kit) {A:Nat} (hA:∀ k,A.testBit k=X1Y f l k) {m:List (Zh×Int)} (hm:WL f m) (n:Nat) (hn:n≤1000) :
  X7G f l kit A [] n (Xx f l) (X2I (0,0,(n:Int),f,l,kit,(A:Int),m)):=by
 have key:∀ fuel,_:=fun fuel=>X9Q hg hk hA n fuel 0 0 [] m hn (by omega) (fun k=>by simp) (fun _ h=>by cases h) hm
 rw [X6X] at key
 have h1:∃ k r,Z8k Xi k ((0:Int),(0:Int),(n:Int),f,l,kit,(A:Int),m)=some r:=by
  rcases key (n+1) with ⟨_,h⟩|⟨m',_,h⟩
  ·omega
  ·refine ⟨n+1,?_⟩
   revert h
   cases (XR n (Xx f l)).find? (fun q=>okW f l ([]++q)) with
   | some q=>rintro ⟨a',_,h⟩;exact ⟨_,h⟩
   | none=>rintro ⟨z,h⟩;exact ⟨_,h⟩
 obtain ⟨k,r,h2,h3⟩:=X98 h1
 unfold X2I
 rw [h2,←h3]
 rcases key k with ⟨h,_⟩|h
 ·exact absurd (h3.symm.trans h) (by simp)
 ·exact h
theorem X7x {f:ZI} {l:List Zl} (hg:X6Z f l) {kit:Nat→Nat} (hk:Kit f kit) {A:Nat} (hA:∀ k,A.testBit k=X1Y f l k) {s:List Nat} :
  ∀ (k n:Nat) (x:Int) (m:List (Zh×Int)),n+k≤1000→WL f m→X4N (okW f l) (Xx f l) n k=some s →
   ∃ (a:Nat) (m':_),X7J a s∧WL f m'∧X2V (x,(n:Int),false,(A:Int),m,f,l,kit)=some ((a:Int),(A:Int),m',f,l,kit)
 | 0,n,x,m,hb,hm,h=>by cases h
 | k+1,n,x,m,hb,hm,h=>by
  unfold X2V
  rw [ZgL]
  obtain ⟨m',hm',hp⟩:=X9z hg hk hA hm n (by omega)
  have hw:=wS n (by omega)
  simp only [X2t,X1P,Bool.not_false,cond_true,hw]
  unfold X4N at h
  simp only [List.nil_append] at hp
  cases hf:(XR n (Xx f l)).find? (okW f l) with
  | some q =>
   rw [hf] at h
   cases h
   have hf':(XR n (Xx f l)).find? (fun q=>okW f l q)=some s:=hf
   rw [hf'] at hp
   obtain ⟨a',ha',hp⟩:=hp
   rw [hp]
   simp only [jS]
   rw [ZgL]
   refine ⟨a',m',ha',hm',?_⟩
   simp [X2t,X1P]
  | none =>
   rw [hf] at h
   have hf':(XR n (Xx f l)).find? (fun q=>okW f l q)=none:=hf
   rw [hf'] at hp
   obtain ⟨z,hp⟩:=hp
   rw [hp]
   simp only [jS]
   exact X7x hg hk hA k (n+1) z m' (by omega) hm' h
def X1q (f:ZI) (s:List Nat):List Int:=(s.filter fun t=>decide (t<X0 f)).map fun t:Nat=>(t:Int)
def X1p (f:ZI) (s:List Nat):List Int:=(s.filter fun t=>decide (X0 f≤t)).map fun t:Nat=>(t:Int)-(X0 f:Int)
theorem X8W {f:ZI} (hg:XZ f) {a:Nat} {s:List Nat} (ha:X7J a s) (h12:a<2 ^ 12) :
  X4b (a:Int) (↑f.Hz9.Hz8.length) (IntKind.wrap .i64 ((f.Hz9.Hz8.length:Int)+(f.Hz0.length:Int))) (0,[],[])=some (X1p f ((List.range (X0 f+f.Hz0.length)).filter fun t=>s.contains t),X1q f ((List.range (X0 f+f.Hz0.length)).filter fun t=>s.contains t)):=by
 have hM:=hg.marks
 have hI:=hg.inst
 have hN:IntKind.wrap .i64 ((f.Hz9.Hz8.length:Int)+(f.Hz0.length:Int))=((X0 f+f.Hz0.length:Nat):Int):=by unfold X0;rw [w64]<;>omega
 rw [hN,show (f.Hz9.Hz8.length:Int)=((X0 f:Nat):Int) from rfl]
 have hMn:X0 f≤8:=hM
 refine (X6B (X1K (a:Int) ((X0 f:Nat):Int) ((X0 f+f.Hz0.length:Nat):Int)) (X0 f+f.Hz0.length) (fun i (b:List Int×List Int)=>((i:Int),b.1,b.2)) (fun i b=>b.1.length≤i∧b.2.length≤i∧b.1=X1p f ((List.range i).filter fun t=>s.contains t)∧b.2=X1q f ((List.range i).filter fun t=>s.contains t)) (fun _ _=>some (X1p f ((List.range (X0 f+f.Hz0.length)).filter fun t=>s.contains t),X1q f ((List.range (X0 f+f.Hz0.length)).filter fun t=>s.contains t))) ?_ ?_ 0 ([],[]) (by omega) ⟨by simp,by simp,rfl,rfl⟩)
 ·intro b hb R
  simp only [X1K,X1Q,Int.lt_irrefl,decide_false,cond_false,jS,Sum.elim_inr]
  rw [hb.2.2.1,hb.2.2.2]
 ·intro i b hi hb R hR
  obtain ⟨hl1,hl2,h1,h2⟩:=hb
  have e1:decide ((i:Int)<((X0 f+f.Hz0.length:Nat):Int))=true:=by simp;omega
  have e0:decide ((i:Int)<0)=false:=by simp
  have hw:=wS i (by omega)
  have hws:IntKind.wrap .i64 ((i:Int)-(X0 f:Int))=(i:Int)-(X0 f:Int):=by rw [w64]<;>omega
  have hbit:=X8A a i (by omega) (by omega)
  have ble:∀ (c:List Int) (d:Int),c.length≤i→Nat.ble ((c.length+[d].length)*(8+1)) 200000000000000=true:=fun c d h=>by
   apply Nat.ble_eq_true_of_le;simp only [List.length_cons,List.length_nil];omega
  simp only [X1K,X1Q,e1,e0,cond_true,cond_false,hw,hbit,hws,ble _ _ hl1,ble _ _ hl2]
  rw [ha]
  have hr:(List.range (i+1)).filter (fun t=>s.contains t)=if s.contains i then (List.range i).filter (fun t=>s.contains t)++[i] else (List.range i).filter fun t=>s.contains t:=by
   rw [List.range_succ,List.filter_append]
   cases hc:s.contains i
   ·simp only [List.filter_cons,hc,List.filter_nil,Bool.false_eq_true,if_false,List.append_nil]
   ·simp only [List.filter_cons,hc,List.filter_nil,if_true]
  have mk:∀ (r:List Nat),X1p f (r++[i])=if decide (X0 f≤i) then X1p f r++[(i:Int)-(X0 f:Int)] else X1p f r:=fun r=>by
   unfold X1p
   rw [List.filter_append,List.map_append]
   by_cases c:X0 f≤i<;>simp [c]
  have mk2:∀ (r:List Nat),X1q f (r++[i])=if decide (i<X0 f) then X1q f r++[(i:Int)] else X1q f r:=fun r=>by
   unfold X1q
   rw [List.filter_append,List.map_append]
   by_cases c:i<X0 f<;>simp [c]
  cases hc:s.contains i
  ·simp only [Bool.not_false,cond_true,jS,Sum.elim_inl]
   rw [hc] at hr
   simp only [Bool.false_eq_true,if_false] at hr
   exact hR b ⟨by omega,by omega,by rw [hr,h1],by rw [hr,h2]⟩
  ·rw [hc] at hr
   simp only [if_true] at hr
   by_cases c:i<X0 f
   ·have e3:decide ((i:Int)<((X0 f:Nat):Int))=true:=by simp;omega
    simp only [Bool.not_true,cond_false,e3,cond_true,jS,Sum.elim_inl]
    refine hR (b.1,b.2++[(i:Int)]) ⟨by simp only;omega,by simp;omega,?_,?_⟩
    ·rw [hr,mk,if_neg (by simp;omega),h1]
    ·rw [hr,mk2,if_pos (by simp;omega),h2]
   ·have e3:decide ((i:Int)<((X0 f:Nat):Int))=false:=by simp;omega
    simp only [Bool.not_true,cond_false,e3,jS,Sum.elim_inl]
    refine hR (b.1++[(i:Int)-(X0 f:Int)],b.2) ⟨by simp;omega,by simp only;omega,?_,?_⟩
    ·rw [hr,mk,if_pos (by simp;omega),h1]
    ·rw [hr,mk2,if_neg (by simp;omega),h2]
theorem X6Q:∀ (l s:List Nat),l.Pairwise (· < ·)→s.Pairwise (· < ·)→(∀ t∈s,t∈l)→l.filter (fun t=>s.contains t)=s
 | [],s,_,_,h=>by
  cases s with
  | nil=>rfl
  | cons b s=>exact absurd (h b (by simp)) (by simp)
 | a::l,[],_,_,_=>by simp
 | a::l,b::s,hl,hs,h=>by
  have hl2:=List.pairwise_cons.1 hl
  have hs2:=List.pairwise_cons.1 hs
  by_cases e:b=a
  ·subst e
   rw [List.filter_cons_of_pos (by simp)]
   congr 1
   have:l.filter (fun t=>(b::s).contains t)=l.filter fun t=>s.contains t:=by
    apply List.filter_congr
    intro t ht
    have:=hl2.1 t ht
    have hne:t≠b:=by omega
    simp [hne]
   rw [this]
   refine X6Q l s hl2.2 hs2.2 fun t ht => ?_
   rcases List.mem_cons.1 (h t (by simp [ht])) with e|e
   ·have:=hs2.1 t ht;omega
   ·exact e
  ·have hbl:b∈l:=by
    rcases List.mem_cons.1 (h b (by simp)) with e'|e'
    ·exact absurd e' e
    ·exact e'
   have hab:=hl2.1 b hbl
   have hna:∀ t∈b::s,t∈l:=fun t ht=>by
    rcases List.mem_cons.1 (h t ht) with e'|e'
    ·subst e'
     rcases List.mem_cons.1 ht with e''|e''
     ·exact absurd e''.symm e
     ·have:=hs2.1 t e'';omega
    ·exact e'
   rw [List.filter_cons_of_neg]
   ·exact X6Q l (b::s) hl2.2 hs hna
   ·intro hc
    have:a∈b::s:=by simpa using hc
    have:=hl2.1 a (hna a this)
    omega
theorem X9j (n:Nat) (s:List Nat) (hp:s.Pairwise (· < ·)) (hs:∀ t∈s,t<n):(List.range n).filter (fun t=>s.contains t)=s :=
 X6Q _ _ List.pairwise_lt_range hp fun t ht=>List.mem_range.2 (hs t ht)
theorem X85 (f:ZI) (l:List Zl):X6y f l=some (if (X21 f l).2=0 then (X1q f (X4d f l),X1p f (X4d f l),0) else ([],[],(X21 f l).2)):=by
 rw [X74];unfold X3c
 rcases X9p f l with ⟨_,he,h0⟩|⟨kit,hg,h8,hk,he⟩
 ·rw [he]
  simp [h0,X1A h0]
 ·rw [he]
  simp only [jS,Sum.elim_inr]
  by_cases h0:(X21 f l).2=0
  ·have hs:=X6h h0
   obtain ⟨A,hA,ht⟩:=X9d hg hs.each hs.len hk []
   have ws:=X6Y hg hs.each
   obtain ⟨a,m',ha,hm',hr⟩:=X7x hs hk hA (f.Hz0.length+1) 0 0 [] (by have:=hg.inst;omega) (X8Z f) ws.first
   have hlt:∀ t∈X4d f l,t<X0 f+f.Hz0.length:=fun t ht=>X7I (ws.sub.subset ht)
   have h12:a<2 ^ 12:=X8k ha fun t ht=>by have:=hlt t ht;have:=hg.marks;have:=hg.inst;unfold X0 at *;omega
   simp only [h0,bne_self_eq_false,cond_false,if_true,ht,jS]
   rw [show ((0:Int),(0:Int),false,(A:Int),([]:List (Zh×Int)),f,l,kit)=((0:Int),((0:Nat):Int),false,(A:Int),[],f,l,kit) from rfl,hr]
   simp only [jS]
   rw [X8W hg ha h12,X9j _ _ (X8T.sublist ws.sub) hlt]
   rfl
  ·simp [h0,X1A h0]
end Nore
open Go Go.Ab
namespace Nore
theorem X2i {β σ ω:Type} (st:σ→Option (σ⊕ω)) (n:Nat) (emb:Nat→β→σ) (P:Nat→β→Prop) (Q:ω→Prop)
  (hd:∀ b,P n b→∃ w,st (emb n b)=some (.inr w)∧Q w)
  (hn:∀ i b,i<n→P i b→(∃ w,st (emb i b)=some (.inr w)∧Q w)∨∃ b',st (emb i b)=some (.inl (emb (i+1) b'))∧P (i+1) b') :
  ∀ i b,i≤n→P i b→∃ w,Z8N st (emb i b)=some w∧Q w:=by
 intro i b hi hP
 induction hj:n-i generalizing i b with
 | zero =>
  have:i=n:=by omega
  subst this
  obtain ⟨w,h1,h2⟩:=hd b hP
  exact ⟨w,by rw [ZgL,h1];rfl,h2⟩
 | succ j ih =>
  rcases hn i b (by omega) hP with ⟨w,h1,h2⟩|⟨b',h1,h2⟩
  ·exact ⟨w,by rw [ZgL,h1];rfl,h2⟩
  ·obtain ⟨w,h3,h4⟩:=ih (i+1) b' (by omega) h2 (by omega)
   exact ⟨w,by rw [ZgL,h1];exact h3,h4⟩
end Nore
open Go Go.Ab
namespace Nore
theorem X9A (f:ZI) (s:List Nat):(X1q f s).length+(X1p f s).length=s.length:=by
 unfold X1q X1p
 rw [List.length_map,List.length_map]
 induction s with
 | nil=>rfl
 | cons t s ih =>
  by_cases c:t<X0 f
  ·rw [List.filter_cons_of_pos (by simpa using c),List.filter_cons_of_neg (by simp;omega)]
   simp only [List.length_cons];omega
  ·rw [List.filter_cons_of_neg (by simpa using c),List.filter_cons_of_pos (by simp;omega)]
   simp only [List.length_cons];omega
theorem X9K {f:ZI} (hg:XZ f) (l:List Zl):(Xx f l).length≤12:=by
 have h1:=List.length_filter_le (X1Y f l) (List.range (X0 f+f.Hz0.length))
 rw [List.length_range] at h1
 have:=hg.marks
 have:=hg.inst
 unfold Xx;unfold X0 at *;omega
end Nore
open Go Go.Ab
namespace Nore
end Nore
open Go Go.Ab Go.Proofs.YtehofdemanfenaaGreat
namespace Nore
theorem X8e (l:List Int) (hl:l.length<1000000):X4c l l=some true:=by
 unfold X4c
 obtain ⟨w,h1,h2⟩:=X2i (X1e l l) l.length (fun i (_:Unit)=>(i:Int)) (fun _ _=>True) (fun w=>w = .inr ())
  (fun _ _=>⟨.inr (),by simp [X1e,X1r],rfl⟩)
  (fun i _ hi _=>by
   right
   refine ⟨(),?_,trivial⟩
   have hw:=wS i (by omega)
   have e1:decide ((i:Int)<↑l.length)=true:=by simp [hi]
   have e2:=z0S i
   simp only [X1e,X1r,kS,hw,e1,e2,Bool.and_self,cond_true,bne_self_eq_false,cond_false]) 0 () (by omega) trivial
 subst h2
 have h1':X3V l l 0=some (.inr ()):=h1
 rw [h1'];simp
end Nore
open Go Go.Ab
namespace Nore
def X4C (p:Nat):Zu:=⟨Geo.vx p,Geo.vy p⟩
theorem X9i:∀ p,p<32 → -1000≤Geo.vx p∧Geo.vx p≤1000 ∧ -1000≤Geo.vy p∧Geo.vy p≤1000:=by decide
theorem X9W {a:Int} (h : -1000000≤a∧a≤1000000):IntKind.wrap .i64 (0-a) = -a:=by rw [w64]<;>omega
theorem X9V (q:Nat):∀ p,p<32→p / 8=q→(∀ n r,Z8k Xb n ((p:Int),())=some r→r=X4C p)∧(∃ n r,Z8k Xb n ((p:Int),())=some r):=by
 have base:∀ p:Nat,p<8→∀ n,Z8k Xb (n+1) ((p:Int),())=some (X4C p):=fun p hp n=>by
  have e:∀ p,p<8→(List.getD [Zu.mk 0 1000,Zu.mk 195 981,Zu.mk 383 924,Zu.mk 556 831,Zu.mk 707 707,Zu.mk 831 556,Zu.mk 924 383,Zu.mk 981 195] p (Zu.mk 0 0)).X=Geo.vx p∧(List.getD [Zu.mk 0 1000,Zu.mk 195 981,Zu.mk 383 924,Zu.mk 556 831,Zu.mk 707 707,Zu.mk 831 556,Zu.mk 924 383,Zu.mk 981 195] p (Zu.mk 0 0)).Y=Geo.vy p:=by decide
  have e':=e p hp
  simp only [Z8k,Xb,X2C,kS]
  have h1:decide ((p:Int)≥8)=false:=by simp;omega
  rw [h1]
  generalize List.getD _ p _=g at *
  have h2:decide ((0:Int)≤(p:Int))=true:=by simp
  have h3:decide ((p:Int)<((8:Nat):Int))=true:=by simp;omega
  have h4:Nat.blt p 8=true:=by simp [Nat.blt,Nat.ble_eq];omega
  simp only [cond_false,List.length_cons,List.length_nil,Nat.zero_add,Nat.reduceAdd]
  rw [h2,h3,h4]
  simp only [Bool.and_self,cond_true,X4C,Option.some.injEq]
  cases g
  simp only [Zu.mk.injEq]
  exact e'
 induction q with
 | zero =>
  intro p hp hq
  have hp8:p<8:=by omega
  refine ⟨fun n r h => ?_,⟨1,_,base p hp8 0⟩⟩
  cases n with
  | zero=>simp [Z8k] at h
  | succ n=>rw [base p hp8 n] at h;exact (Option.some.inj h).symm
 | succ q ih =>
  intro p hp hq
  obtain ⟨i1,m,s,i2⟩:=ih (p-8) (by omega) (by omega)
  have hstep:∀ n,Z8k Xb (n+1) ((p:Int),())=Option.bind (Z8k Xb n (((p-8:Nat):Int),())) fun v=>some ⟨v.Y,IntKind.wrap .i64 (0-v.X)⟩:=fun n=>by
   simp only [Z8k,Xb,X2C]
   have h1:decide ((p:Int)≥8)=true:=by simp;omega
   have h2:IntKind.wrap .i64 ((p:Int)-8)=((p-8:Nat):Int):=by rw [w64]<;>omega
   rw [h1,h2]
   rfl
  have tt:(⟨(X4C (p-8)).Y,-(X4C (p-8)).X⟩:Zu)=X4C p:=by
   have e:∀ p,p<24→Geo.vy p=Geo.vx (p+8) ∧ - Geo.vx p=Geo.vy (p+8):=by decide
   have e':=e (p-8) (by omega)
   rw [show p-8+8=p by omega] at e'
   simp only [X4C,Zu.mk.injEq]
   exact e'
  have bd:=X9i (p-8) (by omega)
  have wv:IntKind.wrap .i64 (0-(X4C (p-8)).X) = - (X4C (p-8)).X:=X9W (by simp only [X4C];omega)
  refine ⟨fun n r h => ?_,⟨m+1,X4C p,?_⟩⟩
  ·cases n with
   | zero=>simp [Z8k] at h
   | succ n =>
    rw [hstep] at h
    cases hr:Z8k Xb n (((p-8:Nat):Int),()) with
    | none=>rw [hr] at h;simp at h
    | some v =>
     rw [hr] at h
     have:=i1 n v hr
     subst this
     simp only [jS,Option.some.injEq] at h
     rw [←h,wv,tt]
  ·rw [hstep,i2]
   have:=i1 m s i2
   subst this
   simp only [jS,wv,tt]
theorem X2B (p:Nat) (hp:p<32):X4e (p:Int)=some (X4C p):=by
 obtain ⟨h1,h2⟩:=X9V (p / 8) p hp rfl
 exact Zh6 h1 h2
theorem X8n (p:Nat) (hp:p<32) (v:Zu) (hv:Bd 60000 v):IntKind.wrap .i64 (IntKind.wrap .i64 ((X4C p).X*v.Y)-IntKind.wrap .i64 ((X4C p).Y*v.X))=Geo.crs p v.X v.Y:=by
 have bd:=X9i p hp
 unfold Bd at hv
 rw [X95 2000000 rfl (by simp only [X4C];omega) (by omega) (by simp only [X4C];omega) (by omega)]
 rfl
theorem X7h (v:Zu) (hv:Bd 60000 v) (h0:v.X≠0∨v.Y≠0):X2Y v=some ((Geo.tow v.X v.Y:Nat):Int):=by
 have ht:=Geo.tow_spec h0
 unfold X2Y
 have key:=X5 (Wc v) (fun o224=>some o224) (Geo.tow v.X v.Y) (fun i (_:Unit)=>(i:Int)) (fun _ _=>True) (fun _ _=>some ((Geo.tow v.X v.Y:Nat):Int))
  (by
   intro b _ R
   simp only [Wc,Wn]
   generalize ht':Geo.tow v.X v.Y=t at *
   have hw:=wS t (by omega)
   have hm:Int.tmod ((t+1:Nat):Int) 32=(((t+1) % 32:Nat):Int):=rfl
   rw [hw,hm,X2B _ ht.1,X2B _ (by omega)]
   simp only [jS]
   rw [X8n _ ht.1 v hv,X8n _ (by omega) v hv]
   have a1:decide (Geo.crs t v.X v.Y>0)=false:=by simpa using ht.2.1
   have a2:decide (Geo.crs ((t+1) % 32) v.X v.Y≤0)=false:=by simpa using ht.2.2
   simp [a1,a2])
  (by
   intro i b hi _ R hR
   have hR':=hR () trivial
   simp only [Wc,Wn]
   have hi32:i<32:=by omega
   have hw:=wS i (by omega)
   have hm:Int.tmod ((i+1:Nat):Int) 32=(((i+1) % 32:Nat):Int):=rfl
   rw [hw,hm,X2B _ hi32,X2B _ (by omega)]
   simp only [jS]
   rw [X8n _ hi32 v hv,X8n _ (by omega) v hv]
   by_cases a1:Geo.crs i v.X v.Y>0
   ·simp [a1];simpa using hR'
   ·by_cases a2:Geo.crs ((i+1) % 32) v.X v.Y≤0
    ·simp [a1,a2];simpa using hR'
    ·exfalso
     have:Geo.Tow i v.X v.Y:=⟨by omega,by omega⟩
     have:=Geo.tow_eq hi32 this
     omega)
 exact key 0 () (by omega) trivial
theorem X6w {X Y:Int} (hx:0≤X) (hy:0<Y):Geo.tow X Y+1=X6S ⟨X,Y⟩ X6∧1≤X6S ⟨X,Y⟩ X6∧X6S ⟨X,Y⟩ X6≤8:=by
 unfold X6S X6
 have c0:Geo.crs 0 X Y=0*Y-1000*X:=rfl
 have c1:Geo.crs 1 X Y=195*Y-981*X:=rfl
 have c2:Geo.crs 2 X Y=383*Y-924*X:=rfl
 have c3:Geo.crs 3 X Y=556*Y-831*X:=rfl
 have c4:Geo.crs 4 X Y=707*Y-707*X:=rfl
 have c5:Geo.crs 5 X Y=831*Y-556*X:=rfl
 have c6:Geo.crs 6 X Y=924*Y-383*X:=rfl
 have c7:Geo.crs 7 X Y=981*Y-195*X:=rfl
 have c8:Geo.crs 8 X Y=1000*Y-0*X:=rfl
 by_cases h1:195*Y-981*X≤0
 rotate_left
 ·have ht:Geo.tow X Y=0:=Geo.tow_eq (by omega) ⟨by omega,by show Geo.crs 1 X Y>0;omega⟩
  have d0:decide ((0:Int)*Y-1000*X≤0)=true:=by simp;omega
  have d1:decide ((195:Int)*Y-981*X≤0)=false:=by simp;omega
  have d2:decide ((383:Int)*Y-924*X≤0)=false:=by simp;omega
  have d3:decide ((556:Int)*Y-831*X≤0)=false:=by simp;omega
  have d4:decide ((707:Int)*Y-707*X≤0)=false:=by simp;omega
  have d5:decide ((831:Int)*Y-556*X≤0)=false:=by simp;omega
  have d6:decide ((924:Int)*Y-383*X≤0)=false:=by simp;omega
  have d7:decide ((981:Int)*Y-195*X≤0)=false:=by simp;omega
  rw [ht]
  simp [List.countP_cons,d0,d1,d2,d3,d4,d5,d6,d7,show 0≤1000*X by omega]
 by_cases h2:383*Y-924*X≤0
 rotate_left
 ·have ht:Geo.tow X Y=1:=Geo.tow_eq (by omega) ⟨by omega,by show Geo.crs 2 X Y>0;omega⟩
  have d0:decide ((0:Int)*Y-1000*X≤0)=true:=by simp;omega
  have d1:decide ((195:Int)*Y-981*X≤0)=true:=by simp;omega
  have d2:decide ((383:Int)*Y-924*X≤0)=false:=by simp;omega
  have d3:decide ((556:Int)*Y-831*X≤0)=false:=by simp;omega
  have d4:decide ((707:Int)*Y-707*X≤0)=false:=by simp;omega
  have d5:decide ((831:Int)*Y-556*X≤0)=false:=by simp;omega
  have d6:decide ((924:Int)*Y-383*X≤0)=false:=by simp;omega
  have d7:decide ((981:Int)*Y-195*X≤0)=false:=by simp;omega
  rw [ht]
  simp [List.countP_cons,d0,d1,d2,d3,d4,d5,d6,d7,show 0≤1000*X by omega]
 by_cases h3:556*Y-831*X≤0
 rotate_left
 ·have ht:Geo.tow X Y=2:=Geo.tow_eq (by omega) ⟨by omega,by show Geo.crs 3 X Y>0;omega⟩
  have d0:decide ((0:Int)*Y-1000*X≤0)=true:=by simp;omega
  have d1:decide ((195:Int)*Y-981*X≤0)=true:=by simp;omega
  have d2:decide ((383:Int)*Y-924*X≤0)=true:=by simp;omega
  have d3:decide ((556:Int)*Y-831*X≤0)=false:=by simp;omega
  have d4:decide ((707:Int)*Y-707*X≤0)=false:=by simp;omega
  have d5:decide ((831:Int)*Y-556*X≤0)=false:=by simp;omega
  have d6:decide ((924:Int)*Y-383*X≤0)=false:=by simp;omega
  have d7:decide ((981:Int)*Y-195*X≤0)=false:=by simp;omega
  rw [ht]
  simp [List.countP_cons,d0,d1,d2,d3,d4,d5,d6,d7,show 0≤1000*X by omega]
 by_cases h4:707*Y-707*X≤0
 rotate_left
 ·have ht:Geo.tow X Y=3:=Geo.tow_eq (by omega) ⟨by omega,by show Geo.crs 4 X Y>0;omega⟩
  have d0:decide ((0:Int)*Y-1000*X≤0)=true:=by simp;omega
  have d1:decide ((195:Int)*Y-981*X≤0)=true:=by simp;omega
  have d2:decide ((383:Int)*Y-924*X≤0)=true:=by simp;omega
  have d3:decide ((556:Int)*Y-831*X≤0)=true:=by simp;omega
  have d4:decide ((707:Int)*Y-707*X≤0)=false:=by simp;omega
  have d5:decide ((831:Int)*Y-556*X≤0)=false:=by simp;omega
  have d6:decide ((924:Int)*Y-383*X≤0)=false:=by simp;omega
  have d7:decide ((981:Int)*Y-195*X≤0)=false:=by simp;omega
  rw [ht]
  simp [List.countP_cons,d0,d1,d2,d3,d4,d5,d6,d7,show 0≤1000*X by omega]
 by_cases h5:831*Y-556*X≤0
 rotate_left
 ·have ht:Geo.tow X Y=4:=Geo.tow_eq (by omega) ⟨by omega,by show Geo.crs 5 X Y>0;omega⟩
  have d0:decide ((0:Int)*Y-1000*X≤0)=true:=by simp;omega
  have d1:decide ((195:Int)*Y-981*X≤0)=true:=by simp;omega
  have d2:decide ((383:Int)*Y-924*X≤0)=true:=by simp;omega
  have d3:decide ((556:Int)*Y-831*X≤0)=true:=by simp;omega
  have d4:decide ((707:Int)*Y-707*X≤0)=true:=by simp;omega
  have d5:decide ((831:Int)*Y-556*X≤0)=false:=by simp;omega
  have d6:decide ((924:Int)*Y-383*X≤0)=false:=by simp;omega
  have d7:decide ((981:Int)*Y-195*X≤0)=false:=by simp;omega
  rw [ht]
  simp [List.countP_cons,d0,d1,d2,d3,d4,d5,d6,d7,show 0≤1000*X by omega]
 by_cases h6:924*Y-383*X≤0
 rotate_left
 ·have ht:Geo.tow X Y=5:=Geo.tow_eq (by omega) ⟨by omega,by show Geo.crs 6 X Y>0;omega⟩
  have d0:decide ((0:Int)*Y-1000*X≤0)=true:=by simp;omega
  have d1:decide ((195:Int)*Y-981*X≤0)=true:=by simp;omega
  have d2:decide ((383:Int)*Y-924*X≤0)=true:=by simp;omega
  have d3:decide ((556:Int)*Y-831*X≤0)=true:=by simp;omega
  have d4:decide ((707:Int)*Y-707*X≤0)=true:=by simp;omega
  have d5:decide ((831:Int)*Y-556*X≤0)=true:=by simp;omega
  have d6:decide ((924:Int)*Y-383*X≤0)=false:=by simp;omega
  have d7:decide ((981:Int)*Y-195*X≤0)=false:=by simp;omega
  rw [ht]
  simp [List.countP_cons,d0,d1,d2,d3,d4,d5,d6,d7,show 0≤1000*X by omega]
 by_cases h7:981*Y-195*X≤0
 rotate_left
 ·have ht:Geo.tow X Y=6:=Geo.tow_eq (by omega) ⟨by omega,by show Geo.crs 7 X Y>0;omega⟩
  have d0:decide ((0:Int)*Y-1000*X≤0)=true:=by simp;omega
  have d1:decide ((195:Int)*Y-981*X≤0)=true:=by simp;omega
  have d2:decide ((383:Int)*Y-924*X≤0)=true:=by simp;omega
  have d3:decide ((556:Int)*Y-831*X≤0)=true:=by simp;omega
  have d4:decide ((707:Int)*Y-707*X≤0)=true:=by simp;omega
  have d5:decide ((831:Int)*Y-556*X≤0)=true:=by simp;omega
  have d6:decide ((924:Int)*Y-383*X≤0)=true:=by simp;omega
  have d7:decide ((981:Int)*Y-195*X≤0)=false:=by simp;omega
  rw [ht]
  simp [List.countP_cons,d0,d1,d2,d3,d4,d5,d6,d7,show 0≤1000*X by omega]
 have ht:Geo.tow X Y=7:=Geo.tow_eq (by omega) ⟨by omega,by show Geo.crs 8 X Y>0;omega⟩
 have d0:decide ((0:Int)*Y-1000*X≤0)=true:=by simp;omega
 have d1:decide ((195:Int)*Y-981*X≤0)=true:=by simp;omega
 have d2:decide ((383:Int)*Y-924*X≤0)=true:=by simp;omega
 have d3:decide ((556:Int)*Y-831*X≤0)=true:=by simp;omega
 have d4:decide ((707:Int)*Y-707*X≤0)=true:=by simp;omega
 have d5:decide ((831:Int)*Y-556*X≤0)=true:=by simp;omega
 have d6:decide ((924:Int)*Y-383*X≤0)=true:=by simp;omega
 have d7:decide ((981:Int)*Y-195*X≤0)=true:=by simp;omega
 rw [ht]
 simp [List.countP_cons,d0,d1,d2,d3,d4,d5,d6,d7,show 0≤1000*X by omega]
theorem X8w:∀ t,t<32→Geo.vx ((t+8) % 32)=Geo.vy t∧Geo.vy ((t+8) % 32) = - Geo.vx t:=by decide
theorem X70 (t:Nat) (ht:t<32) (X Y:Int):Geo.crs ((t+8) % 32) Y (-X)=Geo.crs t X Y:=by
 have h:=X8w t ht
 unfold Geo.crs
 rw [h.1,h.2]
 rw [Int.mul_neg,Int.neg_mul]
 omega
theorem X32 {X Y:Int} (h:X≠0∨Y≠0):Geo.tow Y (-X)=(Geo.tow X Y+8) % 32:=by
 obtain ⟨h1,h2,h3⟩:=Geo.tow_spec h
 generalize Geo.tow X Y=t at *
 apply Geo.tow_eq (by omega)
 refine ⟨?_,?_⟩
 ·rw [X70 t h1];exact h2
 ·rw [show ((t+8) % 32+1) % 32=((t+1) % 32+8) % 32 by omega,X70 _ (by omega)];exact h3
theorem X9v {v:Zu} (hb : -60000≤v.X∧v.X≤60000 ∧ -60000≤v.Y∧v.Y≤60000) (h0:¬ (v.X=0∧v.Y=0)):X4X v=((Geo.tow v.X v.Y:Nat):Int):=by
 unfold X4X X4Y
 by_cases c1:0≤v.X∧0<v.Y
 ·rw [if_pos c1]
  have h:=X6w c1.1 c1.2
  have he:X6S ⟨v.X,v.Y⟩ X6=X6S v X6:=rfl
  rw [he] at h
  simp only
  omega
 ·rw [if_neg c1]
  by_cases c2:0<v.X∧v.Y≤0
  ·rw [if_pos c2]
   have h1:=X6w (X := -v.Y) (Y:=v.X) (by omega) c2.1
   have h2:=X32 (X := -v.Y) (Y:=v.X) (by omega)
   rw [Int.neg_neg] at h2
   simp only
   omega
  ·rw [if_neg c2]
   by_cases c3:v.X≤0∧v.Y<0
   ·rw [if_pos c3]
    have h1:=X6w (X := -v.X) (Y := -v.Y) (by omega) (by omega)
    have h2:=X32 (X := -v.X) (Y := -v.Y) (by omega)
    have h3:=X32 (X := -v.Y) (Y:=v.X) (by omega)
    rw [Int.neg_neg] at h2 h3
    simp only
    omega
   ·rw [if_neg c3]
    have h1:=X6w (X:=v.Y) (Y := -v.X) (by omega) (by omega)
    have h2:=X32 (X:=v.Y) (Y := -v.X) (by omega)
    have h3:=X32 (X := -v.X) (Y := -v.Y) (by omega)
    have h4:=X32 (X := -v.Y) (Y:=v.X) (by omega)
    rw [Int.neg_neg] at h3 h4
    simp only
    omega
theorem X7i {v:Zu} (hb : -60000≤v.X∧v.X≤60000 ∧ -60000≤v.Y∧v.Y≤60000) (h0:¬ (v.X=0∧v.Y=0)):X2Y v=some (X4X v):=by
 rw [X7h v (by unfold Bd;omega) (by omega),X9v hb h0]
end Nore
open Go Go.Ab
namespace Nore
theorem X8Y {f:ZI} (hA:f.Hz7.length≤6) (p:Zu):∃ k:Int,X4E f p=some k∧((k<0∧X6P f p=none)∨(0≤k∧k.toNat<f.Hz7.length∧X6P f p=some (f.Hz7.getD k.toNat ⟨⟨0,0⟩,⟨0,0⟩,⟨0,0⟩,0⟩))):=by
 rw [X62];unfold X2g
 obtain ⟨w,h1,h2⟩:=X2i (Wf p f) f.Hz7.length (fun i (_:Unit)=>(i:Int)) (fun i _=>X6P f p=(f.Hz7.drop i).find? fun a=>X4u a p)
  (fun w=>(w = .inr ()∧X6P f p=none)∨∃ k:Nat,k<f.Hz7.length∧w = .inl (k:Int)∧X6P f p=some (f.Hz7.getD k ⟨⟨0,0⟩,⟨0,0⟩,⟨0,0⟩,0⟩))
  (fun _ hb=>⟨.inr (),by simp [Wf,Wp],.inl ⟨rfl,by simpa using hb⟩⟩)
  (fun i _ hi hb=>by
   have hw:=wS i (by omega)
   have e1:decide ((i:Int)<↑f.Hz7.length)=true:=by simp [hi]
   have e2:=z0S i
   obtain ⟨a,ha⟩:∃ a,f.Hz7[i]=a:=⟨_,rfl⟩
   have hgd:f.Hz7.getD i ⟨⟨0,0⟩,⟨0,0⟩,⟨0,0⟩,0⟩=a:=(X1 _ _ _ hi).trans ha
   rw [List.drop_eq_getElem_cons hi,ha,List.find?_cons] at hb
   have hin:X4u a p=(inN p.X a.X.Lo a.X.Hi&&inN p.Y a.Y.Lo a.Y.Hi):=by
    unfold X4u inN
    rw [Bool.eq_iff_iff]
    simp<;>omega
   simp only [Wf,Wp,kS,hgd,hw,e1,e2,Bool.and_self,cond_true,Xw,jS]
   cases c1:inN p.X a.X.Lo a.X.Hi
   ·right
    rw [hin,c1] at hb
    exact ⟨(),rfl,by simpa using hb⟩
   ·simp only [cond_true]
    cases c2:inN p.Y a.Y.Lo a.Y.Hi
    ·right
     rw [hin,c1,c2] at hb
     exact ⟨(),rfl,by simpa using hb⟩
    ·left
     rw [hin,c1,c2] at hb
     exact ⟨_,rfl,.inr ⟨i,hi,rfl,by rw [hgd];simpa using hb⟩⟩) 0 () (by omega) rfl
 have h1':X39 p f 0=some w:=h1
 rw [h1']
 simp only [jS]
 rcases h2 with ⟨h3,h4⟩|⟨k,h3,h4,h5⟩
 ·subst h3
  exact ⟨-1,rfl,.inl ⟨by omega,h4⟩⟩
 ·subst h4
  exact ⟨(k:Int),rfl,.inr ⟨by omega,by simpa using h3,by simpa using h5⟩⟩
def X6O (f:ZI) (x:Zl) (p:Zu) (v:Int):Bool:=(X2X f p x).2&&(decide ((X2X f p x).1.Lo≤v)&&decide (v≤(X2X f p x).1.Hi))
theorem X8X {f:ZI} (hg:XZ f) {x:Zl} (hx:XK f x=0) {p:Zu} (hp:Bd 30000 p) {v:Int} (hv : -X48 (Xy f x.Hz1)≤v∧v≤X48 (Xy f x.Hz1)):X3X f x p v=some (X6O f x p v):=by
 rw [X60];unfold X2f X6O X2X
 obtain ⟨h1,h2,h3⟩:=X54 hx
 have i1:decide (0≤x.Hz1)=true:=by simp;omega
 have i2:decide (x.Hz1<(↑f.Hz0.length:Int))=true:=by simp;omega
 have hgi:f.Hz0.getD x.Hz1.toNat ⟨ByteArray.empty,false,⟨0,0⟩⟩=Xy f x.Hz1:=rfl
 simp only [i1,i2,hgi,Bool.and_self,cond_true]
 cases hL:(Xy f x.Hz1).Lead
 ·have h3:=h3 hL
  have hfar:X48 (Xy f x.Hz1)=4:=by unfold X48;rw [hL];rfl
  rw [hfar] at hv
  have m1:decide (0≤x.Mark)=true:=by simp;omega
  have m2:decide (x.Mark<(↑f.Hz9.Hz8.length:Int))=true:=by simp;omega
  have hgm:f.Hz9.Hz8.getD x.Mark.toNat ⟨ByteArray.empty,⟨0,0⟩,[]⟩=Z8t f x.Mark:=rfl
  have hma:=X8r hg h3.1 h3.2.1
  unfold Bd at hma hp
  simp only [Bool.not_false,cond_true,m1,m2,hgm,Bool.and_self,Bool.and_true,Bool.false_eq_true,if_false]
  rw [w64 (x:=(Z8t f x.Mark).At.X-p.X) (by omega) (by omega),w64 (x:=(Z8t f x.Mark).At.Y-p.Y) (by omega) (by omega)]
  have hfp:X41 30000 p=false:=by rw [X71];unfold Bd;omega
  have hsn:X4B f x.Mark p=if (Z8t f x.Mark).At=p then -1 else X4X (Xp (Z8t f x.Mark).At p):=by
   unfold X4B X7v
   rw [h3.2.2.1,hfp]
   by_cases c:(Z8t f x.Mark).At=p<;>simp [c]
  by_cases c:(Z8t f x.Mark).At=p
  ·rw [if_pos c] at hsn
   rw [hsn,c]
   simp
  ·rw [if_neg c] at hsn
   have h00:¬ ((Z8t f x.Mark).At.X-p.X=0∧(Z8t f x.Mark).At.Y-p.Y=0):=fun q=>c (Zu.ext (by omega) (by omega))
   have e0:((Z8t f x.Mark).At.X-p.X==0&&(Z8t f x.Mark).At.Y-p.Y==0)=false:=by
    cases hc:((Z8t f x.Mark).At.X-p.X==0&&(Z8t f x.Mark).At.Y-p.Y==0)
    ·rfl
    ·exfalso;simp at hc;exact h00 ⟨by omega,by omega⟩
   simp only [e0,Bool.not_false,cond_true]
   rw [show (⟨(Z8t f x.Mark).At.X-p.X,(Z8t f x.Mark).At.Y-p.Y⟩:Zu)=Xp (Z8t f x.Mark).At p from rfl,X7i (by unfold Xp;simp only;omega) (by unfold Xp;exact h00)]
   simp only [jS]
   have hpb:=X8O (v:=Xp (Z8t f x.Mark).At p) (by unfold Xp;simp only;omega) (by unfold Xp;exact h00)
   rw [hsn]
   generalize X4X (Xp (Z8t f x.Mark).At p)=s at *
   rw [w64 (x:=s+v) (by omega) (by omega),w64 (x:=s+v+32) (by omega) (by omega),Int.tmod_eq_emod_of_nonneg (by omega)]
   congr 1
   have hk:(((s+v+32) % 32==x.Hz6)=true)↔(decide (s≥0)&&(decide (X9l x.Hz6 s≤v)&&decide (v≤X9l x.Hz6 s)))=true:=by
    simp only [beq_iff_eq,Bool.and_eq_true,decide_eq_true_eq]
    unfold X9l
    constructor
    ·intro h
     refine ⟨by omega,?_,?_⟩<;>split<;>omega
    ·rintro ⟨_,a,b⟩
     split at a<;>omega
   exact Bool.eq_iff_iff.2 hk
 ·have hfar:X48 (Xy f x.Hz1)=20:=by unfold X48;rw [hL];rfl
  have h2:=h2 hL
  rw [hfar] at hv
  simp only [Bool.not_true,cond_false,if_true]
  obtain ⟨k,hk1,hk2⟩:=X8Y (f:=f) hg.areas p
  rw [hk1]
  simp only [jS]
  rcases hk2 with ⟨hk2,hk3⟩|⟨hk2,hk3,hk4⟩
  ·have e:decide (k<0)=true:=by simpa using hk2
   rw [e,hk3]
   simp only [cond_true,Bool.true_and]
   have a1:decide ((-20:Int)≤v)=true:=by simp;omega
   have a2:decide (v≤(20:Int))=true:=by simp;omega
   rw [a1,a2];rfl
  ·have e:decide (k<0)=false:=by simp;omega
   have e1:decide (0≤k)=true:=by simp;omega
   have e2:decide (k<(↑f.Hz7.length:Int))=true:=by simp;omega
   rw [hk4]
   have ha:=X9f (hg.area _ (List.getElem_mem hk3))
   rw [X1 _ _ _ hk3] at *
   generalize f.Hz7[k.toNat]=a at *
   simp only [e,e1,e2,cond_false,cond_true,Bool.and_self]
   rw [w64 (x:=x.Hz6-v) (by omega) (by omega),Xw]
   simp only [jS]
   have hin:inN (x.Hz6-v) a.Hza.Lo a.Hza.Hi=(decide (x.Hz6-a.Hza.Hi≤v)&&decide (v≤x.Hz6-a.Hza.Lo)):=by
    unfold inN
    rw [Bool.eq_iff_iff]
    simp<;>omega
   rw [hin]
   cases (decide (x.Hz6-a.Hza.Hi≤v)&&decide (v≤x.Hz6-a.Hza.Lo))
   ·simp
   ·cases (x.Hz5==0)<;>simp
def X5n (lo:Int):Nat→List Int
 | 0=>[]
 | n+1=>lo::X5n (lo+1) n
theorem X7T:∀ (n:Nat) (lo v:Int),v∈X5n lo n↔lo≤v∧v<lo+n
 | 0,lo,v=>by simp only [X5n,List.not_mem_nil,false_iff];omega
 | n+1,lo,v=>by
  simp only [X5n,List.mem_cons,X7T n]
  omega
def X4t (f:ZI) (l:List Zl) (p:Zu) (i:Nat) (v:Int):Bool:=l.all fun x => !(decide (x.Hz1.toNat=i))||X6O f x p v
def X6m (f:ZI) (l:List Zl) (p:Zu) (i:Nat):List Int:=(X5n (X7 f i).Lo ((X7 f i).Hi-(X7 f i).Lo+1).toNat).filter fun v=>X4t f l p i v
def X33 (f:ZI) (marks:List Bool) (x:Zl):Bool:=(Xy f x.Hz1).Lead || !(marks.getD x.Mark.toNat false)
theorem X8N {f:ZI} (hg:XZ f) {l:List Zl} (hl:∀ x∈l,XK f x=0) (hll:l.length≤1000) {p:Zu} (hp:Bd 30000 p) (i:Nat) (hi:i<f.Hz0.length) (marks:List Bool) (hm:marks.length=f.Hz9.Hz8.length):X4h f l p (i:Int) marks=some (X6m f (l.filter (X33 f marks)) p i):=by
 rw [X5D];unfold X1V
 have hI:=hg.inst
 have i1:decide ((0:Int)≤(i:Int))=true:=by simp
 have i2:decide ((i:Int)<(↑f.Hz0.length:Int))=true:=by simp [hi]
 have hgd:f.Hz0.getD i ⟨ByteArray.empty,false,⟨0,0⟩⟩=f.Hz0[i]:=X1 _ _ _ hi
 have ho:=hg.off _ (List.getElem_mem hi)
 have hof:X7 f i=f.Hz0[i].Off:=by unfold X7;rw [dif_pos hi]
 have hfb:0≤X48 f.Hz0[i]∧X48 f.Hz0[i]≤20:=by unfold X48;split<;>omega
 have hio:Xy f (i:Int)=f.Hz0[i]:=hgd
 simp only [i1,i2,Bool.and_self,cond_true,kS,hgd]
 have inner:∀ v:Int,-X48 f.Hz0[i]≤v∧v≤X48 f.Hz0[i]→X2R (i:Int) l marks v p f (true,0)=some (X4t f (l.filter (X33 f marks)) p i v):=fun v hv=>by
  obtain ⟨w,h1,h2⟩:=X2i (XY (i:Int) l marks v p f) l.length (fun k (c:Bool)=>(c,(k:Int))) (fun k c=>(c&&X4t f ((l.drop k).filter (X33 f marks)) p i v)=X4t f (l.filter (X33 f marks)) p i v) (fun w=>w=X4t f (l.filter (X33 f marks)) p i v)
   (fun c hc=>⟨c,by simp [XY,W6],by
    rw [List.drop_length] at hc
    simpa [X4t] using hc⟩)
   (fun k c hk hc=>by
    have e1:decide ((k:Int)<↑l.length)=true:=by simp [hk]
    have e2:=z0S k
    have hw:=wS k (by omega)
    have hx:=hl _ (List.getElem_mem hk)
    obtain ⟨x,hxd⟩:∃ x,l[k]=x:=⟨_,rfl⟩
    rw [hxd] at hx
    have hgx:l.getD k ⟨0,0,0,0⟩=x:=(X1 _ _ _ hk).trans hxd
    obtain ⟨n1,n2⟩:=X5v hx
    rw [List.drop_eq_getElem_cons hk,hxd,List.filter_cons] at hc
    simp only [XY,W6,e1,e2,hw,cond_true,kS,hgx,Bool.and_self]
    cases c
    ·left
     refine ⟨false,rfl,?_⟩
     simpa using hc
    ·right
     simp only [cond_true]
     rw [Bool.true_and] at hc
     by_cases ci:x.Hz1=(i:Int)
     ·have ec:(x.Hz1==(i:Int))=true:=by simpa using ci
      simp only [ec,cond_true,i1,i2,Bool.and_self,hgd]
      have hag:=X8X hg hx hp (v:=v) (by rw [ci,hio];exact hv)
      have hti:x.Hz1.toNat=i:=by omega
      cases hL:f.Hz0[i].Lead
      ·obtain ⟨m1,m2⟩:=X4V hx (by rw [ci,hio];exact hL)
       have d1:decide (0≤x.Mark)=true:=by simp;omega
       have d2:decide (x.Mark<(marks.length:Int))=true:=by simp;omega
       have hlm:X33 f marks x = !(marks.getD x.Mark.toNat false):=by unfold X33;rw [ci,hio,hL];rfl
       rw [hlm] at hc
       simp only [cond_false,d1,d2,Bool.and_self,cond_true]
       cases hb:marks.getD x.Mark.toNat false
       ·simp only [Bool.not_false,cond_true,hag,jS]
        rw [hb] at hc
        refine ⟨X6O f x p v,rfl,?_⟩
        rw [←hc]
        simp [X4t,hti]
       ·simp only [Bool.not_true,cond_false]
        rw [hb] at hc
        refine ⟨true,rfl,?_⟩
        rw [←hc]
        simp
      ·have hlm:X33 f marks x=true:=by unfold X33;rw [ci,hio,hL];rfl
       rw [hlm] at hc
       simp only [cond_true,hag,jS]
       refine ⟨X6O f x p v,rfl,?_⟩
       rw [←hc]
       simp [X4t,hti]
     ·have ec:(x.Hz1==(i:Int))=false:=by simpa using ci
      have hti:¬ x.Hz1.toNat=i:=by omega
      simp only [ec,cond_false]
      refine ⟨true,rfl,?_⟩
      rw [←hc]
      cases X33 f marks x<;>simp [X4t,hti]) 0 true (by omega) (by simp)
  exact h1.trans (by rw [h2])
 have hn:((((X7 f i).Hi-(X7 f i).Lo+1).toNat:Nat):Int)=(X7 f i).Hi-(X7 f i).Lo+1:=by rw [hof];omega
 obtain ⟨w,h1,h2⟩:=X2i (XX (i:Int) l marks p f) ((X7 f i).Hi-(X7 f i).Lo+1).toNat (fun k (b:List Int)=>((X7 f i).Lo+(k:Int),b)) (fun k b=>b.length≤k∧b++(X5n ((X7 f i).Lo+k) (((X7 f i).Hi-(X7 f i).Lo+1).toNat-k)).filter (fun v=>X4t f (l.filter (X33 f marks)) p i v)=X6m f (l.filter (X33 f marks)) p i) (fun w=>w=X6m f (l.filter (X33 f marks)) p i)
  (fun b hb=>⟨b,by
   have e:decide ((X7 f i).Lo+((((X7 f i).Hi-(X7 f i).Lo+1).toNat:Nat):Int)≤f.Hz0[i].Off.Hi)=false:=by rw [←hof];simp;omega
   simp only [XX,W5,i1,i2,Bool.and_self,cond_true,kS,hgd,e,cond_false],by
   have:=hb.2
   rw [Nat.sub_self] at this
   simpa [X5n] using this⟩)
  (fun k b hk hb=>by
   right
   obtain ⟨hb1,hb2⟩:=hb
   have e:decide ((X7 f i).Lo+(k:Int)≤f.Hz0[i].Off.Hi)=true:=by rw [←hof];simp;omega
   have hk':(k:Int)<f.Hz0[i].Off.Hi-f.Hz0[i].Off.Lo+1:=by rw [←hof];omega
   have hw:IntKind.wrap .i64 ((X7 f i).Lo+(k:Int)+1)=(X7 f i).Lo+((k+1:Nat):Int):=by rw [hof];rw [w64]<;>omega
   have ble:Nat.ble ((b.length+[(X7 f i).Lo+(k:Int)].length)*(8+1)) 200000000000000=true:=by
    apply Nat.ble_eq_true_of_le;simp only [List.length_cons,List.length_nil]
    have:k≤100:=by rw [hof] at hn hk;omega
    omega
   have hr:X5n ((X7 f i).Lo+(k:Int)) (((X7 f i).Hi-(X7 f i).Lo+1).toNat-k)=((X7 f i).Lo+(k:Int))::X5n ((X7 f i).Lo+((k+1:Nat):Int)) (((X7 f i).Hi-(X7 f i).Lo+1).toNat-(k+1)):=by
    rw [show ((X7 f i).Hi-(X7 f i).Lo+1).toNat-k=(((X7 f i).Hi-(X7 f i).Lo+1).toNat-(k+1))+1 by omega,X5n,show (X7 f i).Lo+(k:Int)+1=(X7 f i).Lo+((k+1:Nat):Int) by push_cast;omega]
   rw [hr,List.filter_cons] at hb2
   simp only [XX,W5,i1,i2,Bool.and_self,cond_true,kS,hgd,e,hw]
   rw [inner _ (by rw [hof] at *;omega)]
   simp only [jS]
   cases hh:X4t f (l.filter (X33 f marks)) p i ((X7 f i).Lo+(k:Int))
   ·rw [hh] at hb2
    exact ⟨b,rfl,by omega,by simpa using hb2⟩
   ·rw [hh] at hb2
    simp only [cond_true,ble]
    exact ⟨b++[(X7 f i).Lo+(k:Int)],rfl,by simp;omega,by simpa using hb2⟩) 0 [] (by omega) ⟨by simp,by simp [X6m]⟩
 have h1':X2Q (i:Int) l marks p f (f.Hz0[i].Off.Lo,[])=some w:=by
  rw [←hof]
  have:(X7 f i).Lo+((0:Nat):Int)=(X7 f i).Lo:=by omega
  rw [this] at h1
  exact h1
 rw [h1',h2];rfl
theorem X8M {f:ZI} (hg:XZ f) (l:List Zl) (p:Zu) (i:Nat) (v:Int):v∈X6m f l p i↔Num f l p 0 0 i v:=by
 unfold X6m Num X7y
 have ho:=X7U hg i
 rw [List.mem_filter,X7T]
 unfold X4t
 rw [List.all_eq_true]
 constructor
 ·rintro ⟨h1,h2⟩
  refine ⟨by unfold inS;omega,fun x hx _ he => ?_⟩
  have:=h2 x hx
  rw [he] at this
  simp only [decide_true,Bool.not_true,Bool.false_or] at this
  unfold X6O at this
  simp only [Bool.and_eq_true,decide_eq_true_eq] at this
  exact ⟨this.1,this.2.1,this.2.2⟩
 ·rintro ⟨h1,h2⟩
  unfold inS at h1
  refine ⟨by omega,fun x hx => ?_⟩
  by_cases c:x.Hz1.toNat=i
  ·obtain ⟨h3,h4⟩:=h2 x hx (X8h _ _) c
   unfold inS at h4
   unfold X6O
   simp [c,h3,h4.1,h4.2]
  ·simp [c]
end Nore
open Go Go.Ab
namespace Nore
theorem X8t {f:ZI} (hg:XZ f):X5M f=some (X45 f):=by
 rw [X6I];unfold X2M
 have hh:=hg.half
 have hs:=hg.step
 have hw0:(X8 f:Int)=2*f.Half+1:=by unfold X8;omega
 have hw2:IntKind.wrap .i64 (0-f.Half) = -f.Half:=by rw [w64]<;>omega
 have inner:∀ (x:Int),-8≤x∧x≤8→∀ acc:List Zu,acc.length≤1000000→X2E x f (-f.Half,acc)=some (acc++Xo f x (-f.Half) (X8 f)):=fun x hx acc ha=>by
  obtain ⟨w,h1,h2⟩:=X2i (X1h x f) (X8 f) (fun k (b:List Zu)=>(-f.Half+(k:Int),b)) (fun k b=>b.length≤1000000+k∧b++Xo f x (-f.Half+k) (X8 f-k)=acc++Xo f x (-f.Half) (X8 f)) (fun w=>w=acc++Xo f x (-f.Half) (X8 f))
   (fun b hb=>⟨b,by
    have e1:decide (-f.Half+(X8 f:Int)≤f.Half)=false:=by simp;omega
    simp only [X1h,X1v,e1,cond_false],by
    have:=hb.2
    rw [Nat.sub_self] at this
    simpa [Xo] using this⟩)
   (fun k b hk hb=>by
    right
    obtain ⟨hb1,hb2⟩:=hb
    have e1:decide (-f.Half+(k:Int)≤f.Half)=true:=by simp;omega
    have hw:IntKind.wrap .i64 (-f.Half+(k:Int)+1) = -f.Half+((k+1:Nat):Int):=by rw [w64]<;>omega
    have m1:=X5m (a:=x) (b:=f.Step) 8 500 (by omega) (by omega) (by omega) (by omega)
    have m2:=X5m (a := -f.Half+(k:Int)) (b:=f.Step) 8 500 (by omega) (by omega) (by omega) (by omega)
    have ble:∀ y:Zu,Nat.ble ((b.length+[y].length)*(16+1)) 200000000000000=true:=fun y=>by
     apply Nat.ble_eq_true_of_le;simp only [List.length_cons,List.length_nil];omega
    have hrow:Xo f x (-f.Half+(k:Int)) (X8 f-k)=⟨x*f.Step,(-f.Half+(k:Int))*f.Step⟩::Xo f x (-f.Half+((k+1:Nat):Int)) (X8 f-(k+1)):=by
     rw [show X8 f-k=(X8 f-(k+1))+1 by omega,Xo,show -f.Half+(k:Int)+1 = -f.Half+((k+1:Nat):Int) by push_cast;omega]
    rw [hrow] at hb2
    refine ⟨b++[⟨x*f.Step,(-f.Half+(k:Int))*f.Step⟩],?_,by simp;omega,by rw [←hb2];simp⟩
    simp only [X1h,X1v,e1,hw,cond_true]
    rw [w64 (x:=x*f.Step) (by omega) (by omega),w64 (x:=(-f.Half+(k:Int))*f.Step) (by omega) (by omega),ble,cond_true]) 0 acc (by omega) ⟨by omega,by simp⟩
  have h1':X2E x f (-f.Half,acc)=some w:=by
   have : -f.Half+((0:Nat):Int) = -f.Half:=by omega
   rw [this] at h1;exact h1
  rw [h1',h2]
 obtain ⟨w,h1,h2⟩:=X2i (X1g f) (X8 f) (fun k (b:List Zu)=>(-f.Half+(k:Int),b)) (fun k b=>b.length≤k*100∧b++W0 f (-f.Half+k) (X8 f-k)=X45 f) (fun w=>w=X45 f)
  (fun b hb=>⟨b,by
   have e1:decide (-f.Half+(X8 f:Int)≤f.Half)=false:=by simp;omega
   simp only [X1g,X1u,e1,cond_false],by
   have:=hb.2
   rw [Nat.sub_self] at this
   simpa [W0] using this⟩)
  (fun k b hk hb=>by
   right
   obtain ⟨hb1,hb2⟩:=hb
   have e1:decide (-f.Half+(k:Int)≤f.Half)=true:=by simp;omega
   have hw:IntKind.wrap .i64 (-f.Half+(k:Int)+1) = -f.Half+((k+1:Nat):Int):=by rw [w64]<;>omega
   have hgr:W0 f (-f.Half+(k:Int)) (X8 f-k)=Xo f (-f.Half+(k:Int)) (-f.Half) (X8 f)++W0 f (-f.Half+((k+1:Nat):Int)) (X8 f-(k+1)):=by
    rw [show X8 f-k=(X8 f-(k+1))+1 by omega,W0,show -f.Half+(k:Int)+1 = -f.Half+((k+1:Nat):Int) by push_cast;omega]
   rw [hgr] at hb2
   refine ⟨b++Xo f (-f.Half+(k:Int)) (-f.Half) (X8 f),?_,by rw [List.length_append,X6t];omega,by rw [←hb2];simp⟩
   simp only [X1g,X1u,e1,hw,hw2,cond_true]
   rw [inner _ (by omega) b (by omega)]
   rfl) 0 [] (by omega) ⟨by simp,by simp [X45]⟩
 have h1':X3Y f (-f.Half,[])=some w:=by
  have : -f.Half+((0:Nat):Int) = -f.Half:=by omega
  rw [this] at h1;exact h1
 rw [hw2,h1',h2];rfl
def X6u (f:ZI) (l:List Zl) (p:Zu) (marks insts:List Bool):Bool:=(List.range f.Hz0.length).all fun i=>insts.getD i false || !(X6m f (l.filter (X33 f marks)) p i).isEmpty
theorem X80 {f:ZI} (hg:XZ f) {l:List Zl} (hl:∀ x∈l,XK f x=0) (hll:l.length≤1000) {p:Zu} (hp:Bd 30000 p) (marks insts:List Bool) (hm:marks.length=f.Hz9.Hz8.length) (hin:insts.length=f.Hz0.length):X4F f l p marks insts=some (X6u f l p marks insts):=by
 rw [X64];unfold X2h
 have hI:=hg.inst
 obtain ⟨w,h1,h2⟩:=X2i (Wg marks l insts p f) f.Hz0.length (fun i (_:Unit)=>(i:Int)) (fun i _=>(((List.range f.Hz0.length).drop i).all fun i=>insts.getD i false || !(X6m f (l.filter (X33 f marks)) p i).isEmpty)=X6u f l p marks insts)
  (fun w=>(w = .inr ()∧X6u f l p marks insts=true)∨(w = .inl false∧X6u f l p marks insts=false))
  (fun _ hb=>⟨.inr (),by simp [Wg,Wq],.inl ⟨rfl,by
   rw [List.drop_of_length_le (by simp)] at hb
   simpa using hb.symm⟩⟩)
  (fun i _ hi hb=>by
   have hw:=wS i (by omega)
   have e1:decide ((i:Int)<↑f.Hz0.length)=true:=by simp [hi]
   have e2:=z0S i
   have e3:decide ((i:Int)<↑insts.length)=true:=by simp;omega
   have hdr:(List.range f.Hz0.length).drop i=i::(List.range f.Hz0.length).drop (i+1):=by
    rw [List.drop_eq_getElem_cons (by simpa using hi)];simp
   rw [hdr,List.all_cons] at hb
   simp only [Wg,Wq,kS,hw,e1,e2,e3,Bool.and_self,cond_true]
   cases hgo:insts.getD i false
   ·simp only [Bool.not_false,cond_true]
    rw [X8N hg hl hll hp i hi marks hm]
    simp only [jS]
    rw [hgo] at hb
    cases hn:X6m f (l.filter (X33 f marks)) p i with
    | nil =>
     left
     rw [hn] at hb
     exact ⟨.inl false,by simp,.inr ⟨rfl,by simpa using hb.symm⟩⟩
    | cons a r =>
     right
     rw [hn] at hb
     have e0:(((a::r).length:Int)==0)=false:=by apply X5q;simp only [List.length_cons];omega
     exact ⟨(),by simp only [e0,cond_false],by simpa using hb⟩
   ·right
    rw [hgo] at hb
    exact ⟨(),by simp,by simpa using hb⟩) 0 () (by omega) rfl
 have h1':X3a marks l insts p f 0=some w:=h1
 rw [h1']
 rcases h2 with ⟨h3,h4⟩|⟨h3,h4⟩
 ·subst h3;rw [h4];rfl
 ·subst h3;rw [h4];rfl
theorem X9H (n:Nat) (hn:n≤100):((n:Int)==(n:Int)&&decide (0≤(n:Int))&&Nat.ble (n*(1+1)) 200000000000000&&Nat.blt 0 1)=true:=by
 have b:Nat.ble (n*(1+1)) 200000000000000=true:=by apply Nat.ble_eq_true_of_le;omega
 rw [b]
 simp
end Nore
open Go Go.Ab
namespace Nore
theorem X9J {f:ZI} (hg:XZ f) {l:List Zl} (hl:∀ x∈l,XK f x=0) (hll:l.length≤8) (t:Nat) (ht:t≤1000):X5O f l (t:Int)=some (X1Y f l t):=by
 have hM:=hg.marks
 have hI:=hg.inst
 rw [X6M];unfold X2S
 obtain ⟨w,h1,h2⟩:=X2i (X1i (↑f.Hz9.Hz8.length) l (t:Int) f) l.length (fun i (_:Unit)=>(i:Int)) (fun i _=>X1Y f (l.drop i) t=X1Y f l t)
  (fun w=>(w = .inr ()∧X1Y f l t=false)∨(w = .inl true∧X1Y f l t=true))
  (fun _ hb=>⟨.inr (),by simp [X1i,X1w],.inl ⟨rfl,by rw [←hb,List.drop_length];rfl⟩⟩)
  (fun i _ hi hb=>by
   have hw:=wS i (by omega)
   have e1:decide ((i:Int)<↑l.length)=true:=by simp [hi]
   have e2:=z0S i
   have hx:=hl _ (List.getElem_mem hi)
   obtain ⟨x,hxd⟩:∃ x,l[i]=x:=⟨_,rfl⟩
   rw [hxd] at hx
   have hgd:l.getD i ⟨0,0,0,0⟩=x:=(X1 _ _ _ hi).trans hxd
   obtain ⟨n1,n2⟩:=X5v hx
   have i1:decide (0≤x.Hz1)=true:=by simp;omega
   have i2:decide (x.Hz1<(↑f.Hz0.length:Int))=true:=by simp;omega
   have hgi:f.Hz0.getD x.Hz1.toNat ⟨ByteArray.empty,false,⟨0,0⟩⟩=Xy f x.Hz1:=rfl
   have hw2:IntKind.wrap .i64 (x.Hz1+(f.Hz9.Hz8.length:Int))=((X0 f+x.Hz1.toNat:Nat):Int):=by unfold X0;rw [w64]<;>omega
   rw [List.drop_eq_getElem_cons hi,hxd] at hb
   have hu:X1Y f (x::l.drop (i+1)) t=((decide (X0 f+x.Hz1.toNat=t)||(!(Xy f x.Hz1).Lead&&decide (x.Mark.toNat=t)))||X1Y f (l.drop (i+1)) t):=by
    unfold X1Y;rw [List.any_cons]
   rw [hu] at hb
   simp only [X1i,X1w,e1,e2,hw,hw2,i1,i2,cond_true,Bool.and_self,kS,hgd,hgi]
   by_cases c1:X0 f+x.Hz1.toNat=t
   ·have d1:(((X0 f+x.Hz1.toNat:Nat):Int)==(t:Int))=true:=by simp;omega
    rw [d1]
    left
    refine ⟨_,rfl,.inr ⟨rfl,?_⟩⟩
    rw [←hb];simp [c1]
   ·have d1:(((X0 f+x.Hz1.toNat:Nat):Int)==(t:Int))=false:=X5q (by omega)
    rw [d1]
    simp only [cond_false]
    cases hL:(Xy f x.Hz1).Lead
    ·obtain ⟨m1,m2⟩:=X4V hx hL
     simp only [Bool.not_false,cond_true]
     by_cases c2:x.Mark.toNat=t
     ·have d2:(x.Mark==(t:Int))=true:=by simp;omega
      rw [d2]
      left
      refine ⟨_,rfl,.inr ⟨rfl,?_⟩⟩
      rw [←hb];simp [c2,hL]
     ·have d2:(x.Mark==(t:Int))=false:=X5q (by omega)
      rw [d2]
      right
      refine ⟨(),rfl,?_⟩
      rw [←hb];simp [c1,c2]
    ·right
     refine ⟨(),rfl,?_⟩
     rw [←hb];simp [c1,hL]) 0 () (by omega) rfl
 have h1':X40 (↑f.Hz9.Hz8.length) l (t:Int) f 0=some w:=h1
 rw [h1']
 rcases h2 with ⟨h3,h4⟩|⟨h3,h4⟩
 ·subst h3;rw [h4];rfl
 ·subst h3;rw [h4];rfl
def toI (s:List Nat):List Int:=s.map fun t:Nat=>(t:Int)
theorem X6C:∀ (l:List Nat) (n:Nat),(XR n l).length≤2 ^ l.length
 | l,0=>by cases l<;>simp [XR,Nat.one_le_two_pow]
 | [],n+1=>by simp [XR]
 | t::l,n+1=>by
  have h1:=X6C l n
  have h2:=X6C l (n+1)
  simp only [XR,List.length_append,List.length_map,List.length_cons,Nat.pow_succ]
  omega
theorem X8i {f:ZI} (hg:XZ f) (l:List Zl) (t:Nat):(X2j f l t).length≤12:=by
 have h1:=List.length_filter_le (fun k=>decide (t≤k)) (Xx f l)
 have h2:=List.length_filter_le (X1Y f l) (List.range (X0 f+f.Hz0.length))
 rw [List.length_range] at h2
 have:=hg.marks
 have:=hg.inst
 unfold X2j Xx at *;unfold X0 at *;omega
theorem X9m (ih:_) (t:Nat) (rest:List (List Nat)) (hr:rest.length≤10000) (hrl:∀ s∈rest,s.length≤1000) (acc:List (List Int)) (ha:acc.length≤100000) :
  X3v ih (rest.map toI) (t:Int) (0,acc)=some (acc++(rest.map (t :: ·)).map toI):=by
 obtain ⟨w,h1,h2⟩:=X2i (WJ ih (rest.map toI) (t:Int)) rest.length (fun i (b:List (List Int))=>((i:Int),b)) (fun i b=>b.length≤100000+i∧b++((rest.drop i).map (t :: ·)).map toI=acc++(rest.map (t :: ·)).map toI) (fun w=>w=acc++(rest.map (t :: ·)).map toI)
  (fun b hb=>⟨b,by simp [WJ,X17],by have:=hb.2;simpa using this⟩)
  (fun i b hi hb=>by
   right
   obtain ⟨hb1,hb2⟩:=hb
   have hi':i<(rest.map toI).length:=by simpa using hi
   have hw:=wS i (by omega)
   have e1:decide ((i:Int)<↑(rest.map toI).length)=true:=by simp [hi]
   have e2:=z0S i
   have hgd:(rest.map toI).getD i []=toI rest[i]:=by rw [X1 _ _ _ hi',List.getElem_map]
   have hl:=hrl _ (List.getElem_mem hi)
   have b1:Nat.ble (([(t:Int)].length+(toI rest[i]).length)*(8+1)) 200000000000000=true:=by
    apply Nat.ble_eq_true_of_le;unfold toI;rw [List.length_map];simp only [List.length_cons,List.length_nil];omega
   have b2:Nat.ble ((b.length+[[(t:Int)]++toI rest[i]].length)*(24+1)) 200000000000000=true:=by
    apply Nat.ble_eq_true_of_le;simp only [List.length_cons,List.length_nil];omega
   refine ⟨b++[[(t:Int)]++toI rest[i]],?_,by simp;omega,?_⟩
   ·simp only [WJ,X17,e1,e2,hw,cond_true,Bool.and_self,kS,hgd,b1,b2]
   ·rw [←hb2,List.drop_eq_getElem_cons hi]
    simp only [List.map_cons,List.append_assoc,List.cons_append,List.nil_append,toI]) 0 acc (by omega) ⟨by omega,by simp⟩
 exact h1.trans (by rw [h2])
theorem X9F {f:ZI} {l:List Zl} (hs:X6Z f l):∀ (n fuel t:Nat),n≤1000→t≤X0 f+f.Hz0.length →
  (Z8k WN fuel (f,l,(t:Int),(n:Int),())=none∧fuel≤n)∨Z8k WN fuel (f,l,(t:Int),(n:Int),())=some ((XR n (X2j f l t)).map toI):=by
 have hg:=hs.fix
 have hM:=hg.marks
 have hI:=hg.inst
 intro n
 induction n with
 | zero =>
  intro fuel t hn ht
  cases fuel with
  | zero=>exact .inl ⟨rfl,Nat.le_refl _⟩
  | succ fuel =>
   right
   simp only [Z8k,WN,X3j]
   rw [show (((0:Nat):Int)==0)=true from rfl,cond_true]
   simp [XR,toI]
 | succ n ih =>
  intro fuel t hn ht
  cases fuel with
  | zero=>exact .inl ⟨rfl,Nat.zero_le _⟩
  | succ fuel =>
   simp only [Z8k,WN,X3j]
   have en:(((n+1:Nat):Int)==0)=false:=X5q (by omega)
   rw [en,cond_false]
   have hn1:IntKind.wrap .i64 (((n+1:Nat):Int)-1)=(n:Int):=by rw [w64]<;>omega
   have hN:IntKind.wrap .i64 ((f.Hz9.Hz8.length:Int)+(f.Hz0.length:Int))=((X0 f+f.Hz0.length:Nat):Int):=by unfold X0;rw [w64]<;>omega
   have hMn:X0 f≤8:=hM
   refine (X4K (WI (Z8k WN fuel) ((n+1:Nat):Int) l f) (fun o478=>some o478) (X0 f+f.Hz0.length) (fun i (b:List (List Int))=>((i:Int),b)) (fun i b=>b.length≤i*5000) (fun i b r=>(r=none∧fuel+1≤n+1)∨r=some (b++(XR (n+1) (X2j f l i)).map toI)) ?_ ?_ t [] ht (by simp)) |> fun h=>by simpa [X3u] using h
   ·intro b hb R
    right
    have hu:X2j f l (X0 f+f.Hz0.length)=[]:=by
     unfold X2j
     rw [List.filter_eq_nil_iff]
     intro x hx
     have:=X7I hx
     simp;omega
    rw [hu]
    simp only [WI,X16,hN,Int.lt_irrefl,decide_false,cond_false,jS,Sum.elim_inr,XR,List.map_nil,List.append_nil]
   ·intro i b hi hb R hR
    have hw:=wS i (by omega)
    have e1:decide ((i:Int)<((X0 f+f.Hz0.length:Nat):Int))=true:=by simp;omega
    simp only [WI,X16,hN,e1,hw,hn1,cond_true]
    rw [X9J hg hs.each hs.len i (by omega)]
    simp only [jS]
    cases hut:X1Y f l i
    ·simp only [Bool.not_false,cond_true,jS,Sum.elim_inl]
     have hb5:b.length≤(i+1)*5000:=by rw [Nat.succ_mul];exact Nat.le_trans hb (Nat.le_add_right _ _)
     have:=hR b hb5
     rw [←X8j (fun h=>by rw [X6j hs.each,hut] at h;cases h)] at this
     exact this
    ·have hu:X2j f l i=i::X2j f l (i+1):=X8S (by rw [X6j hs.each];exact hut)
     simp only [Bool.not_true,cond_false]
     rcases ih fuel (i+1) (by omega) (by omega) with ⟨h1,h2⟩|h1
     ·rw [h1];exact .inl ⟨rfl,by omega⟩
     ·rw [h1]
      simp only [jS]
      have hlen:(XR n (X2j f l (i+1))).length≤4096:=by
       have h1:=X6C (X2j f l (i+1)) n
       have h2:=X8i hg l (i+1)
       have h3:2 ^ (X2j f l (i+1)).length≤2 ^ 12:=Nat.pow_le_pow_right (by omega) h2
       omega
      rw [X9m _ i _ (by omega) (fun s hs'=>by
       have:=((X4I _ n s).1 hs').2
       omega) b (by have:i*5000≤12*5000:=Nat.mul_le_mul_right _ (by omega);omega)]
      simp only [jS,Sum.elim_inl]
      have:=hR (b++((XR n (X2j f l (i+1))).map (i :: ·)).map toI) (by
       rw [List.length_append,List.length_map,List.length_map,Nat.succ_mul];omega)
      rw [hu]
      simp only [XR,List.map_append]
      rw [←List.append_assoc]
      exact this
theorem X9t {f:ZI} {l:List Zl} (hs:X6Z f l) (n:Nat) (hn:n≤1000):X5i f l 0 (n:Int)=some ((XR n (Xx f l)).map toI):=by
 have key:=fun fuel=>X9F hs n fuel 0 hn (by omega)
 rw [X6X] at key
 unfold X5i
 refine Zh6 (fun k r hr => ?_) ⟨n+1,(XR n (Xx f l)).map toI,?_⟩
 ·rcases key k with ⟨h,_⟩|h
  ·rw [show ((f,l,(0:Int),(n:Int),()):ZI×List Zl×Int×Int×Unit)=(f,l,((0:Nat):Int),(n:Int),()) from rfl,h] at hr;cases hr
  ·rw [show ((f,l,(0:Int),(n:Int),()):ZI×List Zl×Int×Int×Unit)=(f,l,((0:Nat):Int),(n:Int),()) from rfl,h] at hr
   exact (Option.some.inj hr).symm
 ·rcases key (n+1) with ⟨_,h⟩|h
  ·omega
  ·exact h
end Nore
