/- The plain functions of the program and of the document answer alike. -/
import Derived.Test.YtehofdemanfenaaGreatD
import Derived.Test.YtehofdemanfenaaGreatY
set_option linter.unusedSectionVars false
set_option linter.unusedVariables false
set_option linter.unusedSimpArgs false
namespace Nore.Geo
def vxL:List Int:=[0,195,383,556,707,831,924,981,1000,981,924,831,707,556,383,195,0,-195,-383,-556,-707,-831,-924,-981,-1000,-981,-924,-831,-707,-556,-383,-195]
def vyL:List Int:=[1000,981,924,831,707,556,383,195,0,-195,-383,-556,-707,-831,-924,-981,-1000,-981,-924,-831,-707,-556,-383,-195,0,195,383,556,707,831,924,981]
def vx (p:Nat):Int:=vxL.getD p 0
def vy (p:Nat):Int:=vyL.getD p 0
def crs (p:Nat) (X Y:Int):Int:=vx p*Y-vy p*X
def cc (p q:Nat):Int:=vx p*vy q-vy p*vx q
theorem plucker (t u p:Nat) (X Y:Int):cc u t*crs p X Y=cc p t*crs u X Y+(- crs t X Y)*cc p u:=by
 unfold cc crs
 generalize vx t=a,vy t=b,vx u=c,vy u=d,vx p=e,vy p=f
 grind
def Tow (t:Nat) (X Y:Int):Prop:=crs t X Y≤0∧crs ((t+1) % 32) X Y>0
theorem tab0:∀ t,t<32→cc ((t+1) % 32) t>0:=by decide
theorem tab1:∀ t,t<32→∀ j,j<15→cc ((t+(j+1)) % 32) t>0∧cc ((t+(j+1)) % 32) ((t+1) % 32)≥0:=by decide
theorem tab2:∀ t,t<32→∀ j,j<16→cc ((t+(j+17)) % 32) t≤0∧cc ((t+(j+17)) % 32) ((t+1) % 32)≤0:=by decide
theorem tow_pos {t:Nat} {X Y:Int} (ht:t<32) (h:Tow t X Y) (j:Nat) (h1:1≤j) (h2:j≤15):crs ((t+j) % 32) X Y>0:=by
 obtain ⟨ha,hb⟩:=h
 have k0:=tab0 t ht
 have k1:=tab1 t ht (j-1) (by omega)
 rw [show j-1+1=j by omega] at k1
 have e:=plucker t ((t+1) % 32) ((t+j) % 32) X Y
 generalize crs ((t+j) % 32) X Y=z at *
 generalize crs ((t+1) % 32) X Y=y at *
 generalize crs t X Y=x at *
 obtain ⟨k1,k2⟩:=k1
 generalize cc ((t+1) % 32) t=K at *
 generalize cc ((t+j) % 32) t=A at *
 generalize cc ((t+j) % 32) ((t+1) % 32)=B at *
 have p1:A*y>0:=Int.mul_pos k1 hb
 have p2:(-x)*B≥0:=Int.mul_nonneg (by omega) k2
 have p3:K*z>0:=by omega
 exact Int.pos_of_mul_pos_right p3 k0 |> fun h=>h
theorem tow_neg {t:Nat} {X Y:Int} (ht:t<32) (h:Tow t X Y) (j:Nat) (h1:17≤j) (h2:j≤32):crs ((t+j) % 32) X Y≤0:=by
 obtain ⟨ha,hb⟩:=h
 have k0:=tab0 t ht
 have k1:=tab2 t ht (j-17) (by omega)
 rw [show j-17+17=j by omega] at k1
 have e:=plucker t ((t+1) % 32) ((t+j) % 32) X Y
 generalize crs ((t+j) % 32) X Y=z at *
 generalize crs ((t+1) % 32) X Y=y at *
 generalize crs t X Y=x at *
 obtain ⟨k1,k2⟩:=k1
 generalize cc ((t+1) % 32) t=K at *
 generalize cc ((t+j) % 32) t=A at *
 generalize cc ((t+j) % 32) ((t+1) % 32)=B at *
 have p1:A*y≤0:=Int.mul_nonpos_of_nonpos_of_nonneg k1 (by omega)
 have p2:(-x)*B≤0:=Int.mul_nonpos_of_nonneg_of_nonpos (by omega) k2
 have p3:K*z≤0:=by omega
 apply Int.not_lt.1
 intro hz
 have:=Int.mul_pos k0 hz
 omega
theorem tow_sign {t:Nat} {X Y:Int} (ht:t<32) (h:Tow t X Y) (p:Nat) (hp:p<32) (hne:p≠(t+16) % 32):(crs p X Y>0)↔(1≤(p+32-t) % 32∧(p+32-t) % 32≤15):=by
 have hj:(t+(p+32-t) % 32) % 32=p:=by omega
 constructor
 ·intro hs
  by_cases h1:1≤(p+32-t) % 32∧(p+32-t) % 32≤15
  ·exact h1
  ·exfalso
   by_cases h0:(p+32-t) % 32=0
   ·have:p=t:=by omega
    subst this
    have:=h.1
    omega
   ·have:=tow_neg ht h ((p+32-t) % 32) (by omega) (by omega)
    rw [hj] at this
    omega
 ·intro h1
  have:=tow_pos ht h _ h1.1 h1.2
  rw [hj] at this
  exact this
theorem tow_unique {t u:Nat} {X Y:Int} (ht:t<32) (hu:u<32) (h:Tow t X Y) (h':Tow u X Y):u=t:=by
 have a:=tow_sign ht h u hu
 have b:=tow_sign ht h ((u+1) % 32) (by omega)
 have a':=h'.1
 have b':=h'.2
 by_cases e:u=(t+16) % 32
 ·have e2:(u+1) % 32≠(t+16) % 32:=by omega
  have:=(b e2).1 b'
  omega
 ·by_cases e2:(u+1) % 32=(t+16) % 32
  ·have e3:(u+32-t) % 32=15:=by omega
   have:=(a e).2 (by omega)
   omega
  ·have:=(b e2).1 b'
   have e3:¬ (1≤(u+32-t) % 32∧(u+32-t) % 32≤15):=fun hh=>by have:=(a e).2 hh;omega
   omega
theorem opp:∀ p,p<16→vx (p+16) = - vx p∧vy (p+16) = - vy p:=by decide
theorem tow_exists {X Y:Int} (h:X≠0∨Y≠0):∃ t,t<32∧Tow t X Y:=by
 by_cases hx:∃ t,t<32∧Tow t X Y
 ·exact hx
 ·exfalso
  have hn:∀ t,t<32→crs t X Y≤0→crs ((t+1) % 32) X Y≤0:=fun t ht h1=>by
   apply Int.not_lt.1
   intro h2
   exact hx ⟨t,ht,h1,h2⟩
  have all:∀ t,t<32→crs t X Y≤0→∀ j,crs ((t+j) % 32) X Y≤0:=fun t ht h1 j=>by
   induction j with
   | zero=>rw [show (t+0) % 32=t by omega];exact h1
   | succ j ih =>
    have:=hn ((t+j) % 32) (by omega) ih
    rw [show ((t+j) % 32+1) % 32=(t+(j+1)) % 32 by omega] at this
    exact this
  have o:=opp
  have c0:crs 0 X Y = - (1000*X):=by unfold crs;simp only [show vx 0=0 from rfl,show vy 0=1000 from rfl];omega
  have c8:crs 8 X Y=1000*Y:=by unfold crs;simp only [show vx 8=1000 from rfl,show vy 8=0 from rfl];omega
  have c16:crs 16 X Y=1000*X:=by unfold crs;simp only [show vx 16=0 from rfl,show vy 16 = -1000 from rfl];omega
  have c24:crs 24 X Y = - (1000*Y):=by unfold crs;simp only [show vx 24 = -1000 from rfl,show vy 24=0 from rfl];omega
  have z:∃ t,t<32∧crs t X Y≤0:=by
   by_cases h0:crs 0 X Y≤0
   ·exact ⟨0,by omega,h0⟩
   ·exact ⟨16,by omega,by omega⟩
  obtain ⟨t,ht,h1⟩:=z
  have r:∀ p,p<32→crs p X Y≤0:=fun p hp=>by
   have:=all t ht h1 (p+32-t)
   rw [show (t+(p+32-t)) % 32=p by omega] at this
   exact this
  have r0:=r 0 (by omega)
  have r8:=r 8 (by omega)
  have r16:=r 16 (by omega)
  have r24:=r 24 (by omega)
  omega
def isTow (X Y:Int) (t:Nat):Bool:=decide (crs t X Y≤0)&&decide (crs ((t+1) % 32) X Y>0)
def tow (X Y:Int):Nat:=((List.range 32).find? (isTow X Y)).getD 0
theorem isTow_iff {X Y:Int} {t:Nat}:isTow X Y t=true↔Tow t X Y:=by simp [isTow,Tow]
theorem tow_spec {X Y:Int} (h:X≠0∨Y≠0):tow X Y<32∧Tow (tow X Y) X Y:=by
 obtain ⟨t,ht,hT⟩:=tow_exists h
 unfold tow
 cases hf:(List.range 32).find? (isTow X Y) with
 | none =>
  rw [List.find?_eq_none] at hf
  exact absurd (isTow_iff.2 hT) (hf t (by simp [ht]))
 | some u =>
  have h1:=List.find?_some hf
  have h2:=List.mem_of_find?_eq_some hf
  simp only [Option.getD_some]
  exact ⟨by simpa using h2,isTow_iff.1 h1⟩
theorem tow_eq {X Y:Int} {t:Nat} (ht:t<32) (hT:Tow t X Y):tow X Y=t:=by
 have h:X≠0∨Y≠0:=by
  apply Classical.byContradiction
  intro hc
  have:X=0∧Y=0:=by omega
  obtain ⟨rfl,rfl⟩:=this
  have:=hT.2
  simp [crs] at this
 have:=tow_spec h
 exact tow_unique ht this.1 hT this.2
end Nore.Geo
open Go Go.Ab
namespace Nore
theorem w64 {x:Int} (h1 : -9223372036854775808≤x) (h2:x≤9223372036854775807):IntKind.wrap .i64 x=x:=by
 simp only [IntKind.wrap,IntKind.signed,IntKind.bits]
 simp
 omega
theorem wS (i:Nat) (h:i<9223372036854775807):IntKind.wrap .i64 ((i:Int)+1)=((i+1:Nat):Int):=by rw [w64]<;>omega
theorem z0S (i:Nat):decide ((0:Int)≤↑i)=true:=by simp
theorem X45 {σ ω γ:Type} (st:σ→Option (σ⊕ω)) (k:ω→Option γ) (s:σ):Option.bind (Z8S st s) k=Option.bind (st s) (Sum.elim (fun s'=>Option.bind (Z8S st s') k) k):=by
 rw [ZgX]
 cases st s with
 | none=>rfl
 | some r=>cases r<;>rfl
theorem X6 {β σ ω γ:Type} (st:σ→Option (σ⊕ω)) (k:ω→Option γ) (n:Nat) (emb:Nat→β→σ) (P:Nat→β→Prop) (nice:Nat→β→Option γ)
  (hd:∀ b,P n b→∀ R:σ→Option γ,Option.bind (st (emb n b)) (Sum.elim R k)=nice n b)
  (hn:∀ i b,i<n→P i b→∀ R:σ→Option γ,(∀ b',P (i+1) b'→R (emb (i+1) b')=nice (i+1) b')→Option.bind (st (emb i b)) (Sum.elim R k)=nice i b) :
  ∀ i b,i≤n→P i b→Option.bind (Z8S st (emb i b)) k=nice i b:=by
 intro i b hi hP
 induction hj:n-i generalizing i b with
 | zero =>
  have:i=n:=by omega
  subst this
  rw [X45];exact hd b hP _
 | succ j ih =>
  rw [X45]
  exact hn i b (by omega) hP _ fun b' hb'=>ih (i+1) b' (by omega) hb' (by omega)
theorem X2x {γ:Type} (o:Option γ):Option.bind o (fun x=>some x)=o:=by cases o<;>rfl
theorem X6Q {β σ ω:Type} (st:σ→Option (σ⊕ω)) (n:Nat) (emb:Nat→β→σ) (P:Nat→β→Prop) (nice:Nat→β→Option ω)
  (hd:∀ b,P n b→∀ R:σ→Option ω,Option.bind (st (emb n b)) (Sum.elim R some)=nice n b)
  (hn:∀ i b,i<n→P i b→∀ R:σ→Option ω,(∀ b',P (i+1) b'→R (emb (i+1) b')=nice (i+1) b')→Option.bind (st (emb i b)) (Sum.elim R some)=nice i b)
  (i:Nat) (b:β) (hi:i≤n) (hP:P i b):Z8S st (emb i b)=nice i b:=by
 rw [←X2x (Z8S st (emb i b))]
 exact X6 st some n emb P nice hd hn i b hi hP
theorem X4p {a b:Int} (h:¬ a=b):(a==b)=false:=beq_eq_false_iff_ne.2 h
theorem X1n {a b:Int} (h:¬ a=b):(a != b)=true:=bne_iff_ne.2 h
theorem X0 {α:Type} (l:List α) (i:Nat) (d:α) (h:i<l.length):l.getD i d=l[i]:=by simp [List.getD,h]
def X3 (lo hi:Int) (l:List Int):Bool:=l.any fun n=>decide (n<lo)||decide (n>hi)
@[simp] theorem X6F (lo hi:Int):X3 lo hi []=false:=rfl
@[simp] theorem X4o (lo hi n:Int) (l:List Int):X3 lo hi (n::l)=(decide (n<lo)||decide (n>hi)||X3 lo hi l):=rfl
def inN (n lo hi:Int):Bool:=decide (lo≤n)&&decide (n≤hi)
theorem X12 (lo up:Int) (l:List Int) (hl:l.length<1000000):X1r lo up l=some (X3 lo up l):=by
 have key:=X6 (X1s (↑l.length) l up lo) (fun o3=>Sum.elim (fun y4:Int=>some (decide (y4≥0))) (fun _=>some (decide ((-1:Int)≥0))) o3) l.length (fun i (_:Unit)=>(i:Int)) (fun _ _=>True) (fun i _=>some (X3 lo up (l.drop i)))
  (by
   intro b _ R
   simp [X1s,X1y])
  (by
   intro i b hi _ R hR
   have hR':=hR () trivial
   simp only [X1s,X1y]
   rw [List.drop_eq_getElem_cons hi]
   simp only [Int.toNat_natCast,X0 _ _ _ hi,X4o]
   have hw:=wS i (by omega)
   rw [hw]
   have h1:decide ((i:Int)<↑l.length)=true:=by simp [hi]
   have h2:=z0S i
   simp only [h1,h2,Bool.and_self,cond_true]
   by_cases h3:l[i]<lo
   ·simp [h3]
   ·by_cases h4:l[i]>up
    ·simp [h3,h4]
    ·simp [h3,h4];exact hR')
 exact (key 0 () (by omega) trivial).trans (by simp)
theorem X1E (n lo hi:Int):X1Z n lo hi=some (inN n lo hi):=by
 unfold X1Z inN
 by_cases h:lo≤n<;>simp [h]
end Nore
open Go Go.Ab
namespace Nore
def X61:Int→List UInt8→Option Int
 | last,[]=>some last
 | last,c::l=>if 97≤(c.toNat:Int)∧(c.toNat:Int)≤122 then X61 c.toNat l else if (c.toNat:Int)≠45∨last=45 then none else X61 c.toNat l
def X4T:Option Int→Bool
 | none=>false
 | some last=>last != 45
def X62 (s:ByteArray):Bool:=decide (s.size≤14)&&X4T (X61 45 s.toList)
theorem X8H (s:ByteArray) (i:Nat) (h:(s.get! i).toNat<128):Utf8.decode s i=((s.get! i).toNat,1):=by
 unfold Utf8.decode;simp only [Nat.add_zero];rw [if_pos h]
theorem X8G (s:ByteArray) (i:Nat) (h:¬ (s.get! i).toNat<128):128≤(Utf8.decode s i).1:=by
 unfold Utf8.decode
 simp only [Nat.add_zero,Utf8.runeError]
 rw [if_neg h]
 repeat' split
 all_goals simp_all
 all_goals omega
theorem X25 (s:ByteArray):s.toList.length=s.size:=by rw [ByteArray.toList_eq];rfl
theorem X8n (s:ByteArray) (i:Nat) (h:i<s.toList.length):s.get! i=s.toList[i]:=by
 have hs:i<s.size:=by rw [←X25];exact h
 simp only [ByteArray.toList_eq]
 show s.data[i]! = _
 have h2:i<s.data.size:=hs
 rw [getElem!_pos s.data i h2]
 rfl
theorem X50 (s:ByteArray):X39 s=some (X62 s):=by
 have key:=X6 (X14 s s) (fun o0=>Sum.elim (fun y1:Bool×Nat=>some y1.fst) (fun y2:Int×Nat=>bif decide ((↑(ByteArray.size s):Int)≤14) then some (y2.fst != 45) else some false) o0) s.toList.length (fun i (b:Int)=>(b,i)) (fun _ _=>True) (fun i b=>some (decide (s.size≤14)&&X4T (X61 b (s.toList.drop i))))
  (by
   intro b _ R
   have hh:(decide ((↑s.size:Int)≤14))=decide (s.size≤14):=by rw [decide_eq_decide];omega
   have hd:s.toList.drop s.size=[]:=List.drop_eq_nil_of_le (by rw [X25];exact Nat.le_refl _)
   simp only [hd,X61,X4T,X14,X18,X25,hh,Nat.lt_irrefl,decide_false,cond_false,Option.bind_some,Sum.elim_inr]
   cases decide (s.size≤14)<;>simp)
  (by
   intro i b hi _ R hR
   have hs:i<s.size:=by rw [←X25];exact hi
   have hg:=X8n s i hi
   simp only [X14,X18]
   rw [List.drop_eq_getElem_cons hi]
   simp only [X61]
   by_cases h:(s.get! i).toNat<128
   ·rw [X8H s i h]
    have hR':=hR ((s.get! i).toNat:Int) trivial
    rw [hg] at *
    generalize s.toList[i]=c at *
    simp only [hs,decide_true,cond_true]
    by_cases h1:97≤(c.toNat:Int)
    ·have q1:decide ((c.toNat:Int)≥97)=true:=decide_eq_true h1
     by_cases h2:(c.toNat:Int)≤122
     ·have q2:decide ((c.toNat:Int)≤122)=true:=decide_eq_true h2
      simp only [decide_true,decide_false,q1,q2,cond_true,Option.bind_some,Sum.elim_inl,h1,h2,and_self,if_true]
      exact hR'
     ·have q2:decide ((c.toNat:Int)≤122)=false:=decide_eq_false h2
      have h3:¬ ((c.toNat:Int)=45):=by omega
      have q3:((c.toNat:Int) != 45)=true:=bne_iff_ne.2 h3
      simp only [decide_true,decide_false,q1,q2,q3,cond_true,cond_false,Option.bind_some,Sum.elim_inl,Sum.elim_inr,h2,and_false,if_false,ne_eq,h3,not_false_iff,true_or,if_true,X4T,Bool.and_false]
    ·have q1:decide ((c.toNat:Int)≥97)=false:=decide_eq_false h1
     by_cases h3:(c.toNat:Int)=45
     ·have q3:((c.toNat:Int) != 45)=false:=by rw [h3];rfl
      by_cases h4:b=45
      ·have q4:(b==45)=true:=by rw [h4];rfl
       rw [q1,q3,q4,if_neg (fun hc=>h1 hc.1),if_pos (Or.inr h4)]
       simp [X4T]
      ·have q4:(b==45)=false:=beq_eq_false_iff_ne.2 h4
       simp only [decide_true,decide_false,q1,q3,q4,cond_true,cond_false,Option.bind_some,Sum.elim_inl,Sum.elim_inr,h1,false_and,if_false,h4,ne_eq,h3,not_true,or_self,if_true]
       rw [h3] at hR'
       exact hR'
     ·have q3:((c.toNat:Int) != 45)=true:=bne_iff_ne.2 h3
      simp only [decide_true,decide_false,q1,q3,cond_true,cond_false,Option.bind_some,Sum.elim_inl,Sum.elim_inr,h1,false_and,if_false,ne_eq,h3,not_false_iff,true_or,if_true,X4T,Bool.and_false]
   ·have h':=X8G s i h
    rw [hg] at h
    generalize s.toList[i]=c at *
    simp only [hs,decide_true,cond_true]
    generalize (Utf8.decode s i)=d at *
    have e1:((d.1:Nat):Int)≥97:=by omega
    have e2:¬ ((d.1:Nat):Int)≤122:=by omega
    have e3:¬ ((d.1:Nat):Int)=45:=by omega
    have e4:¬ ((c.toNat:Int)≤122):=by omega
    have e5:¬ ((c.toNat:Int)=45):=by omega
    have q1:decide (((d.1:Nat):Int)≥97)=true:=decide_eq_true e1
    have q2:decide (((d.1:Nat):Int)≤122)=false:=decide_eq_false e2
    have q3:(((d.1:Nat):Int) != 45)=true:=bne_iff_ne.2 e3
    simp only [decide_true,decide_false,q1,q2,q3,cond_true,cond_false,Option.bind_some,Sum.elim_inl,Sum.elim_inr,e4,and_false,if_false,ne_eq,e5,not_false_iff,true_or,if_true,X4T,Bool.and_false])
 exact (key 0 45 (by omega) trivial).trans (by simp [X62])
theorem X7F (s:ByteArray):X4I s=some (X62 s):=by
 unfold X4I
 rw [X1E]
 simp only [Option.bind_some]
 by_cases hsz:1≤s.size∧s.size≤14
 ·have e1:inN (↑s.size) 1 14=true:=by simp [inN];omega
  rw [e1]
  simp only [Bool.not_true,cond_false]
  have hl:=X25 s
  have key:=X6 (X15 s) (fun o0=>Sum.elim (fun y76:Bool=>some y76) (fun _:Unit=>some true) o0) s.toList.length (fun i (_:Int)=>(i:Int)) (fun i b=>b=if i=0 then 45 else ((s.toList.getD (i-1) 0).toNat:Int)) (fun i b=>some (if i<s.toList.length then X4T (X61 b (s.toList.drop i)) else true))
   (by
    intro b _ R
    simp [X15,X1f,X25])
   (by
    intro i b hi hP R hR
    have hs:i<s.size:=by rw [←X25];exact hi
    simp only [X15,X1f]
    rw [List.drop_eq_getElem_cons hi]
    have hR':=hR ((s.toList[i]).toNat:Int) (by simp [List.getD,hi])
    have hw:=wS i (by omega)
    have hw1:IntKind.wrap .i64 ((i:Int)-1)=((i:Int)-1):=by rw [w64]<;>omega
    have hw2:IntKind.wrap .i64 ((s.size:Int)-1)=((s.size:Int)-1):=by rw [w64]<;>omega
    simp only [X61,Int.toNat_natCast,X0 _ _ _ hi,hw,hw1,hw2]
    have d1:decide ((i:Int)<↑s.size)=true:=by simp [hs]
    have d2:=z0S i
    simp only [d1,d2,Bool.and_self,cond_true,hi,if_true]
    generalize hc:s.toList[i]=c at *
    by_cases h1:97≤(c.toNat:Int)∧(c.toNat:Int)≤122
    ·have q1:decide ((c.toNat:Int)≥97)=true:=decide_eq_true h1.1
     have q2:decide ((c.toNat:Int)≤122)=true:=decide_eq_true h1.2
     simp only [decide_true,decide_false,q1,q2,cond_true,Option.bind_some,Sum.elim_inl,h1,and_self,if_true]
     have hne:¬ ((c.toNat:Int)=45):=by omega
     rw [hR']
     by_cases hi2:i+1<s.toList.length
     ·simp [hi2]
     ·have:s.toList.drop (i+1)=[]:=List.drop_eq_nil_of_le (by omega)
      simp [hi2,this,X61,X4T,hne]
    ·have g:(bif decide ((c.toNat:Int)≥97) then bif decide ((c.toNat:Int)≤122) then true else false else false)=false:=by
      by_cases a1:(c.toNat:Int)≥97
      ·by_cases a2:(c.toNat:Int)≤122
       ·exact absurd ⟨a1,a2⟩ h1
       ·simp [a1,a2]
      ·simp [a1]
     have g2:∀ (Z:Type) (x y:Z),(bif decide ((c.toNat:Int)≥97) then bif decide ((c.toNat:Int)≤122) then x else y else y)=y:=by
      intro Z x y
      by_cases a1:(c.toNat:Int)≥97
      ·by_cases a2:(c.toNat:Int)≤122
       ·exact absurd ⟨a1,a2⟩ h1
       ·simp [a1,a2]
      ·simp [a1]
     rw [g2,if_neg h1]
     by_cases h2:(c.toNat:Int)=45
     ·simp only [h2,bne_self_eq_false,cond_false]
      by_cases h3:i=0
      ·subst h3
       simp [hP,X4T]
      ·by_cases h4:i+1=s.size
       ·have:s.toList.drop (i+1)=[]:=List.drop_eq_nil_of_le (by omega)
        have e5:(i:Int)=(s.size:Int)-1:=by omega
        have e6:((s.size:Int)-1==0)=false:=by simp;omega
        simp only [e5,e6,this,X61]
        by_cases h5:b=45<;>simp [h5,X4T]
       ·have e5:((i:Int)==(s.size:Int)-1)=false:=by simp;omega
        have e6:((i:Int)==0)=false:=by simp;omega
        have e7:(0:Int)≤(i:Int)-1:=by omega
        have e8:(i:Int)-1<(s.size:Int):=by omega
        have e9:((i:Int)-1).toNat=i-1:=by omega
        simp only [e5,e6,e7,e8,e9,cond_false,decide_true,Bool.and_self,cond_true]
        simp only [h3,if_false] at hP
        rw [←hP]
        by_cases h5:b=45
        ·simp [h5,X4T]
        ·have q5:(b==45)=false:=beq_eq_false_iff_ne.2 h5
         rw [h2] at hR'
         rw [q5]
         simp only [cond_false,Option.bind_some,Sum.elim_inl,ne_eq,not_true,false_or,h5,if_false]
         rw [hR']
         simp [show i+1<s.toList.length by omega]
     ·have:((c.toNat:Int) != 45)=true:=by simp [h2]
      simp [this,h2,X4T])
  have:=key 0 45 (by omega) (by simp)
  refine this.trans ?_
  simp [X62,show 0<s.toList.length by omega,hsz.2]
 ·have e1:inN (↑s.size) 1 14=false:=by
   simp [inN];omega
  rw [e1]
  simp only [Bool.not_false,cond_true,X62]
  by_cases h:s.size≤14
  ·have h0:s.toList=[]:=by
    apply List.eq_nil_of_length_eq_zero;rw [X25];omega
   simp [h0,X61,X4T]
  ·simp [h]
end Nore
open Go Go.Ab
namespace Nore
def X3H (m:Int) (p:Zu):Bool:=X3 (-m) m [p.X,p.Y]
def X4U:Int→List Zk→Int
 | _,[]=>0
 | last,p::l=>if X3 0 40000 [p.Day]||X3 0 4 [p.Colour] then 7 else if p.Day≤last then 2 else X4U p.Day l
def X3B (l:List Zk):Int:=if X3 1 4 [(l.length:Int)] then 3 else X4U (-1) l
def X7O (b:ZB) (m w:Int):Int:=if X3 (-m) m [b.X.Lo,b.X.Hi,b.Y.Lo,b.Y.Hi] then 7 else if X3 0 w [b.X.Hi-b.X.Lo,b.Y.Hi-b.Y.Lo] then 2 else 0
theorem X1m (n lo hi:Int):inN n lo hi = !X3 lo hi [n]:=by
 simp only [inN,X4o,X6F,Bool.or_false,Bool.not_or]
 congr 1<;>rw [←decide_not,decide_eq_decide]<;>omega
theorem X5l (m:Int) (hm:0≤m∧m≤1000000) (l:List Zu) (hl:l.length<1000000):X4n m l=some (l.any (X3H m)):=by
 have hm1:IntKind.wrap .i64 (0-m) = -m:=by rw [w64]<;>omega
 have key:=X6 (X1q (↑l.length) l m) (fun o7=>Sum.elim (fun y8:Int×Zu×(List Int)=>some (decide (y8.fst≥0))) (fun _=>some (decide ((-1:Int)≥0))) o7) l.length (fun i (_:Unit)=>(i:Int)) (fun _ _=>True) (fun i _=>some ((l.drop i).any (X3H m)))
  (by
   intro b _ R
   simp [X1q,X1x])
  (by
   intro i b hi _ R hR
   have hR':=hR () trivial
   simp only [X1q,X1x]
   rw [List.drop_eq_getElem_cons hi]
   have hw:=wS i (by omega)
   simp only [Int.toNat_natCast,X0 _ _ _ hi,List.any_cons,hm1,hw]
   rw [X12 _ _ _ (by simp)]
   have h1:decide ((i:Int)<↑l.length)=true:=by simp [hi]
   have h2:=z0S i
   simp only [h1,h2,Bool.and_self,cond_true,Option.bind_some]
   change Option.bind (bif X3H m l[i] then _ else _) _=_
   cases h3:X3H m l[i]
   ·simp;exact hR'
   ·simp)
 exact (key 0 () (by omega) trivial).trans (by simp)
theorem X5F (p:Zu) (m:Int) (hm:0≤m∧m≤1000000):X2M p m=some (!X3H m p):=by
 have hm1:IntKind.wrap .i64 (0-m) = -m:=by rw [w64]<;>omega
 unfold X2M
 rw [X1E,X1E,hm1,X1m,X1m]
 simp only [Option.bind_some,X3H,X4o,X6F,Bool.or_false]
 cases (decide (p.X < -m)||decide (p.X>m))<;>simp
theorem X77 (l:List Zk):X3l l=some (X3B l):=by
 unfold X3l X3B
 rw [X12 _ _ _ (by simp)]
 simp only [Option.bind_some]
 cases hb:X3 1 4 [(l.length:Int)]
 ·simp only [cond_false,Bool.false_eq_true,if_false]
  have hl:1≤l.length∧l.length≤4:=by simp at hb;omega
  exact X6 (W4 (↑l.length) l [↑l.length]) _ l.length (fun i (b:Int)=>(b,(i:Int))) (fun _ _=>True) (fun i b=>some (X4U b (l.drop i)))
   (by
    intro b _ R
    simp [W4,Wi,X4U])
   (by
    intro i b hi _ R hR
    have hR':=hR (l[i].Day) trivial
    simp only [W4,Wi]
    rw [List.drop_eq_getElem_cons hi]
    have hw:=wS i (by omega)
    simp only [Int.toNat_natCast,X0 _ _ _ hi,X4U,hw]
    rw [X12 _ _ _ (by simp),X12 _ _ _ (by simp)]
    have h1:decide ((i:Int)<↑l.length)=true:=by simp [hi]
    have h2:=z0S i
    simp only [h1,h2,Bool.and_self,cond_true,Option.bind_some]
    cases h3:X3 0 40000 [l[i].Day]
    ·cases h4:X3 0 4 [l[i].Colour]
     ·by_cases h5:l[i].Day≤b
      ·simp [h5]
      ·simp [h5];exact hR'
     ·simp
    ·simp) 0 (-1) (by omega) trivial
 ·simp
theorem X79 (l:List Zk):X2N l=some (X3B l):=by
 unfold X2N X3B
 rw [X1E,X1m]
 simp only [Option.bind_some]
 cases hb:X3 1 4 [(l.length:Int)]
 ·simp only [Bool.not_false,Bool.not_true,cond_false,Bool.false_eq_true,if_false]
  have hl:1≤l.length∧l.length≤4:=by simp at hb;omega
  exact X6 (W9 l) _ l.length (fun i (_:Int)=>(i:Int)) (fun i b=>b=if i=0 then -1 else (l.getD (i-1) ⟨0,0⟩).Day) (fun i b=>some (X4U b (l.drop i)))
   (by
    intro b _ R
    simp [W9,Wn,X4U])
   (by
    intro i b hi hP R hR
    have hR':=hR (l[i].Day) (by simp [List.getD,hi])
    simp only [W9,Wn]
    rw [List.drop_eq_getElem_cons hi]
    have hw:=wS i (by omega)
    have hw1:IntKind.wrap .i64 ((i:Int)-1)=((i:Int)-1):=by rw [w64]<;>omega
    simp only [Int.toNat_natCast,X0 _ _ _ hi,X4U,hw,hw1]
    rw [X1E,X1E,X1m,X1m]
    have h1:decide ((i:Int)<↑l.length)=true:=by simp [hi]
    have h2:=z0S i
    simp only [h1,h2,Bool.and_self,cond_true,Option.bind_some]
    cases h3:X3 0 40000 [l[i].Day]
    ·cases h4:X3 0 4 [l[i].Colour]
     ·by_cases h0:i=0
      ·subst h0
       simp at hP h3
       have h5:¬ l[0].Day≤b:=by omega
       simp [h5];simpa using hR'
      ·have e7:(0:Int)≤(i:Int)-1:=by omega
       have e8:(i:Int)-1<(l.length:Int):=by omega
       have e9:((i:Int)-1).toNat=i-1:=by omega
       have e10:(i:Int)>0:=by omega
       simp only [e7,e8,e9,e10,decide_true,Bool.and_self,cond_true]
       simp only [h0,if_false] at hP
       rw [←hP]
       by_cases h5:l[i].Day≤b
       ·simp [h5]
       ·simp [h5];exact hR'
     ·simp
    ·simp) 0 (-1) (by omega) (by simp)
 ·simp
theorem X7P (b:ZB) (m:Int) (hm:0≤m∧m≤1000000):X56 b m=some (X7O b m 40):=by
 have hm1:IntKind.wrap .i64 (0-m) = -m:=by rw [w64]<;>omega
 unfold X56 X7O
 rw [X12 _ _ _ (by simp),hm1]
 simp only [Option.bind_some]
 cases hb:X3 (-m) m [b.X.Lo,b.X.Hi,b.Y.Lo,b.Y.Hi]
 ·simp at hb
  have h1:IntKind.wrap .i64 (b.X.Hi-b.X.Lo)=b.X.Hi-b.X.Lo:=by rw [w64]<;>omega
  have h2:IntKind.wrap .i64 (b.Y.Hi-b.Y.Lo)=b.Y.Hi-b.Y.Lo:=by rw [w64]<;>omega
  rw [h1,h2,X12 _ _ _ (by simp)]
  simp only [Option.bind_some,cond_false,Bool.false_eq_true,if_false]
  cases X3 0 40 [b.X.Hi-b.X.Lo,b.Y.Hi-b.Y.Lo]<;>simp
 ·simp
def X2P (lo hi:Int):Int→List ZE→Int
 | e,[]=>e
 | e,s::l=>if X3 lo hi [s.Lo,s.Hi] then 7 else X2P lo hi (if s.Lo>s.Hi then 2 else e) l
theorem X37 (l:List ZE) (lo hi:Int) (hl:l.length<1000000):X2b l lo hi=some (X2P lo hi 0 l):=by
 unfold X2b
 exact X6 (W7 lo l hi) _ l.length (fun i (b:Int)=>(b,(i:Int))) (fun _ _=>True) (fun i b=>some (X2P lo hi b (l.drop i)))
   (by
    intro b _ R
    simp [W7,Wl,X2P])
   (by
    intro i b hi' _ R hR
    simp only [W7,Wl]
    rw [List.drop_eq_getElem_cons hi']
    have hw:=wS i (by omega)
    simp only [Int.toNat_natCast,X0 _ _ _ hi',X2P,hw]
    rw [X1E,X1E,X1m,X1m]
    have h1:decide ((i:Int)<↑l.length)=true:=by simp [hi']
    have h2:=z0S i
    simp only [h1,h2,Bool.and_self,cond_true,Option.bind_some]
    have hsplit:X3 lo hi [l[i].Lo,l[i].Hi]=(X3 lo hi [l[i].Lo]||X3 lo hi [l[i].Hi]):=by simp
    rw [hsplit]
    cases h3:X3 lo hi [l[i].Lo]
    ·cases h4:X3 lo hi [l[i].Hi]
     ·by_cases h5:l[i].Lo>l[i].Hi
      ·have:=hR 2 trivial
       simp only [h5];simp;simpa using this
      ·have:=hR b trivial
       simp only [h5];simp;simpa using this
     ·simp
    ·simp) 0 0 (by omega) trivial
theorem X8z (b:ZB) (m w:Int) (hw:0≤w):(let e:=X2P (-m) m 0 [b.X,b.Y];if e=0 then (if b.X.Hi-b.X.Lo>w then 2 else if b.Y.Hi-b.Y.Lo>w then 2 else 0) else e)=X7O b m w:=by
 simp only [X2P,X7O,X4o,X6F,Bool.or_false]
 generalize b.X.Lo=x,b.X.Hi=X,b.Y.Lo=y,b.Y.Hi=Y
 by_cases a1:x < -m∨x>m∨X < -m∨X>m
 ·have e1:(decide (x < -m)||decide (x>m)||(decide (X < -m)||decide (X>m)))=true:=by simp;omega
  have e2:(decide (x < -m)||decide (x>m)||(decide (X < -m)||decide (X>m)||(decide (y < -m)||decide (y>m)||(decide (Y < -m)||decide (Y>m)))))=true:=by simp;omega
  rw [e1,e2];simp
 ·have e1:(decide (x < -m)||decide (x>m)||(decide (X < -m)||decide (X>m)))=false:=by simp;omega
  rw [e1]
  by_cases a2:y < -m∨y>m∨Y < -m∨Y>m
  ·have e2:(decide (y < -m)||decide (y>m)||(decide (Y < -m)||decide (Y>m)))=true:=by simp;omega
   have e3:(decide (x < -m)||decide (x>m)||(decide (X < -m)||decide (X>m)||(decide (y < -m)||decide (y>m)||(decide (Y < -m)||decide (Y>m)))))=true:=by simp;omega
   rw [e3,e2];simp
  ·have e2:(decide (y < -m)||decide (y>m)||(decide (Y < -m)||decide (Y>m)))=false:=by simp;omega
   have e3:(decide (x < -m)||decide (x>m)||(decide (X < -m)||decide (X>m)||(decide (y < -m)||decide (y>m)||(decide (Y < -m)||decide (Y>m)))))=false:=by simp;omega
   rw [e3,e2]
   simp only [Bool.false_eq_true,if_false]
   by_cases b1:Y<y
   ·have e4:(decide (X-x<0)||decide (X-x>w)||(decide (Y-y<0)||decide (Y-y>w)))=true:=by simp;omega
    rw [e4]
    simp [b1]
   ·by_cases b2:X<x
    ·have e4:(decide (X-x<0)||decide (X-x>w)||(decide (Y-y<0)||decide (Y-y>w)))=true:=by simp;omega
     rw [e4]
     simp [b1,b2]
    ·simp only [gt_iff_lt,b1,b2,if_false]
     by_cases b3:X-x>w
     ·have e4:(decide (X-x<0)||decide (w<X-x)||(decide (Y-y<0)||decide (w<Y-y)))=true:=by simp;omega
      rw [e4];simp;omega
     ·by_cases b4:Y-y>w
      ·have e4:(decide (X-x<0)||decide (w<X-x)||(decide (Y-y<0)||decide (w<Y-y)))=true:=by simp;omega
       rw [e4];simp;omega
      ·have e4:(decide (X-x<0)||decide (w<X-x)||(decide (Y-y<0)||decide (w<Y-y)))=false:=by simp;omega
       rw [e4];simp;omega
theorem X8P (lo hi:Int) (b:ZB) (h:X2P lo hi 0 [b.X,b.Y]=0):lo≤b.X.Lo∧b.X.Hi≤hi∧b.X.Lo≤b.X.Hi∧lo≤b.Y.Lo∧b.Y.Hi≤hi∧b.Y.Lo≤b.Y.Hi:=by
 simp only [X2P,X4o,X6F,Bool.or_false] at h
 split at h
 ·simp at h
 ·split at h
  ·simp at h
  ·rename_i h1 h2
   simp at h1 h2
   split at h
   ·simp at h
   ·split at h
    ·simp at h
    ·omega
theorem X7W (b:ZB) (m:Int) (hm:0≤m∧m≤1000000):X5c b (-m) m=some (X7O b m 40):=by
 unfold X5c
 rw [X37 _ _ _ (by simp)]
 rw [←X8z b m 40 (by omega)]
 simp only [Option.bind_some]
 by_cases h:X2P (-m) m 0 [b.X,b.Y]=0
 ·have hb:=X8P _ _ _ h
  have h1:IntKind.wrap .i64 (b.X.Hi-b.X.Lo)=b.X.Hi-b.X.Lo:=by rw [w64]<;>omega
  have h2:IntKind.wrap .i64 (b.Y.Hi-b.Y.Lo)=b.Y.Hi-b.Y.Lo:=by rw [w64]<;>omega
  rw [h1,h2,h]
  by_cases h3:b.X.Hi-b.X.Lo>40
  ·simp [h3]
  ·by_cases h4:b.Y.Hi-b.Y.Lo>40<;>simp [h3,h4]
 ·have h':(X2P (-m) m 0 [b.X,b.Y]==0)=false:=beq_eq_false_iff_ne.2 h
  rw [h',if_neg h];rfl
end Nore
open Go Go.Ab
namespace Nore
theorem X52 {a b:Int} (A B:Int) (h1 : -A≤a) (h2:a≤A) (h3 : -B≤b) (h4:b≤B) : -(A*B)≤a*b∧a*b≤A*B:=by
 have p1:=Int.mul_nonneg (show 0≤A-a by omega) (show 0≤B+b by omega)
 have p2:=Int.mul_nonneg (show 0≤A+a by omega) (show 0≤B-b by omega)
 have p3:=Int.mul_nonneg (show 0≤A-a by omega) (show 0≤B-b by omega)
 have p4:=Int.mul_nonneg (show 0≤A+a by omega) (show 0≤B+b by omega)
 constructor<;>grind
def X2I (p:Nat→Bool):Nat→Nat→Bool
 | _,0=>true
 | i,k+1=>p i&&X2I p (i+1) k
theorem X6R (p:Nat→Bool) (k i:Nat):X2I p i k=true↔∀ j,i≤j→j<i+k→p j=true:=by
 induction k generalizing i with
 | zero=>simp [X2I];intro j h1 h2;omega
 | succ k ih =>
  simp only [X2I,Bool.and_eq_true,ih]
  constructor
  ·rintro ⟨h1,h2⟩ j h3 h4
   by_cases h:j=i
   ·subst h;exact h1
   ·exact h2 j (by omega) (by omega)
  ·intro h
   exact ⟨h i (by omega) (by omega),fun j h1 h2=>h j (by omega) (by omega)⟩
def Xs (a b:Zu):Zu:=⟨a.X-b.X,a.Y-b.Y⟩
def X1Y (a b:Zu):Int:=a.X*b.Y-a.Y*b.X
def P0:Zu:=⟨0,0⟩
def X7K (l:List Zu) (i:Nat):Bool :=
 X2I (fun m=>m==i||m==(i+1) % l.length||decide (0<X1Y (Xs (l.getD ((i+1) % l.length) P0) (l.getD i P0)) (Xs (l.getD m P0) (l.getD i P0)))) 0 l.length
def X6P (l:List Zu):Bool:=X2I (X7K l) 0 l.length
def X6L (s:CtSand):Int :=
 if X3 3 8 [(s.Corners.length:Int)] then 3 else if s.Corners.any (X3H 10000) then 7 else if X7O s.Moves 500 40=0 then (if X6P s.Corners then 0 else 9) else X7O s.Moves 500 40
def Bd (A:Int) (p:Zu):Prop := -A≤p.X∧p.X≤A ∧ -A≤p.Y∧p.Y≤A
theorem X6x (A:Int) (p:Zu):X3H A p=false↔Bd A p:=by
 simp [X3H,Bd];omega
theorem X68 {A:Int} {l:List Zu} (h:l.any (X3H A)=false) (i:Nat) (hi:i<l.length):Bd A l[i]:=by
 rw [List.any_eq_false] at h
 rw [←X6x]
 simpa using h l[i] (List.getElem_mem hi)
theorem X75 {a b:Int} (A:Int) (hA:A≤1000000) (h1 : -A≤a∧a≤A) (h2 : -A≤b∧b≤A):IntKind.wrap .i64 (a-b)=a-b:=by rw [w64]<;>omega
theorem X8t {a b c d:Int} (A:Int) (hA:A=2000000) (h1 : -A≤a∧a≤A) (h2 : -A≤b∧b≤A) (h3 : -A≤c∧c≤A) (h4 : -A≤d∧d≤A):IntKind.wrap .i64 (IntKind.wrap .i64 (a*b)-IntKind.wrap .i64 (c*d))=a*b-c*d:=by
 subst hA
 have p:=X52 _ _ h1.1 h1.2 h2.1 h2.2
 have q:=X52 _ _ h3.1 h3.2 h4.1 h4.2
 rw [w64 (x:=a*b),w64 (x:=c*d),w64]<;>omega
theorem X7J (l:List Zu) (hl:3≤l.length∧l.length≤8) (hf:l.any (X3H 10000)=false) (i:Nat) (hi:i<l.length) :
  X2c (i:Int) l (((i+1) % l.length:Nat):Int) 0=some (if X7K l i then .inr () else .inl false):=by
 have hk:(i+1) % l.length<l.length:=Nat.mod_lt _ (by omega)
 unfold X7K
 generalize hkk:(i+1) % l.length=k at *
 have key:=X6Q (WF (i:Int) l (k:Int)) l.length (fun j (_:Unit)=>(j:Int)) (fun _ _=>True) (fun j _=>some (if X2I (fun m=>m==i||m==k||decide (0<X1Y (Xs (l.getD k P0) (l.getD i P0)) (Xs (l.getD m P0) (l.getD i P0)))) j (l.length-j) then .inr () else .inl false))
  (by
   intro b _ R
   simp [WF,WY,X2I])
  (by
   intro m b hm _ R hR
   have hR':=hR () trivial
   rw [show l.length-m=(l.length-(m+1))+1 by omega]
   simp only [X2I]
   simp only [WF,WY]
   have hw:=wS m (by omega)
   simp only [Int.toNat_natCast,X0 _ _ _ hm,X0 _ _ _ hi,X0 _ _ _ hk,hw]
   have b1:=X68 hf m hm
   have b2:=X68 hf i hi
   have b3:=X68 hf k hk
   unfold Bd at b1 b2 b3
   rw [X75 10000 (by omega) ⟨b3.1,b3.2.1⟩ ⟨b2.1,b2.2.1⟩,X75 10000 (by omega) b1.2.2 b2.2.2,X75 10000 (by omega) b3.2.2 b2.2.2,X75 10000 (by omega) ⟨b1.1,b1.2.1⟩ ⟨b2.1,b2.2.1⟩]
   rw [X8t 2000000 rfl (by omega) (by omega) (by omega) (by omega)]
   have d1:decide ((m:Int)<↑l.length)=true:=by simp [hm]
   have d2:=z0S m
   have d3:decide ((i:Int)<↑l.length)=true:=by simp [hi]
   have d4:=z0S i
   have d5:decide ((k:Int)<↑l.length)=true:=by simp [hk]
   have d6:=z0S k
   simp only [d1,d2,d3,d4,d5,d6,Bool.and_self,cond_true]
   change Option.bind (bif ((m:Int) != ↑i) then bif ((m:Int) != ↑k) then bif decide (X1Y (Xs l[k] l[i]) (Xs l[m] l[i])≤0) then _ else _ else _ else _) _=_
   by_cases e1:m=i
   ·have:((m:Int) != (i:Int))=false:=by simp [e1]
    rw [this];simp [e1];simpa [e1,hi,hk] using hR'
   ·have t1:((m:Int) != (i:Int))=true:=by simp;omega
    by_cases e2:m=k
    ·have:((m:Int) != (k:Int))=false:=by simp [e2]
     rw [t1,this];simp [e2];simpa [e2,hi,hk] using hR'
    ·have t2:((m:Int) != (k:Int))=true:=by simp;omega
     rw [t1,t2]
     by_cases e3:X1Y (Xs l[k] l[i]) (Xs l[m] l[i])≤0
     ·have t3:¬ 0<X1Y (Xs l[k] l[i]) (Xs l[m] l[i]):=by omega
      simp [e1,e2,e3,t3]
     ·have t3:0<X1Y (Xs l[k] l[i]) (Xs l[m] l[i]):=by omega
      simp [e1,e2,e3,t3];simpa [hi,hk] using hR')
 have:=key 0 () (by omega) trivial
 simpa [X2c] using this
theorem X7u (l:List Zu) (hl:3≤l.length∧l.length≤8) (hf:l.any (X3H 10000)=false):X41 l=some (X6P l):=by
 unfold X41 X6P
 have key:=X6 (WE l) (fun o103=>Sum.elim (fun y104:Bool=>some y104) (fun _:Unit=>some true) o103) l.length (fun i (_:Unit)=>(i:Int)) (fun _ _=>True) (fun i _=>some (X2I (X7K l) i (l.length-i)))
  (by
   intro b _ R
   simp [WE,WX,X2I])
  (by
   intro i b hi _ R hR
   have hR':=hR () trivial
   rw [show l.length-i=(l.length-(i+1))+1 by omega]
   simp only [X2I]
   simp only [WE,WX]
   have hw:=wS i (by omega)
   have hm:Int.tmod ((i+1:Nat):Int) (l.length:Int)=(((i+1) % l.length:Nat):Int):=rfl
   have d1:decide ((i:Int)<↑l.length)=true:=by simp [hi]
   have d2:((l.length:Int)==0)=false:=by simp;intro h;simp [h] at hl
   simp only [hw,hm,d1,d2,cond_true,cond_false]
   rw [X7J l hl hf i hi]
   simp only [Option.bind_some]
   cases h:X7K l i
   ·simp
   ·simp;simpa using hR')
 exact (key 0 () (by omega) trivial).trans (by simp)
theorem X7G (s:CtSand):X4K s=some (X6L s):=by
 unfold X4K X6L
 rw [X1E,X1m]
 simp only [Option.bind_some]
 cases hb:X3 3 8 [(s.Corners.length:Int)]
 ·have hl:3≤s.Corners.length∧s.Corners.length≤8:=by simp at hb;omega
  simp only [Bool.not_false,Bool.not_true,cond_false,Bool.false_eq_true,if_false]
  have key:=X6Q (Wa s) s.Corners.length (fun i (_:Unit)=>(i:Int)) (fun _ _=>True) (fun i _=>some (if (s.Corners.drop i).any (X3H 10000) then .inl 7 else .inr ()))
   (by
    intro b _ R
    simp [Wa,X1g])
   (by
    intro i b hi _ R hR
    have hR':=hR () trivial
    simp only [Wa,X1g]
    rw [List.drop_eq_getElem_cons hi]
    have hw:=wS i (by omega)
    simp only [Int.toNat_natCast,X0 _ _ _ hi,List.any_cons,hw]
    rw [X5F _ _ (by omega)]
    have h1:decide ((i:Int)<↑s.Corners.length)=true:=by simp [hi]
    have h2:=z0S i
    simp only [h1,h2,Bool.and_self,cond_true,Option.bind_some]
    by_cases h3:X3H 10000 s.Corners[i]=true
    ·simp [h3]
    ·simp [h3];simpa using hR')
  have k0:=key 0 () (by omega) trivial
  simp only [List.drop_zero,Int.natCast_zero] at k0
  unfold X3C
  have k0':Z8S (Wa s) 0=some (if s.Corners.any (X3H 10000) then .inl 7 else .inr ()):=k0
  rw [k0']
  simp only [Option.bind_some]
  cases hf:s.Corners.any (X3H 10000)
  ·simp only [Bool.false_eq_true,if_false,Sum.elim_inr]
   rw [X7W _ _ (by omega),X7u _ hl hf]
   simp only [Option.bind_some]
   by_cases h:X7O s.Moves 500 40=0
   ·rw [h]
    cases X6P s.Corners<;>simp
   ·simp [h,X4p h]
  ·simp
 ·simp
end Nore
open Go Go.Ab
namespace Nore
theorem X9e {α:Type} (P:α→Bool) (l:List α):l.countP P=0↔∀ m,(h:m<l.length)→P l[m]=false:=by
 rw [List.countP_eq_zero]
 constructor
 ·intro h m hm;simpa using h l[m] (List.getElem_mem hm)
 ·intro h a ha
  obtain ⟨m,hm,rfl⟩:=List.getElem_of_mem ha
  simp [h m hm]
theorem X98 {α:Type} (P:α→Bool) (l:List α):∀ i,(hi:i<l.length)→P l[i]=true→(l.countP P=1↔∀ m,(h:m<l.length)→m≠i→P l[m]=false):=by
 induction l with
 | nil=>intro i hi;simp at hi
 | cons a t ih =>
  intro i hi hP
  cases i with
  | zero =>
   simp only [List.getElem_cons_zero] at hP
   rw [List.countP_cons_of_pos hP]
   rw [show (t.countP P+1=1)↔t.countP P=0 by omega,X9e]
   constructor
   ·intro h m hm hne
    cases m with
    | zero=>exact absurd rfl hne
    | succ m=>simpa using h m (by simpa using hm)
   ·intro h m hm
    exact h (m+1) (by simpa using hm) (by omega)
  | succ i =>
   simp only [List.getElem_cons_succ] at hP
   have hi':i<t.length:=by simpa using hi
   have hpos:0<t.countP P:=by
    rw [List.countP_pos_iff];exact ⟨t[i],List.getElem_mem hi',hP⟩
   have ih':=ih i hi' hP
   cases ha:P a
   ·rw [List.countP_cons_of_neg (by simp [ha]),ih']
    constructor
    ·intro h m hm hne
     cases m with
     | zero=>simpa using ha
     | succ m=>simpa using h m (by simpa using hm) (by omega)
    ·intro h m hm hne
     exact h (m+1) (by simpa using hm) (by omega)
   ·rw [List.countP_cons_of_pos ha]
    constructor
    ·intro h;omega
    ·intro h
     have:=h 0 (by simp) (by omega)
     simp [ha] at this
theorem X99 {α:Type} (P:α→Bool) (l:List α):∀ i k,(hi:i<l.length)→(hk:k<l.length)→i<k→P l[i]=true→P l[k]=true→(l.countP P=2↔∀ m,(h:m<l.length)→m≠i→m≠k→P l[m]=false):=by
 induction l with
 | nil=>intro i k hi;simp at hi
 | cons a t ih =>
  intro i k hi hk hik hP hQ
  cases k with
  | zero=>omega
  | succ k =>
   simp only [List.getElem_cons_succ] at hQ
   have hk':k<t.length:=by simpa using hk
   cases i with
   | zero =>
    simp only [List.getElem_cons_zero] at hP
    rw [List.countP_cons_of_pos hP]
    rw [show (t.countP P+1=2)↔t.countP P=1 by omega,X98 P t k hk' hQ]
    constructor
    ·intro h m hm hne hne2
     cases m with
     | zero=>exact absurd rfl hne
     | succ m=>simpa using h m (by simpa using hm) (by omega)
    ·intro h m hm hne
     exact h (m+1) (by simpa using hm) (by omega) (by omega)
   | succ i =>
    simp only [List.getElem_cons_succ] at hP
    have hi':i<t.length:=by simpa using hi
    have ih':=ih i k hi' hk' (by omega) hP hQ
    cases ha:P a
    ·rw [List.countP_cons_of_neg (by simp [ha]),ih']
     constructor
     ·intro h m hm hne hne2
      cases m with
      | zero=>simpa using ha
      | succ m=>simpa using h m (by simpa using hm) (by omega) (by omega)
     ·intro h m hm hne hne2
      exact h (m+1) (by simpa using hm) (by omega) (by omega)
    ·have hpos:2≤t.countP P:=by
      have h1:=X98 P t i hi' hP
      have:0<t.countP P:=by
       rw [List.countP_pos_iff];exact ⟨t[i],List.getElem_mem hi',hP⟩
      by_cases e:t.countP P=1
      ·have:=h1.1 e k hk' (by omega)
       simp [hQ] at this
      ·omega
     rw [List.countP_cons_of_pos ha]
     constructor
     ·intro h;omega
     ·intro h
      have:=h 0 (by simp) (by omega) (by omega)
      simp [ha] at this
def X4B (l:List Zu) (a b:Zu):Bool :=
 (l.countP fun p=>decide (X1Y (Xs b a) (Xs p a)≤0))==2 && !((b.X-a.X==0)&&(b.Y-a.Y==0))
def X55 (l:List Zu):Zu→List Zu→Bool
 | _,[]=>true
 | last,p::r=>X4B l last p&&X55 l p r
theorem X8J (a b:Zu):X1Y (Xs b a) (Xs b a)=0:=by simp [X1Y,Int.mul_comm]
theorem X8K (a b:Zu):X1Y (Xs b a) (Xs a a)=0:=by simp [X1Y,Xs]
theorem X7S (l:List Zu) (hl:3≤l.length) (i k:Nat) (hi:i<l.length) (hk:k<l.length) (hne:i≠k) :
  X4B l l[i] l[k]=X2I (fun m=>m==i||m==k||decide (0<X1Y (Xs (l.getD k P0) (l.getD i P0)) (Xs (l.getD m P0) (l.getD i P0)))) 0 l.length:=by
 rw [Bool.eq_iff_iff,X6R]
 have hPi:decide (X1Y (Xs l[k] l[i]) (Xs l[i] l[i])≤0)=true:=by rw [X8K];rfl
 have hPk:decide (X1Y (Xs l[k] l[i]) (Xs l[k] l[i])≤0)=true:=by rw [X8J];rfl
 have hc:(l.countP fun p=>decide (X1Y (Xs l[k] l[i]) (Xs p l[i])≤0))=2↔∀ m,(h:m<l.length)→m≠i→m≠k→decide (X1Y (Xs l[k] l[i]) (Xs l[m] l[i])≤0)=false:=by
  by_cases hik:i<k
  ·exact X99 (fun p=>decide (X1Y (Xs l[k] l[i]) (Xs p l[i])≤0)) l i k hi hk hik hPi hPk
  ·have:=X99 (fun p=>decide (X1Y (Xs l[k] l[i]) (Xs p l[i])≤0)) l k i hk hi (by omega) hPk hPi
   rw [this]
   constructor
   ·intro h m hm h1 h2;exact h m hm h2 h1
   ·intro h m hm h1 h2;exact h m hm h2 h1
 simp only [X4B,Bool.and_eq_true,beq_iff_eq,hc]
 constructor
 ·rintro ⟨h,_⟩ m _ hm
  have hm':m<l.length:=by omega
  by_cases e1:m=i
  ·simp [e1]
  ·by_cases e2:m=k
   ·simp [e2]
   ·have:=h m hm' e1 e2
    simp only [X0 _ _ _ hm',X0 _ _ _ hi,X0 _ _ _ hk]
    simp at this
    simp [this]
 ·intro h
  have h':∀ m,(hm:m<l.length)→m≠i→m≠k→0<X1Y (Xs l[k] l[i]) (Xs l[m] l[i]):=fun m hm e1 e2=>by
   have:=h m (by omega) (by omega)
   simp only [X0 _ _ _ hm,X0 _ _ _ hi,X0 _ _ _ hk] at this
   simpa [e1,e2] using this
  refine ⟨fun m hm e1 e2 => ?_,?_⟩
  ·have:=h' m hm e1 e2
   simp;omega
  ·have:∃ m,m<l.length∧m≠i∧m≠k:=by
    by_cases a0:0≠i∧0≠k
    ·exact ⟨0,by omega,a0⟩
    ·by_cases a1:1≠i∧1≠k
     ·exact ⟨1,by omega,a1⟩
     ·exact ⟨2,by omega,by omega,by omega⟩
   obtain ⟨m,hm,e1,e2⟩:=this
   have:=h' m hm e1 e2
   rw [Bool.not_eq_true',Bool.eq_false_iff]
   intro hz
   simp only [Bool.and_eq_true,beq_iff_eq] at hz
   simp [X1Y,Xs,hz.1,hz.2] at this
theorem X8y (l:List Zu):∀ k i,i+k=l.length→1≤i→(hi:i-1<l.length)→(X55 l l[i-1] (l.drop i)=true↔∀ j,(h1:i≤j)→(h2:j<l.length)→X4B l l[j-1] l[j]=true):=by
 intro k
 induction k with
 | zero =>
  intro i hk h1 hi
  rw [List.drop_eq_nil_of_le (by omega)]
  simp [X55]
  intro j h1 h2;omega
 | succ k ih =>
  intro i hk h1 hi
  have hi2:i<l.length:=by omega
  rw [List.drop_eq_getElem_cons hi2]
  simp only [X55,Bool.and_eq_true]
  have:=ih (i+1) (by omega) (by omega) (by omega)
  simp only [Nat.add_sub_cancel] at this
  rw [this]
  constructor
  ·rintro ⟨g,h⟩ j a b
   by_cases e:j=i
   ·subst e;exact g
   ·exact h j (by omega) b
  ·intro h
   exact ⟨h i (by omega) hi2,fun j a b=>h j (by omega) b⟩
theorem X8j (l:List Zu) (hl:3≤l.length):X55 l (l.getD (l.length-1) P0) l=X6P l:=by
 rw [Bool.eq_iff_iff]
 have e:X55 l (l.getD (l.length-1) P0) l=(X4B l l[l.length-1] l[0]&&X55 l l[1-1] (l.drop 1)):=by
  conv=>lhs;rw [show l=l[0]::l.drop 1 by rw [←List.drop_eq_getElem_cons (by omega)];rfl]
  rw [←show l=l[0]::l.drop 1 by rw [←List.drop_eq_getElem_cons (by omega)];rfl]
  rw [X0 _ _ _ (by omega)]
  conv=>lhs;arg 3;rw [show l=l[0]::l.drop 1 by rw [←List.drop_eq_getElem_cons (by omega)];rfl]
  rfl
 rw [e]
 simp only [Bool.and_eq_true]
 rw [X8y l (l.length-1) 1 (by omega) (by omega) (by omega)]
 unfold X6P
 rw [X6R]
 have hside:∀ i,(hi:i<l.length)→X7K l i=X4B l l[i] (l[(i+1) % l.length]'(Nat.mod_lt _ (by omega))):=fun i hi=>by
  have hk:(i+1) % l.length<l.length:=Nat.mod_lt _ (by omega)
  have hne:i≠(i+1) % l.length:=by
   by_cases h:i+1<l.length
   ·rw [Nat.mod_eq_of_lt h];omega
   ·have:i+1=l.length:=by omega
    rw [this,Nat.mod_self];omega
  rw [X7S l hl i _ hi hk hne]
  rfl
 constructor
 ·rintro ⟨h0,h⟩ i _ hi
  have hi':i<l.length:=by omega
  rw [hside i hi']
  by_cases hh:i+1<l.length
  ·have:=h (i+1) (by omega) hh
   simp only [Nat.mod_eq_of_lt hh]
   simpa using this
  ·have e1:i=l.length-1:=by omega
   subst e1
   simp only [show l.length-1+1=l.length by omega,Nat.mod_self]
   exact h0
 ·intro h
  constructor
  ·have:=h (l.length-1) (by omega) (by omega)
   rw [hside _ (by omega)] at this
   simpa only [show l.length-1+1=l.length by omega,Nat.mod_self] using this
  ·intro j h1 h2
   have:=h (j-1) (by omega) (by omega)
   rw [hside _ (by omega)] at this
   simpa only [show j-1+1=j by omega,Nat.mod_eq_of_lt h2] using this
theorem X76 (l:List Zu) (hl:l.length≤8) (hf:l.any (X3H 10000)=false) (x4:Z8) (x5:Bool) (x6:Int) (x7:Bool) (x8:Z8) (x9:Bool) (x10:Int) (x11:Z8) (s:Z6) (a b:Zu) (ha:Bd 10000 a) (hb:Bd 10000 b) (hs:s=⟨a,Xs b a⟩) :
  Wv (↑l.length) l x4 x5 x6 x7 x8 x9 x10 x11 s (0,0)=some ((l.countP fun p=>decide (X1Y (Xs b a) (Xs p a)≤0):Nat):Int):=by
 subst hs
 unfold Bd at ha hb
 have key:=X6Q (Xl (↑l.length) l x4 x5 x6 x7 x8 x9 x10 x11 ⟨a,Xs b a⟩) l.length (fun i (c:Nat)=>((c:Int),(i:Int))) (fun i c=>c≤i) (fun i c=>some (((c+(l.drop i).countP fun p=>decide (X1Y (Xs b a) (Xs p a)≤0):Nat)):Int))
  (by
   intro b _ R
   simp [Xl,Xw])
  (by
   intro i c hi hc R hR
   simp only [Xl,Xw]
   rw [List.drop_eq_getElem_cons hi]
   have hw:=wS i (by omega)
   have hw2:=wS c (by omega)
   have bp:=X68 hf i hi
   unfold Bd at bp
   simp only [Int.toNat_natCast,X0 _ _ _ hi,hw,hw2,Xs]
   rw [X75 10000 (by omega) bp.2.2 ha.2.2,X75 10000 (by omega) ⟨bp.1,bp.2.1⟩ ⟨ha.1,ha.2.1⟩]
   rw [X8t 2000000 rfl (by omega) (by omega) (by omega) (by omega)]
   have h1:decide ((i:Int)<↑l.length)=true:=by simp [hi]
   have h2:=z0S i
   simp only [h1,h2,Bool.and_self,cond_true]
   change Option.bind (bif decide (X1Y (Xs b a) (Xs l[i] a)≤0) then _ else _) _=_
   change _=some (((c+List.countP (fun p=>decide (X1Y (Xs b a) (Xs p a)≤0)) (l[i]::List.drop (i+1) l):Nat)):Int)
   by_cases h:X1Y (Xs b a) (Xs l[i] a)≤0
   ·rw [List.countP_cons_of_pos (by simpa using h)]
    simp only [h,decide_true,cond_true,Option.bind_some,Sum.elim_inl]
    rw [hR (c+1) (by omega)]
    congr 1
    show ((_:Nat):Int)=((_:Nat):Int)
    congr 1
    show c+1+_=c+(_+1)
    simp only [Xs]
    omega
   ·rw [List.countP_cons_of_neg (by simpa using h)]
    simp only [h,decide_false,cond_false,Option.bind_some,Sum.elim_inl]
    rw [hR c (by omega)])
 have:=key 0 0 (by omega) (by omega)
 simpa [Wv] using this
theorem X6e (s:Z8):X1T s=some (X6L s.CtSand):=by
 obtain ⟨s⟩:=s
 unfold X1T X6L
 rw [X12 _ _ _ (by simp)]
 simp only [Option.bind_some]
 cases hb:X3 3 8 [(s.Corners.length:Int)]
 ·have hl:3≤s.Corners.length∧s.Corners.length≤8:=by simp at hb;omega
  simp only [cond_false,Bool.false_eq_true,if_false]
  rw [X5l _ (by omega) _ (by omega)]
  simp only [Option.bind_some]
  cases hf:s.Corners.any (X3H 10000)
  ·simp only [cond_false,Bool.false_eq_true,if_false]
   rw [X7P _ _ (by omega)]
   simp only [Option.bind_some]
   by_cases h:X7O s.Moves 500 40=0
   ·have hw:IntKind.wrap .i64 ((s.Corners.length:Int)-1)=(s.Corners.length:Int)-1:=by rw [w64]<;>omega
    have ht:((s.Corners.length:Int)-1).toNat=s.Corners.length-1:=by omega
    have h1:decide ((0:Int)≤(s.Corners.length:Int)-1)=true:=by simp;omega
    have h2:decide ((s.Corners.length:Int)-1<(s.Corners.length:Int))=true:=by simp;omega
    simp only [h,hw,ht,h1,h2,bne_self_eq_false,cond_false,Bool.and_self,cond_true,if_true]
    rw [←X8j _ hl.1]
    have hlast:Bd 10000 (s.Corners.getD (s.Corners.length-1) P0):=by
     rw [X0 _ _ _ (by omega)];exact X68 hf _ (by omega)
    refine (X6 (Xk (↑s.Corners.length) s.Corners ⟨s⟩ false 0 false ⟨s⟩ false 0 ⟨s⟩ [(↑s.Corners.length:Int)]) _ s.Corners.length (fun i (b:Zu)=>((i:Int),b)) (fun _ b=>Bd 10000 b) (fun i b=>some (if X55 s.Corners b (s.Corners.drop i) then 0 else 9)) ?_ ?_ 0 _ (by omega) hlast).trans (by simp)
    ·intro b _ R
     simp [Xk,Xv,X55]
    ·intro i b hi hP R hR
     have bp:=X68 hf i hi
     have hR':=hR s.Corners[i] bp
     simp only [Xk,Xv]
     rw [List.drop_eq_getElem_cons hi]
     have hw:=wS i (by omega)
     simp only [Int.toNat_natCast,X0 _ _ _ hi,hw,X55]
     have bp':=bp
     have hP':=hP
     unfold Bd at bp' hP'
     rw [X75 10000 (by omega) bp'.2.2 hP'.2.2,X75 10000 (by omega) ⟨bp'.1,bp'.2.1⟩ ⟨hP'.1,hP'.2.1⟩]
     rw [X76 s.Corners hl.2 hf _ _ _ _ _ _ _ _ ⟨⟨b.X,b.Y⟩,⟨s.Corners[i].X-b.X,s.Corners[i].Y-b.Y⟩⟩ b s.Corners[i] hP bp rfl]
     have h1:decide ((i:Int)<↑s.Corners.length)=true:=by simp [hi]
     have h2:=z0S i
     simp only [h1,h2,Bool.and_self,cond_true,Option.bind_some]
     have hg:X4B s.Corners b s.Corners[i]=((s.Corners.countP fun p=>decide (X1Y (Xs s.Corners[i] b) (Xs p b)≤0))==2 && !((s.Corners[i].X-b.X==0)&&(s.Corners[i].Y-b.Y==0))):=rfl
     generalize (s.Corners.countP fun p=>decide (X1Y (Xs s.Corners[i] b) (Xs p b)≤0))=c at hg ⊢
     by_cases h3:c=2
     ·subst h3
      cases h4:(s.Corners[i].X-b.X==0)
      ·simp only [h4,Bool.false_and,Bool.not_false,Bool.and_true,beq_self_eq_true] at hg
       simp [hg];simpa using hR'
      ·cases h5:(s.Corners[i].Y-b.Y==0)
       ·simp only [h4,h5,Bool.and_false,Bool.not_false,Bool.and_true,beq_self_eq_true] at hg
        simp [hg];simpa using hR'
       ·simp only [h4,h5,Bool.and_self,Bool.not_true,Bool.and_false] at hg
        simp [hg]
     ·have h3':(((c:Nat):Int) != 2)=true:=by simp;omega
      have h3'':(c==2)=false:=by simp [h3]
      rw [h3'',Bool.false_and] at hg
      simp [h3',hg]
   ·rw [X1n h,if_neg h];rfl
  ·simp
 ·simp
end Nore
open Go Go.Ab
namespace Nore
theorem Z7X (a b:ByteArray):(a==b)=(a.data==b.data):=by cases a;cases b;rfl
instance:LawfulBEq ByteArray where
 rfl:=by intro a;rw [Z7X];simp
 eq_of_beq:=by
  intro a b h
  rw [Z7X] at h
  have:=eq_of_beq h
  cases a;cases b
  simp only at this
  rw [this]
instance:DecidableEq ByteArray:=fun a b=>if h:(a==b)=true then isTrue (eq_of_beq h) else isFalse (fun e=>h (by rw [e];simp))
theorem X6t {v:Int} (s k:ByteArray):∀ m:List (ByteArray×Int),Z8z (fun a b=>a==b) s (Zgh (fun a b=>a==b) k v m)=if s=k then some v else Z8z (fun a b=>a==b) s m
 | []=>by
  by_cases h:s=k
  ·simp [Zgh,Z8z,h]
  ·have h':(s==k)=false:=beq_eq_false_iff_ne.2 h
   simp [Zgh,Z8z,h,h']
 | (k',v')::m=>by
  have ih:=X6t s k m (v:=v)
  simp only [Zgh]
  by_cases h1:k=k'
  ·subst h1
   simp only [beq_self_eq_true,cond_true,Z8z]
   by_cases h:s=k
   ·simp [h]
   ·have h':(s==k)=false:=beq_eq_false_iff_ne.2 h
    simp [h,h']
  ·have:(k==k')=false:=by simp [h1]
   simp only [this,cond_false,Z8z]
   by_cases h2:s=k'
   ·subst h2
    have h3:s≠k:=fun h=>h1 h.symm
    simp [h3]
   ·have:(s==k')=false:=by simp [h2]
    simp only [this,cond_false,ih]
def X1e (s:ByteArray) (names:List ByteArray):Int:=if X62 s then (if s∈names then 5 else 0) else 6
theorem X6u {a b:ByteArray} (h:a.toList=b.toList):a=b:=by
 cases a;cases b
 simp only [ByteArray.toList_eq] at h
 congr 1
 exact Array.ext' h
theorem X4H (s:ByteArray) (names:List ByteArray) (hl:names.length<1000000):X2C s names=some (X1e s names):=by
 unfold X2C X1e
 rw [X7F]
 simp only [Option.bind_some]
 cases X62 s
 ·simp
 ·simp only [Bool.not_true,cond_false,if_true]
  unfold X4X
  have key:=X6 (XQ s names) (fun o78=>Option.bind (Sum.elim (fun y79:Int=>some y79) (fun _:Unit=>some (-1)) o78) fun r82=>bif decide (r82≥0) then some (5:Int) else some 0) names.length (fun i (_:Unit)=>(i:Int)) (fun _ _=>True) (fun i _=>some (if s∈names.drop i then 5 else 0))
   (by
    intro b _ R
    simp [XQ,WW])
   (by
    intro i b hi _ R hR
    have hR':=hR () trivial
    simp only [XQ,WW]
    rw [List.drop_eq_getElem_cons hi]
    have hw:=wS i (by omega)
    simp only [Int.toNat_natCast,X0 _ _ _ hi,hw]
    have h1:decide ((i:Int)<↑names.length)=true:=by simp [hi]
    have h2:=z0S i
    simp only [h1,h2,Bool.and_self,cond_true]
    by_cases h:names[i]=s
    ·simp [h]
    ·have h':(names[i].toList==s.toList)=false:=by
      simp only [beq_eq_false_iff_ne];intro hh;exact h (X6u hh)
     have h'':¬ s=names[i]:=fun hh=>h hh.symm
     simp only [h',cond_false,Option.bind_some,Sum.elim_inl,List.mem_cons,h'',false_or]
     exact hR')
  have:=key 0 () (by omega) trivial
  simp only [List.drop_zero] at this
  rw [←this]
  show Option.bind (Option.bind _ _) _=Option.bind _ _
  unfold X3c
  simp only [Int.natCast_zero]
  cases Z8S (XQ s names) 0<;>rfl
def X3L (m:Zw) (names:List ByteArray):Int:=if X1e m.Name names=0 then (if X3H 30000 m.At then 7 else X3B m.Paints) else X1e m.Name names
def X5Q (s:CtSand) (names:List ByteArray):Int:=if X1e s.Name names=0 then X6L s else X1e s.Name names
def X54:Nat→List ByteArray→List CtSand→Int×Int×Int
 | _,_,[]=>(0,0,0)
 | i,names,s::l=>if X5Q s names=0 then X54 (i+1) (names++[s.Name]) l else (2,(i:Int),X5Q s names)
def X51 (sands:List CtSand):Nat→List ByteArray→List Zw→Int×Int×Int
 | _,names,[]=>if 4<sands.length then (2,0,3) else X54 0 names sands
 | i,names,m::l=>if X3L m names=0 then X51 sands (i+1) (names++[m.Name]) l else (1,(i:Int),X3L m names)
def X46 (c:Zl):Int×Int×Int:=if 8<c.Marks.length then (1,0,3) else X51 c.Sands 0 [] c.Marks
def Z2P (m:List (ByteArray×Int)) (names:List ByteArray):Prop:=∀ s,Option.getD (Z8z (fun a b=>a==b) s m) 0=if s∈names then 1 else 0
theorem X8c {m:List (ByteArray×Int)} {names:List ByteArray} (h:Z2P m names) (s:ByteArray) (hs:s∉names):Z2P (Zgh (fun a b=>a==b) s (IntKind.wrap .i64 (Option.getD (Z8z (fun a b=>a==b) s m) 0+1)) m) (names++[s]):=by
 intro t
 rw [X6t,h s,if_neg hs]
 by_cases e:t=s
 ·simp [e];rfl
 ·simp [e];simpa using h t
theorem X7n {m:List (ByteArray×Int)} {names:List ByteArray} (h:Z2P m names) (s:ByteArray):decide (Option.getD (Z8z (fun a b=>a==b) s (Zgh (fun a b=>a==b) s (IntKind.wrap .i64 (Option.getD (Z8z (fun a b=>a==b) s m) 0+1)) m)) 0>1)=decide (s∈names):=by
 rw [X6t,h s]
 simp only [if_true,Option.getD_some]
 by_cases e:s∈names
 ·simp only [e,if_true];rfl
 ·simp only [e,if_false];rfl
theorem X87 (c:Zl) (hl:c.Sands.length≤4) (m:List (ByteArray×Int)) (names:List ByteArray) (hm:Z2P m names) (k:_→Option (Int×Int×Int))
  (hk:k=fun o56=>Sum.elim (fun (y57:Int×Int×Int×(List (ByteArray×Int))×CtSand)=>some (y57.snd.snd.fst,y57.fst,y57.snd.fst)) (fun y58=>Sum.elim (fun (y59:Int×Int×Int×(List (ByteArray×Int))×CtSand)=>some (y59.snd.snd.fst,y59.fst,y59.snd.fst)) (fun y60=>Sum.elim (fun (y61:Int×Int×Int×(List (ByteArray×Int))×CtSand)=>some (y61.snd.snd.fst,y61.fst,y61.snd.fst)) (fun (_:List (ByteArray×Int))=>some (0,0,0)) y60) y58) o56) :
  Option.bind (X26 (↑c.Sands.length) c.Sands c (0,m)) k=some (X54 0 names c.Sands):=by
 subst hk
 unfold X26
 exact X6 (Wu (↑c.Sands.length) c.Sands c) _ c.Sands.length (fun i (b:List (ByteArray×Int)×List ByteArray)=>((i:Int),b.1)) (fun _ b=>Z2P b.1 b.2) (fun i b=>some (X54 i b.2 (c.Sands.drop i)))
  (by
   intro b _ R
   simp [Wu,WO,X54])
  (by
   intro i b hi hP R hR
   simp only [Wu,WO]
   rw [List.drop_eq_getElem_cons hi]
   have hw:=wS i (by omega)
   simp only [Int.toNat_natCast,X0 _ _ _ hi,hw,X54]
   rw [X50,X6e,X7n hP]
   have h1:decide ((i:Int)<↑c.Sands.length)=true:=by simp [hi]
   have h2:=z0S i
   simp only [h1,h2,Bool.and_self,cond_true,Option.bind_some]
   by_cases hn:X62 c.Sands[i].Name=true
   ·by_cases he:c.Sands[i].Name∈b.2
    ·have hE:X5Q c.Sands[i] b.2=5:=by simp [X5Q,X1e,hn,he]
     simp [hn,he,hE]
    ·have e0:(⟨c.Sands[i].Name,c.Sands[i].Corners,c.Sands[i].Moves⟩:CtSand)=c.Sands[i]:=rfl
     have hE:X5Q c.Sands[i] b.2=X6L c.Sands[i]:=by simp [X5Q,X1e,hn,he]
     rw [e0]
     simp only [hn,he,Bool.not_true,decide_false,cond_false,hE]
     by_cases hs:X6L c.Sands[i]=0
     ·simp only [hs,bne_self_eq_false,cond_false,if_true,Option.bind_some,Sum.elim_inl]
      exact hR (_,b.2++[c.Sands[i].Name]) (X8c hP _ he)
     ·simp [hs,X1n hs]
   ·have hE:X5Q c.Sands[i] b.2=6:=by simp [X5Q,X1e,hn]
    simp [hn,hE]) 0 (m,names) (by omega) hm
theorem X5T (c:Zl):X3f c=some (X46 c):=by
 unfold X3f X46
 by_cases h8:8<c.Marks.length
 ·have:decide ((c.Marks.length:Int)>8)=true:=by simp;omega
  rw [this];simp [h8]
 ·have:decide ((c.Marks.length:Int)>8)=false:=by simp;omega
  rw [this]
  simp only [cond_false,h8,if_false]
  exact X6 (Wt (↑c.Marks.length) c.Marks c) _ c.Marks.length (fun i (b:List (ByteArray×Int)×List ByteArray)=>((i:Int),b.1)) (fun _ b=>Z2P b.1 b.2) (fun i b=>some (X51 c.Sands i b.2 (c.Marks.drop i)))
   (by
    intro b hP R
    simp only [Wt,WN]
    have h1:decide ((c.Marks.length:Int)<↑c.Marks.length)=false:=by simp
    simp only [h1,cond_false,Option.bind_some,Sum.elim_inr,List.drop_length,X51]
    by_cases h4:4<c.Sands.length
    ·have:decide ((c.Sands.length:Int)>4)=true:=by simp;omega
     rw [this];simp [h4]
    ·have:decide ((c.Sands.length:Int)>4)=false:=by simp;omega
     rw [this]
     simp only [cond_false,h4,if_false]
     exact X87 c (by omega) _ _ hP _ rfl)
   (by
    intro i b hi hP R hR
    simp only [Wt,WN]
    rw [List.drop_eq_getElem_cons hi]
    have hw:=wS i (by omega)
    simp only [Int.toNat_natCast,X0 _ _ _ hi,hw,X51]
    rw [X50,X77,X7n hP,X5l _ (by omega) _ (by simp)]
    have h1:decide ((i:Int)<↑c.Marks.length)=true:=by simp [hi]
    have h2:=z0S i
    simp only [h1,h2,Bool.and_self,cond_true,Option.bind_some,List.any_cons,List.any_nil,Bool.or_false]
    by_cases hn:X62 c.Marks[i].Name=true
    ·by_cases he:c.Marks[i].Name∈b.2
     ·have hE:X3L c.Marks[i] b.2=5:=by simp [X3L,X1e,hn,he]
      simp [hn,he,hE]
     ·by_cases hfar:X3H 30000 c.Marks[i].At=true
      ·have hE:X3L c.Marks[i] b.2=7:=by simp [X3L,X1e,hn,he,hfar]
       simp [hn,he,hfar,hE]
      ·have hE:X3L c.Marks[i] b.2=X3B c.Marks[i].Paints:=by simp [X3L,X1e,hn,he,hfar]
       simp only [hn,he,hfar,Bool.not_true,decide_false,cond_false,hE]
       by_cases hs:X3B c.Marks[i].Paints=0
       ·simp only [hs,bne_self_eq_false,cond_false,if_true,Option.bind_some,Sum.elim_inl]
        exact hR (_,b.2++[c.Marks[i].Name]) (X8c hP _ he)
       ·simp [hs,X1n hs]
    ·have hE:X3L c.Marks[i] b.2=6:=by simp [X3L,X1e,hn]
     simp [hn,hE]) 0 ([],[]) (by omega) (by intro s;simp [Z8z])
theorem X8h (c:Zl) (hl:c.Sands.length≤4) (names:List ByteArray) (hm:names.length≤8) (k:_→Option (Int×Int×Int))
  (hk:k=fun o134=>Sum.elim (fun (y135:Int×Int×Int×(List ByteArray)×(List ByteArray))=>some (y135.snd.snd.fst,y135.fst,y135.snd.fst)) (fun y136=>Sum.elim (fun (y137:Int×Int×Int×(List ByteArray)×(List ByteArray))=>some (y137.snd.snd.fst,y137.fst,y137.snd.fst)) (fun (_:List ByteArray)=>some (0,0,0)) y136) o134) :
  Option.bind (X2a c (0,names)) k=some (X54 0 names c.Sands):=by
 subst hk
 unfold X2a
 exact X6 (WD c) _ c.Sands.length (fun i (b:List ByteArray)=>((i:Int),b)) (fun i b=>b.length≤8+i) (fun i b=>some (X54 i b (c.Sands.drop i)))
  (by
   intro b _ R
   simp [WD,WV,X54])
  (by
   intro i b hi hP R hR
   simp only [WD,WV]
   rw [List.drop_eq_getElem_cons hi]
   have hw:=wS i (by omega)
   simp only [Int.toNat_natCast,X0 _ _ _ hi,hw,X54]
   rw [X4H _ _ (by omega),X7G]
   have h1:decide ((i:Int)<↑c.Sands.length)=true:=by simp [hi]
   have h2:=z0S i
   have h3:Nat.ble ((b.length+[c.Sands[i].Name].length)*(16+1)) 200000000000000=true:=by
    rw [Nat.ble_eq];simp;omega
   simp only [h1,h2,h3,Bool.and_self,cond_true,Option.bind_some]
   by_cases hf:X1e c.Sands[i].Name b=0
   ·have hE:X5Q c.Sands[i] b=X6L c.Sands[i]:=by simp [X5Q,hf]
    simp only [hf,hE,beq_self_eq_true,cond_true]
    by_cases hs:X6L c.Sands[i]=0
    ·simp only [hs,bne_self_eq_false,cond_false,if_true,Option.bind_some,Sum.elim_inl]
     exact hR (b++[c.Sands[i].Name]) (by simp;omega)
    ·simp [hs,X1n hs]
   ·have hE:X5Q c.Sands[i] b=X1e c.Sands[i].Name b:=by simp [X5Q,hf]
    simp [hE,hf,X4p hf,X1n hf]) 0 names (by omega) (by omega)
theorem X7r (c:Zl):X3Z c=some (X46 c):=by
 unfold X3Z X46
 by_cases h8:8<c.Marks.length
 ·have:decide ((c.Marks.length:Int)>8)=true:=by simp;omega
  rw [this];simp [h8]
 ·have:decide ((c.Marks.length:Int)>8)=false:=by simp;omega
  rw [this]
  simp only [cond_false,h8,if_false]
  exact X6 (WC c) _ c.Marks.length (fun i (b:List ByteArray)=>((i:Int),b)) (fun i b=>b.length≤i) (fun i b=>some (X51 c.Sands i b (c.Marks.drop i)))
   (by
    intro b hP R
    simp only [WC,WU]
    have h1:decide ((c.Marks.length:Int)<↑c.Marks.length)=false:=by simp
    simp only [h1,cond_false,Option.bind_some,Sum.elim_inr,List.drop_length,X51]
    by_cases h4:4<c.Sands.length
    ·have:decide ((c.Sands.length:Int)>4)=true:=by simp;omega
     rw [this];simp [h4]
    ·have:decide ((c.Sands.length:Int)>4)=false:=by simp;omega
     rw [this]
     simp only [cond_false,h4,if_false]
     exact X8h c (by omega) _ (by omega) _ rfl)
   (by
    intro i b hi hP R hR
    simp only [WC,WU]
    rw [List.drop_eq_getElem_cons hi]
    have hw:=wS i (by omega)
    simp only [Int.toNat_natCast,X0 _ _ _ hi,hw,X51]
    rw [X4H _ _ (by omega),X79,X5F _ _ (by omega)]
    have h1:decide ((i:Int)<↑c.Marks.length)=true:=by simp [hi]
    have h2:=z0S i
    have h3:Nat.ble ((b.length+[c.Marks[i].Name].length)*(16+1)) 200000000000000=true:=by
     rw [Nat.ble_eq];simp;omega
    simp only [h1,h2,h3,Bool.and_self,cond_true,Option.bind_some]
    by_cases hf:X1e c.Marks[i].Name b=0
    ·by_cases hfar:X3H 30000 c.Marks[i].At=true
     ·have hE:X3L c.Marks[i] b=7:=by simp [X3L,hf,hfar]
      simp [hf,hfar,hE]
     ·have hE:X3L c.Marks[i] b=X3B c.Marks[i].Paints:=by simp [X3L,hf,hfar]
      simp only [hf,hfar,hE,Bool.not_false,Bool.not_true,cond_false,beq_self_eq_true,cond_true]
      by_cases hs:X3B c.Marks[i].Paints=0
      ·simp only [hs,bne_self_eq_false,cond_false,if_true,Option.bind_some,Sum.elim_inl]
       exact hR (b++[c.Marks[i].Name]) (by simp;omega)
      ·simp [hs,X1n hs]
    ·have hE:X3L c.Marks[i] b=X1e c.Marks[i].Name b:=by simp [X3L,hf]
     simp [hE,hf,X4p hf,X1n hf]) 0 [] (by omega) (by simp)
end Nore
open Go Go.Ab
namespace Nore
theorem X1 (lo up:Int) (l:List Int) (hl:l.length<1000000):X2 lo up l=some (X3 lo up l):=by
 rw [X5Z];unfold X2h
 have key:=X6 (WB (↑l.length) l up lo) (fun o3=>Sum.elim (fun y4:Int=>some (decide (y4≥0))) (fun _=>some (decide ((-1:Int)≥0))) o3) l.length (fun i (_:Unit)=>(i:Int)) (fun _ _=>True) (fun i _=>some (X3 lo up (l.drop i)))
  (by
   intro b _ R
   simp [WB,WT])
  (by
   intro i b hi _ R hR
   have hR':=hR () trivial
   simp only [WB,WT]
   rw [List.drop_eq_getElem_cons hi]
   simp only [Int.toNat_natCast,X0 _ _ _ hi,X4o]
   have hw:=wS i (by omega)
   rw [hw]
   have h1:decide ((i:Int)<↑l.length)=true:=by simp [hi]
   have h2:=z0S i
   simp only [h1,h2,Bool.and_self,cond_true]
   by_cases h3:l[i]<lo
   ·simp [h3]
   ·by_cases h4:l[i]>up
    ·simp [h3,h4]
    ·simp [h3,h4];exact hR')
 exact (key 0 () (by omega) trivial).trans (by simp)
theorem Xy (n lo hi:Int):X11 n lo hi=some (inN n lo hi):=by
 rw [X72];unfold X3F inN
 by_cases h:lo≤n<;>simp [h]
def X3m (x:Z5):Int:=if x.Lead then 20 else 4
theorem X7H (x:Z5):X5f x=some (X3m x):=by
 rw [X6J];unfold X34 X3m
 cases x.Lead<;>rfl
def X6W (x:Z5) (names:List ByteArray):Int :=
 if X1e x.Name names≠0 then X1e x.Name names else if X3 (-X3m x) (X3m x) [x.Off.Lo,x.Off.Hi] then 7 else if x.Off.Lo>x.Off.Hi then 2 else 0
theorem X8o (x:Z5) (l:List Z5) (hl:l.length<1000000) (k:(Int×Z5)⊕Unit→Option Int) (r1 r2:Option Int) (h1:∀ (i:Nat) y,k (.inl ((i:Int),y))=r1) (h2:k (.inr ())=r2) :
  Option.bind (X2m (↑l.length) l x 0) k=if x.Name∈l.map (·.Name) then r1 else r2:=by
 have key:=X6 (XH (↑l.length) l x) k l.length (fun i (_:Unit)=>(i:Int)) (fun _ _=>True) (fun i _=>if x.Name∈(l.drop i).map (·.Name) then r1 else r2)
  (by
   intro b _ R
   simp [XH,XN,h2])
  (by
   intro i b hi _ R hR
   have hR':=hR () trivial
   simp only [XH,XN]
   rw [List.drop_eq_getElem_cons hi]
   simp only [Int.toNat_natCast,X0 _ _ _ hi,List.map_cons,List.mem_cons]
   have hw:=wS i (by omega)
   rw [hw]
   have e1:decide ((i:Int)<↑l.length)=true:=by simp [hi]
   have e2:=z0S i
   simp only [e1,e2,Bool.and_self,cond_true]
   by_cases h3:l[i].Name.toList=x.Name.toList
   ·have h4:x.Name=l[i].Name:=X6u h3.symm
    simp [h3,h4,h1]
   ·have h4:¬ x.Name=l[i].Name:=fun e=>h3 (by rw [e])
    have h5:(l[i].Name.toList==x.Name.toList)=false:=beq_eq_false_iff_ne.2 h3
    simp only [h5,cond_false,h4,false_or]
    exact hR')
 exact (key 0 () (by omega) trivial).trans (by simp)
theorem X8p (x:Z5) (l:List Z5) (hl:l.length<1000000) (k:(Int×Z5)⊕Unit→Option Int) (r1 r2:Option Int) (h1:∀ (i:Nat) y,k (.inl ((i:Int),y))=r1) (h2:k (.inr ())=r2) :
  Option.bind (X2n (↑l.length) l x 0) k=if x.Name∈l.map (·.Name) then r1 else r2:=by
 have key:=X6 (XI (↑l.length) l x) k l.length (fun i (_:Unit)=>(i:Int)) (fun _ _=>True) (fun i _=>if x.Name∈(l.drop i).map (·.Name) then r1 else r2)
  (by
   intro b _ R
   simp [XI,XO,h2])
  (by
   intro i b hi _ R hR
   have hR':=hR () trivial
   simp only [XI,XO]
   rw [List.drop_eq_getElem_cons hi]
   simp only [Int.toNat_natCast,X0 _ _ _ hi,List.map_cons,List.mem_cons]
   have hw:=wS i (by omega)
   rw [hw]
   have e1:decide ((i:Int)<↑l.length)=true:=by simp [hi]
   have e2:=z0S i
   simp only [e1,e2,Bool.and_self,cond_true]
   by_cases h3:l[i].Name.toList=x.Name.toList
   ·have h4:x.Name=l[i].Name:=X6u h3.symm
    simp [h3,h4,h1]
   ·have h4:¬ x.Name=l[i].Name:=fun e=>h3 (by rw [e])
    have h5:(l[i].Name.toList==x.Name.toList)=false:=beq_eq_false_iff_ne.2 h3
    simp only [h5,cond_false,h4,false_or]
    exact hR')
 exact (key 0 () (by omega) trivial).trans (by simp)
theorem X6s (x:Z5) (l:List Z5) (hl:l.length<1000000):X3A x l=some (X6W x (l.map (·.Name))):=by
 rw [X4P];unfold X1d X6W X1e X3m
 have hw20:IntKind.wrap .i64 (0-20) = -20:=by rw [w64]<;>omega
 have hw4:IntKind.wrap .i64 (0-4) = -4:=by rw [w64]<;>omega
 rw [X50]
 simp only [Option.bind_some,hw20,hw4]
 cases hb:x.Lead
 ·simp only [cond_false,Bool.false_eq_true,if_false]
  cases hn:X62 x.Name
  ·simp
  ·simp only [Bool.not_true,cond_false,if_true]
   rw [X8p x l hl _ (some 5) (if X3 (-4) 4 [x.Off.Lo,x.Off.Hi] then some 7 else if x.Off.Lo>x.Off.Hi then some 2 else some 0) (fun i y=>by simp) (by
    simp only [Sum.elim_inr]
    rw [X1 _ _ _ (by simp)]
    simp only [Option.bind_some]
    cases X3 (-4) 4 [x.Off.Lo,x.Off.Hi]
    ·by_cases h:x.Off.Lo>x.Off.Hi<;>simp [h]
    ·simp)]
   by_cases hm:x.Name∈l.map (·.Name)
   ·simp [hm]
   ·simp only [hm,if_false,ne_eq,not_true]
    cases X3 (-4) 4 [x.Off.Lo,x.Off.Hi]
    ·by_cases h:x.Off.Lo>x.Off.Hi<;>simp [h]
    ·simp
 ·simp only [cond_true,if_true]
  cases hn:X62 x.Name
  ·simp
  ·simp only [Bool.not_true,cond_false,if_true]
   rw [X8o x l hl _ (some 5) (if X3 (-20) 20 [x.Off.Lo,x.Off.Hi] then some 7 else if x.Off.Lo>x.Off.Hi then some 2 else some 0) (fun i y=>by simp) (by
    simp only [Sum.elim_inr]
    rw [X1 _ _ _ (by simp)]
    simp only [Option.bind_some]
    cases X3 (-20) 20 [x.Off.Lo,x.Off.Hi]
    ·by_cases h:x.Off.Lo>x.Off.Hi<;>simp [h]
    ·simp)]
   by_cases hm:x.Name∈l.map (·.Name)
   ·simp [hm]
   ·simp only [hm,if_false,ne_eq,not_true]
    cases X3 (-20) 20 [x.Off.Lo,x.Off.Hi]
    ·by_cases h:x.Off.Lo>x.Off.Hi<;>simp [h]
    ·simp
def X4L (a:Zt):Int:=if X3 (-30000) 30000 [a.X.Lo,a.X.Hi,a.Y.Lo,a.Y.Hi]||X3 0 1000 [a.Depth.Lo,a.Depth.Hi]||X3 1 4 [a.Ground] then 7 else if a.X.Lo>a.X.Hi∨a.Y.Lo>a.Y.Hi∨a.Depth.Lo>a.Depth.Hi then 2 else 0
theorem X7R (a:Zt):X6A a=some (X4L a):=by
 rw [X6T];unfold X3o X4L
 rw [X1 _ _ _ (by simp),X1 _ _ _ (by simp),X1 _ _ _ (by simp)]
 simp only [Option.bind_some]
 cases X3 (-30000) 30000 [a.X.Lo,a.X.Hi,a.Y.Lo,a.Y.Hi]
 ·cases X3 0 1000 [a.Depth.Lo,a.Depth.Hi]
  ·cases X3 1 4 [a.Ground]
   ·by_cases h1:a.X.Lo>a.X.Hi
    ·simp [h1]
    ·by_cases h2:a.Y.Lo>a.Y.Hi
     ·simp [h1,h2]
     ·by_cases h3:a.Depth.Lo>a.Depth.Hi<;>simp [h1,h2,h3]
   ·simp
  ·simp
 ·simp
theorem X78 (i:Int) (a:Zt):X3U i a=some (X4L a):=by
 rw [X5U];unfold X2f
 rw [X7R];rfl
theorem X9f (lo hi a b c d:Int):X3 lo hi [a,b,c,d]=(X3 lo hi [a,b]||X3 lo hi [c,d]):=by simp [Bool.or_assoc]
theorem X7w (a:Zt):X5s a=some (X4L a):=by
 rw [X6m];unfold X2F X4L X3j
 rw [X37 _ _ _ (by simp),X37 _ _ _ (by simp),Xy,X1m,X9f]
 simp only [Option.bind_some,X2P]
 cases X3 (-30000) 30000 [a.X.Lo,a.X.Hi]
 ·cases X3 (-30000) 30000 [a.Y.Lo,a.Y.Hi]
  ·cases X3 0 1000 [a.Depth.Lo,a.Depth.Hi]
   ·cases X3 1 4 [a.Ground]
    ·by_cases h1:a.X.Lo>a.X.Hi<;>by_cases h2:a.Y.Lo>a.Y.Hi<;>by_cases h3:a.Depth.Lo>a.Depth.Hi<;>simp [h1,h2,h3]
    ·by_cases h1:a.X.Lo>a.X.Hi<;>by_cases h2:a.Y.Lo>a.Y.Hi<;>by_cases h3:a.Depth.Lo>a.Depth.Hi<;>simp [h1,h2,h3]
   ·by_cases h1:a.X.Lo>a.X.Hi<;>by_cases h2:a.Y.Lo>a.Y.Hi<;>simp [h1,h2]
  ·simp
 ·simp
def X1W:Nat→List ByteArray→List Z5→Int×Int×Int
 | _,_,[]=>(0,0,0)
 | i,names,x::l=>if X6W x names=0 then X1W (i+1) (names++[x.Name]) l else (3,(i:Int),X6W x names)
def X38:Nat→List Zt→Int×Int×Int
 | _,[]=>(0,0,0)
 | i,a::l=>if X4L a=0 then X38 (i+1) l else (4,(i:Int),X4L a)
def X36 (f:ZJ):Int×Int×Int :=
 if (X46 f.Chart).2.2≠0 then (1,0,(X46 f.Chart).2.2) else
 if X3 0 40000 [f.Day]||X3 1 500 [f.Step]||X3 0 8 [f.Half] then (2,0,7) else
 if X3 1 4 [(f.Instruments.length:Int)] then (3,0,3) else
 if (X1W 0 [] f.Instruments).2.2≠0 then X1W 0 [] f.Instruments else
 if 6<f.Areas.length then (4,0,3) else X38 0 f.Areas
theorem X84 (l:List Zt) (hl:l.length≤6) (k:(Int×Int×Zt)⊕Unit→Option (Int×Int×Int)) (h1:∀ (i e:Int) y,e≠0→k (.inl (e,i,y))=some (4,i,e)) (h2:k (.inr ())=some (0,0,0)) :
  Option.bind (X3Q l (↑l.length) 0) k=some (X38 0 l):=by
 have key:=X6 (X1u l (↑l.length)) k l.length (fun i (_:Unit)=>(i:Int)) (fun _ _=>True) (fun i _=>some (X38 i (l.drop i)))
  (by
   intro b _ R
   simp [X1u,X1A,h2,X38])
  (by
   intro i b hi _ R hR
   have hR':=hR () trivial
   simp only [X1u,X1A]
   rw [List.drop_eq_getElem_cons hi]
   simp only [Int.toNat_natCast,X0 _ _ _ hi,X38]
   have hw:=wS i (by omega)
   rw [hw,X78]
   have e1:decide ((i:Int)<↑l.length)=true:=by simp [hi]
   have e2:=z0S i
   simp only [e1,e2,Bool.and_self,cond_true,Option.bind_some]
   by_cases h3:X4L l[i]=0
   ·simp only [h3,bne_self_eq_false,cond_false,Option.bind_some,Sum.elim_inl,if_true]
    exact hR'
   ·simp [h3,X1n h3,h1])
 exact (key 0 () (by omega) trivial).trans (by simp)
theorem X85 (l:List Zt) (hl:l.length≤6) (k:(Int×Int×Zt)⊕Unit→Option (Int×Int×Int)) (h1:∀ (i e:Int) y,e≠0→k (.inl (e,i,y))=some (4,i,e)) (h2:k (.inr ())=some (0,0,0)) :
  Option.bind (X2J l (↑l.length) 0) k=some (X38 0 l):=X84 l hl k h1 h2
theorem X8q (f:ZJ) (hl:f.Instruments.length≤4) (k:(Int×Int×Z5×Z5)⊕Unit→Option (Int×Int×Int)) (r:Option (Int×Int×Int)) (h1:∀ (i e:Int) y y',e≠0→k (.inl (e,i,y,y'))=some (3,i,e)) (h2:k (.inr ())=r) :
  Option.bind (X3P f.Instruments (↑f.Instruments.length) f 0) k=if (X1W 0 [] f.Instruments).2.2≠0 then some (X1W 0 [] f.Instruments) else r:=by
 have key:=X6 (X1t f.Instruments (↑f.Instruments.length) f) k f.Instruments.length (fun i (_:Unit)=>(i:Int)) (fun _ _=>True) (fun i _=>if (X1W i ((f.Instruments.take i).map (·.Name)) (f.Instruments.drop i)).2.2≠0 then some (X1W i ((f.Instruments.take i).map (·.Name)) (f.Instruments.drop i)) else r)
  (by
   intro b _ R
   simp [X1t,X1z,h2,X1W])
  (by
   intro i b hi _ R hR
   have hR':=hR () trivial
   simp only [X1t,X1z]
   rw [List.drop_eq_getElem_cons hi]
   rw [←List.take_concat_get hi] at hR'
   simp only [List.concat_eq_append,List.map_append,List.map_cons,List.map_nil] at hR'
   simp only [Int.toNat_natCast,X0 _ _ _ hi,X1W,List.drop_zero]
   have hw:=wS i (by omega)
   rw [hw,X6s _ _ (by simp;omega)]
   have e1:decide ((i:Int)<↑f.Instruments.length)=true:=by simp [hi]
   have e2:=z0S i
   have e3:decide ((i:Int)≤↑f.Instruments.length)=true:=by simp;omega
   simp only [e1,e2,e3,Bool.and_self,cond_true,Option.bind_some]
   by_cases h3:X6W f.Instruments[i] ((f.Instruments.take i).map (·.Name))=0
   ·simp only [h3,bne_self_eq_false,cond_false,Option.bind_some,Sum.elim_inl,if_true]
    exact hR'
   ·simp only [X1n h3,cond_true,Option.bind_some,Sum.elim_inr,h1 _ _ _ _ h3,if_neg h3]
    rw [if_pos h3])
 exact (key 0 () (by omega) trivial).trans (by simp)
theorem X7E (f:ZJ):X6a f=some (X36 f):=by
 rw [X6y];unfold X30 X36
 rw [X5T,X1 _ _ _ (by simp),X1 _ _ _ (by simp),X1 _ _ _ (by simp),X1 _ _ _ (by simp)]
 simp only [Option.bind_some]
 by_cases h1:(X46 f.Chart).2.2=0
 ·simp only [h1,bne_self_eq_false,cond_false,ne_eq,not_true,if_false]
  cases X3 0 40000 [f.Day]
  ·cases X3 1 500 [f.Step]
   ·cases X3 0 8 [f.Half]
    ·cases hi:X3 1 4 [(f.Instruments.length:Int)]
     ·have hl:f.Instruments.length≤4:=by simp at hi;omega
      simp only [cond_false,Bool.or_self,Bool.false_eq_true,if_false]
      have ha:(bif decide ((f.Areas.length:Int)>6) then some (4,0,3) else Option.bind (X2J f.Areas (↑f.Areas.length) 0) fun o257↦Sum.elim (fun y258↦bif y258.fst != 0 then some (4,y258.snd.fst,y258.fst) else some ((0:Int),(0:Int),(0:Int))) (fun y259↦some (0,0,0)) o257)=(some (if 6<f.Areas.length then (4,0,3) else X38 0 f.Areas):Option (Int×Int×Int)):=by
       by_cases h6:6<f.Areas.length
       ·have:decide ((f.Areas.length:Int)>6)=true:=by simp;omega
        rw [this];simp [h6]
       ·have:decide ((f.Areas.length:Int)>6)=false:=by simp;omega
        rw [this]
        simp only [cond_false,h6,if_false]
        exact X85 _ (by omega) _ (fun i e y he=>by simp [X1n he]) rfl
      rw [X8q f hl _ _ (fun i e y y' he=>by simp [X1n he]) (by simp only [Sum.elim_inr];exact ha)]
      by_cases h3:(X1W 0 [] f.Instruments).2.2=0<;>simp [h3]
     ·simp
    ·simp
   ·simp
  ·simp
 ·simp [h1,X1n h1]
theorem X7z (f:ZJ) (hl:f.Instruments.length≤4) (k:(Int×Int×Int×List ByteArray×List ByteArray×Z5)⊕((Int×Int×Int×List ByteArray×List ByteArray×Z5)⊕List ByteArray)→Option (Int×Int×Int)) (r:Option (Int×Int×Int))
  (h1:∀ (i e:Int) y y' z,k (.inl (i,e,3,y,y',z))=some (3,i,e)) (h1':∀ (i e:Int) y y' z,k (.inr (.inl (i,e,3,y,y',z)))=some (3,i,e)) (h2:∀ l,k (.inr (.inr l))=r) :
  Option.bind (X3d f (0,[])) k=if (X1W 0 [] f.Instruments).2.2≠0 then some (X1W 0 [] f.Instruments) else r:=by
 have key:=X6 (WG f) k f.Instruments.length (fun i (b:List ByteArray)=>((i:Int),b)) (fun i b=>b=(f.Instruments.take i).map (·.Name)) (fun i b=>if (X1W i b (f.Instruments.drop i)).2.2≠0 then some (X1W i b (f.Instruments.drop i)) else r)
  (by
   intro b _ R
   simp [WG,WZ,h2,X1W])
  (by
   intro i b hi hb R hR
   have hR':=hR (b++[f.Instruments[i].Name]) (by rw [hb,←List.take_concat_get hi,List.concat_eq_append,List.map_append];rfl)
   have hbl:b.length≤4:=by rw [hb];simp;omega
   simp only [WG,WZ]
   rw [List.drop_eq_getElem_cons hi]
   simp only [Int.toNat_natCast,X0 _ _ _ hi,X1W]
   have hw:=wS i (by omega)
   rw [hw,X4H _ _ (by omega),X7H]
   have e1:decide ((i:Int)<↑f.Instruments.length)=true:=by simp [hi]
   have e2:=z0S i
   have e3:Nat.ble ((b.length+[f.Instruments[i].Name].length)*(16+1)) 200000000000000=true:=by
    apply Nat.ble_eq_true_of_le;simp;omega
   have hf:IntKind.wrap .i64 (0-X3m f.Instruments[i]) = -X3m f.Instruments[i]:=by unfold X3m;split<;>(rw [w64]<;>omega)
   simp only [e1,e2,e3,Bool.and_self,cond_true,Option.bind_some,hf,X3j]
   rw [X37 _ _ _ (by simp)]
   unfold X6W
   by_cases h3:X1e f.Instruments[i].Name b=0
   ·simp only [h3,beq_self_eq_true,cond_true,ne_eq,not_true,if_false,Option.bind_some,X2P]
    cases ho:X3 (-X3m f.Instruments[i]) (X3m f.Instruments[i]) [f.Instruments[i].Off.Lo,f.Instruments[i].Off.Hi]
    ·by_cases h4:f.Instruments[i].Off.Lo>f.Instruments[i].Off.Hi
     ·simp [h4,h1]
     ·simp only [h4,Bool.false_eq_true,if_false,bne_self_eq_false,cond_false,Option.bind_some,Sum.elim_inl,if_true]
      exact hR'
    ·simp [h1]
   ·have h5:=X1n h3
    simp [h3,X4p h3,h5,h1'])
 exact (key 0 [] (by omega) (by simp)).trans (by simp)
theorem X7y (f:ZJ) (hl:f.Areas.length≤6) (k:(Int×Int×Int)⊕Unit→Option (Int×Int×Int)) (h1:∀ (i e:Int),k (.inl (i,e,4))=some (4,i,e)) (h2:k (.inr ())=some (0,0,0)) :
  Option.bind (X3e f 0) k=some (X38 0 f.Areas):=by
 have key:=X6 (WH f) k f.Areas.length (fun i (_:Unit)=>(i:Int)) (fun _ _=>True) (fun i _=>some (X38 i (f.Areas.drop i)))
  (by
   intro b _ R
   simp [WH,X10,h2,X38])
  (by
   intro i b hi _ R hR
   have hR':=hR () trivial
   simp only [WH,X10]
   rw [List.drop_eq_getElem_cons hi]
   simp only [Int.toNat_natCast,X0 _ _ _ hi,X38]
   have hw:=wS i (by omega)
   rw [hw,X7w]
   have e1:decide ((i:Int)<↑f.Areas.length)=true:=by simp [hi]
   have e2:=z0S i
   simp only [e1,e2,Bool.and_self,cond_true,Option.bind_some]
   by_cases h3:X4L f.Areas[i]=0
   ·simp only [h3,bne_self_eq_false,cond_false,Option.bind_some,Sum.elim_inl,if_true]
    exact hR'
   ·simp [h3,X1n h3,h1])
 exact (key 0 () (by omega) trivial).trans (by simp)
theorem X7a (f:ZJ):X4Y f=some (X36 f):=by
 rw [X63];unfold X2i X36
 rw [X7r,Xy,Xy,Xy,Xy,X1m,X1m,X1m,X1m]
 simp only [Option.bind_some,Bool.not_not]
 by_cases h1:(X46 f.Chart).2.2=0
 ·simp only [h1,bne_self_eq_false,cond_false,ne_eq,not_true,if_false]
  cases X3 0 40000 [f.Day]
  ·cases X3 1 500 [f.Step]
   ·cases X3 0 8 [f.Half]
    ·cases hi:X3 1 4 [(f.Instruments.length:Int)]
     ·have hl:f.Instruments.length≤4:=by simp at hi;omega
      simp only [cond_false,Bool.or_self,Bool.false_eq_true,if_false]
      rw [X7z f hl _ (some (if 6<f.Areas.length then (4,0,3) else X38 0 f.Areas)) (fun i e y y' z=>rfl) (fun i e y y' z=>rfl) (fun l=>by
       simp only [Sum.elim_inr]
       by_cases h6:6<f.Areas.length
       ·have:decide ((f.Areas.length:Int)>6)=true:=by simp;omega
        rw [this];simp [h6]
       ·have:decide ((f.Areas.length:Int)>6)=false:=by simp;omega
        rw [this]
        simp only [cond_false,h6,if_false]
        exact X7y f (by omega) _ (fun i e=>rfl) rfl)]
      by_cases h3:(X1W 0 [] f.Instruments).2.2=0<;>simp [h3]
     ·simp
    ·simp
   ·simp
  ·simp
 ·simp [h1,X1n h1]
end Nore
open Go Go.Ab
namespace Nore
def X4D (d:Int):Int→List Zk→Int
 | c,[]=>c
 | c,p::l=>X4D d (if p.Day≤d then p.Colour else c) l
def X3Y (m:Zw) (d:Int):Int:=X4D d 0 m.Paints
theorem X71 (d:Int) (p:Zk):∀ (l:List Zk) (c:Int),X4D d c (l++[p])=if p.Day≤d then p.Colour else X4D d c l
 | [],c=>rfl
 | q::l,c=>by simp only [List.cons_append,X4D,X71 d p l]
theorem X4W (m:Zw) (d:Int) (hl:m.Paints.length<1000000):X32 m d=some (X3Y m d):=by
 rw [X5d];unfold X1D X3Y
 have key:=X6 (XT d m) (fun o=>some o) m.Paints.length (fun i (b:Int)=>(b,(i:Int))) (fun _ _=>True) (fun i b=>some (X4D d b (m.Paints.drop i)))
  (by
   intro b _ R
   simp [XT,XZ,X4D])
  (by
   intro i b hi _ R hR
   simp only [XT,XZ]
   rw [List.drop_eq_getElem_cons hi]
   simp only [Int.toNat_natCast,X0 _ _ _ hi,X4D]
   have hw:=wS i (by omega)
   rw [hw]
   have e1:decide ((i:Int)<↑m.Paints.length)=true:=by simp [hi]
   have e2:=z0S i
   simp only [e1,e2,Bool.and_self,cond_true]
   by_cases h3:m.Paints[i].Day≤d
   ·simp only [h3,decide_true,cond_true,Option.bind_some,Sum.elim_inl,if_true]
    exact hR _ trivial
   ·simp only [h3,decide_false,cond_false,Option.bind_some,Sum.elim_inl,if_false]
    exact hR _ trivial)
 exact key 0 0 (by omega) trivial
theorem X8d (d:Int) (l:List Zk) (hl:l.length<1000000) (k:(Zk×Int×Int)⊕Unit→Option (Zw×Int×Int)) (mk:Zw) (h1:∀ p c e,k (.inl (p,c,e))=some (mk,c,e)) (h2:k (.inr ())=some (mk,0,0)) :
  Option.bind (X1N d l ((l.length:Int)-1)) k=some (mk,X4D d 0 l,0):=by
 have key:=X6 (W3 d l) k l.length (fun i (_:Unit)=>(l.length:Int)-1-i) (fun _ _=>True) (fun i _=>some (mk,X4D d 0 (l.take (l.length-i)),0))
  (by
   intro b _ R
   have:decide ((l.length:Int)-1-l.length≥0)=false:=by simp;omega
   simp only [W3,Wh,this,cond_false,Option.bind_some,Sum.elim_inr,h2]
   simp [X4D])
  (by
   intro i b hi _ R hR
   have hR':=hR () trivial
   have ht:((l.length:Int)-1-i).toNat=l.length-1-i:=by omega
   have hj:l.length-1-i<l.length:=by omega
   simp only [W3,Wh,ht,X0 _ _ _ hj]
   have e1:decide ((l.length:Int)-1-i≥0)=true:=by simp;omega
   have e2:decide ((0:Int)≤(l.length:Int)-1-i)=true:=by simp;omega
   have e3:decide ((l.length:Int)-1-i<l.length)=true:=by simp;omega
   have hw:IntKind.wrap .i64 ((l.length:Int)-1-i-1)=(l.length:Int)-1-((i+1:Nat):Int):=by rw [w64]<;>omega
   simp only [e1,e2,e3,Bool.and_self,cond_true,hw]
   have hs:l.take (l.length-i)=l.take (l.length-(i+1))++[l[l.length-1-i]]:=by
    have:=List.take_concat_get hj
    rw [show l.length-i=l.length-1-i+1 by omega,←this,List.concat_eq_append,show l.length-(i+1)=l.length-1-i by omega]
   rw [hs,X71]
   by_cases h3:l[l.length-1-i].Day≤d
   ·simp [h3,h1]
   ·simp only [h3,decide_false,cond_false,Option.bind_some,Sum.elim_inl,if_false]
    exact hR')
 have:=key 0 () (by omega) trivial
 unfold X1N
 simpa using this
theorem X8u (l:List Zk) (h:X3B l=0):l.length≤4:=by
 unfold X3B at h
 cases ho:X3 1 4 [(l.length:Int)]
 ·simp at ho;omega
 ·rw [ho] at h;simp at h
theorem X8e (sands:List CtSand):∀ (l:List Zw) (i:Nat) (names:List ByteArray),(X51 sands i names l).2.2=0→∀ m∈l,X3H 30000 m.At=false∧m.Paints.length≤4
 | [],_,_,_,m,hm=>by cases hm
 | x::l,i,names,h,m,hm=>by
  simp only [X51] at h
  by_cases h0:X3L x names=0
  ·simp only [h0,if_true] at h
   rcases List.mem_cons.1 hm with e|e
   ·subst e
    unfold X3L at h0
    by_cases h1:X1e m.Name names=0
    ·simp only [h1,if_true] at h0
     cases hf:X3H 30000 m.At
     ·rw [hf] at h0
      exact ⟨rfl,X8u _ (by simpa using h0)⟩
     ·rw [hf] at h0;simp at h0
    ·simp only [h1,if_false] at h0
   ·exact X8e sands l _ _ h m e
  ·simp only [h0,if_false] at h
structure X1L (f:ZJ):Prop where
 chart:(X46 f.Chart).2.2=0
 marks:f.Chart.Marks.length≤8
 mark:∀ m∈f.Chart.Marks,X3H 30000 m.At=false∧m.Paints.length≤4
 day:0≤f.Day∧f.Day≤40000
 step:1≤f.Step∧f.Step≤500
 half:0≤f.Half∧f.Half≤8
 inst:1≤f.Instruments.length∧f.Instruments.length≤4
 off:∀ x∈f.Instruments,-X3m x≤x.Off.Lo∧x.Off.Lo≤x.Off.Hi∧x.Off.Hi≤X3m x
 areas:f.Areas.length≤6
 area:∀ a∈f.Areas,X4L a=0
theorem X8b:∀ (l:List Z5) (i:Nat) (names:List ByteArray),(X1W i names l).2.2=0→∀ x∈l,-X3m x≤x.Off.Lo∧x.Off.Lo≤x.Off.Hi∧x.Off.Hi≤X3m x
 | [],_,_,_,m,hm=>by cases hm
 | x::l,i,names,h,m,hm=>by
  simp only [X1W] at h
  by_cases h0:X6W x names=0
  ·simp only [h0,if_true] at h
   rcases List.mem_cons.1 hm with e|e
   ·subst e
    unfold X6W at h0
    by_cases h1:X1e m.Name names=0
    ·simp only [h1,ne_eq,not_true,if_false] at h0
     cases ho:X3 (-X3m m) (X3m m) [m.Off.Lo,m.Off.Hi]
     ·rw [ho] at h0
      simp at ho h0
      omega
     ·rw [ho] at h0;simp at h0
    ·simp only [ne_eq,h1,not_false_eq_true,if_true] at h0
   ·exact X8b l _ _ h m e
  ·simp only [h0,if_false] at h
theorem X86:∀ (l:List Zt) (i:Nat),(X38 i l).2.2=0→∀ x∈l,X4L x=0
 | [],_,_,m,hm=>by cases hm
 | x::l,i,h,m,hm=>by
  simp only [X38] at h
  by_cases h0:X4L x=0
  ·simp only [h0,if_true] at h
   rcases List.mem_cons.1 hm with e|e
   ·subst e;exact h0
   ·exact X86 l _ h m e
  ·simp only [h0,if_false] at h
theorem X7m {f:ZJ} (h:(X36 f).2.2=0):X1L f:=by
 unfold X36 at h
 by_cases h1:(X46 f.Chart).2.2=0
 ·simp only [h1,ne_eq,not_true,if_false] at h
  cases h2:(X3 0 40000 [f.Day]||X3 1 500 [f.Step]||X3 0 8 [f.Half])
  ·rw [h2] at h
   cases h3:X3 1 4 [(f.Instruments.length:Int)]
   ·rw [h3] at h
    simp only [Bool.false_eq_true,if_false] at h
    by_cases h4:(X1W 0 [] f.Instruments).2.2=0
    ·simp only [h4,ne_eq,not_true,if_false] at h
     by_cases h5:6<f.Areas.length
     ·rw [if_pos h5] at h;simp at h
     ·rw [if_neg h5] at h
      simp at h2 h3
      have hm:¬ 8<f.Chart.Marks.length:=fun q=>by unfold X46 at h1;rw [if_pos q] at h1;simp at h1
      have h1':=h1
      unfold X46 at h1'
      rw [if_neg hm] at h1'
      exact ⟨h1,by omega,X8e _ _ _ _ h1',by omega,by omega,by omega,by omega,X8b _ _ _ h4,by omega,X86 _ _ h⟩
    ·exfalso
     rw [if_pos h4] at h;exact h4 h
   ·rw [h3] at h;simp at h
  ·rw [h2] at h;simp at h
 ·rw [if_pos h1] at h;exact absurd h h1
theorem X58 {f:ZJ} (hg:X1L f) (mark:Int) (h0:0≤mark) (h1:mark<f.Chart.Marks.length) :
  X3k f.Chart f.Day mark=some (f.Chart.Marks.getD mark.toNat ⟨ByteArray.empty,⟨0,0⟩,[]⟩,X3Y (f.Chart.Marks.getD mark.toNat ⟨ByteArray.empty,⟨0,0⟩,[]⟩) f.Day,0):=by
 rw [X5w];unfold X1S
 have hm:=hg.marks
 have hd:=hg.day
 have hj:mark.toNat<f.Chart.Marks.length:=by omega
 have hp:=(hg.mark _ (List.getElem_mem hj)).2
 have hw:IntKind.wrap .i64 ((f.Chart.Marks.length:Int)-1)=(f.Chart.Marks.length:Int)-1:=by rw [w64]<;>omega
 rw [X5T,X12 _ _ _ (by simp),X12 _ _ _ (by simp),hw]
 have o1:X3 0 40000 [f.Day]=false:=by simp;omega
 have o2:X3 0 ((f.Chart.Marks.length:Int)-1) [mark]=false:=by simp;omega
 have e1:decide (0≤mark)=true:=by simp [h0]
 have e2:decide (mark<(f.Chart.Marks.length:Int))=true:=by simp [h1]
 simp only [Option.bind_some,hg.chart,bne_self_eq_false,cond_false,o1,o2,e1,e2,Bool.and_self,cond_true,X0 _ _ _ hj]
 have hw2:IntKind.wrap .i64 ((f.Chart.Marks[mark.toNat].Paints.length:Int)-1)=(f.Chart.Marks[mark.toNat].Paints.length:Int)-1:=by rw [w64]<;>omega
 rw [hw2]
 exact X8d f.Day _ (by omega) _ _ (fun p c e=>rfl) rfl
def Z8y (f:ZJ) (mark:Int):Zw:=f.Chart.Marks.getD mark.toNat ⟨ByteArray.empty,⟨0,0⟩,[]⟩
def X2w (f:ZJ) (mark:Int):Bool:=X3Y (Z8y f mark) f.Day != 0
theorem X7B {f:ZJ} (hg:X1L f) (mark:Int) (h0:0≤mark) (h1:mark<f.Chart.Marks.length) (l:List Zn) (kit:Nat→Nat) (m:List (Zh×Int)) :
  Xq (mark,f,l,kit,m)=some (X2w f mark,f,l,kit,m):=by
 rw [X3s];unfold XE
 rw [X5u];unfold X1R
 rw [X58 hg mark h0 h1]
 rfl
def Kit (f:ZJ) (kit:Nat→Nat):Prop:=∀ i,(h:i<f.Instruments.length)→kit i=if f.Instruments[i].Lead then 2 else 1
def XX (f:ZJ) (i:Int):Z5:=f.Instruments.getD i.toNat ⟨ByteArray.empty,false,⟨0,0⟩⟩
def WM (f:ZJ) (x:Zn):Int :=
 if X3 0 ((f.Instruments.length:Int)-1) [x.Instrument] then 4 else
 if (XX f x.Instrument).Lead then (if X3 0 1000 [x.Shown]||X3 0 4 [x.Ground] then 7 else if x.Mark≠0 then 2 else 0)
 else if X3 0 ((f.Chart.Marks.length:Int)-1) [x.Mark] then 4 else if X2w f x.Mark=false then 9 else if X3 0 31 [x.Shown] then 7 else if x.Ground≠0 then 7 else 0
theorem X8O {f:ZJ} (hg:X1L f) (x:Zn) (l:List Zn) {kit:Nat→Nat} (hk:Kit f kit) (m:List (Zh×Int)) :
  X1a (x,f,l,kit,m)=some (WM f x,f,l,kit,m):=by
 rw [X3J];unfold XM WM
 have hm:=hg.marks
 have hi:=hg.inst
 have hw:IntKind.wrap .i64 ((f.Chart.Marks.length:Int)-1)=(f.Chart.Marks.length:Int)-1:=by rw [w64]<;>omega
 have hw2:IntKind.wrap .i64 ((f.Instruments.length:Int)-1)=(f.Instruments.length:Int)-1:=by rw [w64]<;>omega
 simp only [hw,hw2]
 rw [X1 _ _ _ (by simp),X1 _ _ _ (by simp),X1 _ _ _ (by simp),X1 _ _ _ (by simp),X1 _ _ _ (by simp)]
 simp only [Option.bind_some]
 cases ho:X3 0 ((f.Instruments.length:Int)-1) [x.Instrument]
 ·simp at ho
  have hj:x.Instrument.toNat<f.Instruments.length:=by omega
  have e1:decide (0≤x.Instrument)=true:=by simp;omega
  have e2:decide (x.Instrument<((4:Nat):Int))=true:=by simp;omega
  have e3:Nat.blt x.Instrument.toNat 4=true:=by rw [Tr.blt_dec];simp;omega
  have hkk:=hk _ hj
  have hio:XX f x.Instrument=f.Instruments[x.Instrument.toNat]:=X0 _ _ _ hj
  rw [hio]
  have e2':decide (x.Instrument<(4:Int))=true:=by simp;omega
  simp only [cond_false,Bool.false_eq_true,if_false,e1,e2,e2',e3,Bool.and_self,cond_true]
  cases hL:f.Instruments[x.Instrument.toNat].Lead
  ·rw [hL] at hkk
   simp only [Bool.false_eq_true,if_false] at hkk
   simp only [hkk,show Nat.beq 1 0=false from rfl,show Nat.beq 1 1=true from rfl,cond_false,cond_true,Bool.false_eq_true,if_false]
   cases hmk:X3 0 ((f.Chart.Marks.length:Int)-1) [x.Mark]
   ·simp at hmk
    simp only [cond_false,Bool.false_eq_true,if_false]
    rw [X7B hg x.Mark (by omega) (by omega)]
    simp only [Option.bind_some]
    cases X2w f x.Mark
    ·simp
    ·cases X3 0 31 [x.Shown]
     ·by_cases h5:x.Ground=0<;>simp [h5,X1n]
     ·simp
   ·simp
  ·rw [hL] at hkk
   simp only [if_true] at hkk
   simp only [hkk,show Nat.beq 2 0=false from rfl,show Nat.beq 2 1=false from rfl,show Nat.beq 2 (1+1)=true from rfl,cond_false,cond_true,if_true]
   cases X3 0 1000 [x.Shown]
   ·cases X3 0 4 [x.Ground]
    ·by_cases h5:x.Mark=0<;>simp [h5,X1n]
    ·simp
   ·simp
 ·simp
theorem X7b {f:ZJ} (hg:X1L f) (x:Zn):X4Z f x=some (WM f x):=by
 rw [X65];unfold X2j WM
 have hm:=hg.marks
 have hi:=hg.inst
 have hw:IntKind.wrap .i64 ((f.Chart.Marks.length:Int)-1)=(f.Chart.Marks.length:Int)-1:=by rw [w64]<;>omega
 have hw2:IntKind.wrap .i64 ((f.Instruments.length:Int)-1)=(f.Instruments.length:Int)-1:=by rw [w64]<;>omega
 simp only [hw,hw2]
 rw [Xy,Xy,Xy,Xy,Xy,X1m,X1m,X1m,X1m,X1m]
 simp only [Option.bind_some,Bool.not_not]
 cases ho:X3 0 ((f.Instruments.length:Int)-1) [x.Instrument]
 ·simp at ho
  have hj:x.Instrument.toNat<f.Instruments.length:=by omega
  have e1:decide (0≤x.Instrument)=true:=by simp;omega
  have e2:decide (x.Instrument<(f.Instruments.length:Int))=true:=by simp;omega
  have hio:XX f x.Instrument=f.Instruments[x.Instrument.toNat]:=X0 _ _ _ hj
  rw [hio]
  simp only [cond_false,Bool.false_eq_true,if_false,e1,e2,Bool.and_self,cond_true,X0 _ _ _ hj]
  cases hL:f.Instruments[x.Instrument.toNat].Lead
  ·simp only [cond_false,Bool.false_eq_true,if_false]
   cases hmk:X3 0 ((f.Chart.Marks.length:Int)-1) [x.Mark]
   ·simp at hmk
    have hj2:x.Mark.toNat<f.Chart.Marks.length:=by omega
    have e3:decide (0≤x.Mark)=true:=by simp;omega
    have e4:decide (x.Mark<(f.Chart.Marks.length:Int))=true:=by simp;omega
    have hp:=(hg.mark _ (List.getElem_mem hj2)).2
    simp only [cond_false,Bool.false_eq_true,if_false,e3,e4,Bool.and_self,cond_true,X0 _ _ _ hj2]
    rw [X4W _ _ (by omega)]
    unfold X2w Z8y
    rw [X0 _ _ _ hj2]
    simp only [Option.bind_some]
    by_cases h0:X3Y f.Chart.Marks[x.Mark.toNat] f.Day=0
    ·simp [h0]
    ·simp only [X4p h0,X1n h0,cond_false,Bool.true_eq_false,if_false]
     cases X3 0 31 [x.Shown]
     ·by_cases h5:x.Ground=0<;>simp [h5,X1n]
     ·simp
   ·simp
  ·simp only [cond_true,if_true]
   cases X3 0 1000 [x.Shown]
   ·cases X3 0 4 [x.Ground]
    ·by_cases h5:x.Mark=0<;>simp [h5,X1n]
    ·simp
   ·simp
 ·simp
def WI (f:ZJ):Nat→List Zn→Int×Int
 | _,[]=>(0,0)
 | i,x::l=>if WM f x=0 then WI f (i+1) l else ((i:Int),WM f x)
def X2p (f:ZJ) (l:List Zn):Int×Int:=if (X36 f).2.2≠0 then (0,(X36 f).2.2) else if 8<l.length then (0,3) else WI f 0 l
theorem X5R (f:ZJ) (l:List Zn):X2u f l=some (X2p f l):=by
 rw [X42];unfold W0 X2p
 rw [X7a]
 simp only [Option.bind_some]
 by_cases h:(X36 f).2.2=0
 ·have hg:=X7m h
  simp only [h,beq_self_eq_true,cond_true,bne_self_eq_false,cond_false,ne_eq,not_true,if_false]
  by_cases h8:8<l.length
  ·have:decide ((l.length:Int)>8)=true:=by simp;omega
   rw [this];simp [h8]
  ·have:decide ((l.length:Int)>8)=false:=by simp;omega
   rw [this]
   simp only [cond_false,h8,if_false]
   exact X6 (Xi l f) _ l.length (fun i (_:Unit)=>(i:Int)) (fun _ _=>True) (fun i _=>some (WI f i (l.drop i)))
    (by
     intro b _ R
     simp [Xi,Xp,WI])
    (by
     intro i b hi _ R hR
     have hR':=hR () trivial
     simp only [Xi,Xp]
     rw [List.drop_eq_getElem_cons hi]
     have hw:=wS i (by omega)
     simp only [Int.toNat_natCast,X0 _ _ _ hi,hw,WI]
     rw [X7b hg]
     have h1:decide ((i:Int)<↑l.length)=true:=by simp [hi]
     have h2:=z0S i
     simp only [h1,h2,Bool.and_self,cond_true,Option.bind_some]
     by_cases he:WM f l[i]=0
     ·simp only [he,bne_self_eq_false,cond_false,Option.bind_some,Sum.elim_inl,if_true]
      exact hR'
     ·simp [he,X1n he]) 0 () (by omega) trivial
 ·simp [h,X1n h,X4p h]
theorem X8U (f:ZJ) (hi:f.Instruments.length≤4):∃ kit,X3a f.Instruments (↑f.Instruments.length) (0,fun _=>0)=some kit∧Kit f kit:=by
 have key:∀ j i (b:Nat→Nat),f.Instruments.length-i=j→i≤f.Instruments.length→(∀ q,(h:q<f.Instruments.length)→q<i→b q=if f.Instruments[q].Lead then 2 else 1) →
   ∃ kit,Z8S (Wz f.Instruments (↑f.Instruments.length)) ((i:Int),b)=some kit∧Kit f kit:=fun j=>by
  induction j with
  | zero =>
   intro i b hj hil hb
   have:i=f.Instruments.length:=by omega
   subst this
   refine ⟨b,?_,fun q hq=>hb q hq hq⟩
   rw [←X2x (Z8S _ _),X45]
   simp [Wz,WR]
  | succ j ih =>
   intro i b hj hil hb
   have hlt:i<f.Instruments.length:=by omega
   have hw:=wS i (by omega)
   have e1:decide ((i:Int)<↑f.Instruments.length)=true:=by simp [hlt]
   have e2:=z0S i
   have e3:decide ((i:Int)<((4:Nat):Int))=true:=by simp;omega
   have e3':decide ((i:Int)<(4:Int))=true:=by simp;omega
   have e4:Nat.blt i 4=true:=by rw [Tr.blt_dec];simp;omega
   obtain ⟨kit,h1,h2⟩:=ih (i+1) (fun q=>if q=i then (if f.Instruments[i].Lead then 2 else 1) else b q) (by omega) (by omega) (fun q hq hq2=>by
    by_cases e:q=i
    ·subst e;simp
    ·simp only [e,if_false];exact hb q hq (by omega))
   refine ⟨kit,?_,h2⟩
   rw [←X2x (Z8S _ _),X45]
   simp only [Wz,WR,Int.toNat_natCast,X0 _ _ _ hlt,hw,e1,e2,e3,e3',e4,Bool.and_self,cond_true]
   have hfun:(fun j=>bif Nat.beq j i then 1+1 else bif Nat.beq j i then 1 else b j)=fun q=>if q=i then 2 else b q:=by
    funext q;rw [Tr.beq_dec];by_cases e:q=i<;>simp [e]
   have hfun2:(fun j=>bif Nat.beq j i then 1 else b j)=fun q=>if q=i then 1 else b q:=by
    funext q;rw [Tr.beq_dec];by_cases e:q=i<;>simp [e]
   rw [hfun,hfun2]
   cases hL:f.Instruments[i].Lead
   ·rw [hL] at h1
    simp only [Bool.false_eq_true,if_false] at h1
    simp only [cond_false,Option.bind_some,Sum.elim_inl]
    rw [X2x];exact h1
   ·rw [hL] at h1
    simp only [if_true] at h1
    simp only [cond_true,Option.bind_some,Sum.elim_inl]
    rw [X2x];exact h1
 exact key _ 0 _ rfl (by omega) (fun q _ h=>by omega)
theorem X8M {f:ZJ} (hg:X1L f) (l:List Zn) (h8:l.length≤8) {kit:Nat→Nat} (hk:Kit f kit) {γ:Type} (k:_→Option γ) :
  Option.bind (X3b l (↑l.length) (0,f,l,kit,[])) k=if (WI f 0 l).2=0 then k (.inr (f,l,kit,[])) else k (.inl ((WI f 0 l).2,(WI f 0 l).1,f,l,kit,l.getD (WI f 0 l).1.toNat ⟨0,0,0,0⟩,l.getD (WI f 0 l).1.toNat ⟨0,0,0,0⟩,[])):=by
 refine (X6 (WA l (↑l.length)) k l.length (fun i (_:Unit)=>((i:Int),f,l,kit,[])) (fun _ _=>True) (fun i _=>if (WI f i (l.drop i)).2=0 then k (.inr (f,l,kit,[])) else k (.inl ((WI f i (l.drop i)).2,(WI f i (l.drop i)).1,f,l,kit,l.getD (WI f i (l.drop i)).1.toNat ⟨0,0,0,0⟩,l.getD (WI f i (l.drop i)).1.toNat ⟨0,0,0,0⟩,[])))
  (by
   intro b _ R
   simp [WA,WS,WI])
  (by
   intro i b hi _ R hR
   have hR':=hR () trivial
   simp only [WA,WS]
   rw [List.drop_eq_getElem_cons hi]
   have hw:=wS i (by omega)
   simp only [Int.toNat_natCast,X0 _ _ _ hi,hw,WI]
   rw [X8O hg _ _ hk]
   have h1:decide ((i:Int)<↑l.length)=true:=by simp [hi]
   have h2:=z0S i
   simp only [h1,h2,Bool.and_self,cond_true,Option.bind_some]
   by_cases he:WM f l[i]=0
   ·simp only [he,bne_self_eq_false,cond_false,Option.bind_some,Sum.elim_inl,if_true]
    exact hR'
   ·simp only [X1n he,cond_true,Option.bind_some,Sum.elim_inr,if_neg he]
    rw [show ((i:Int)).toNat=i from rfl,X0 _ _ _ hi]) 0 () (by omega) trivial).trans (by simp)
theorem X8I (f:ZJ) (l:List Zn):((X36 f).2.2≠0∨8<l.length)∧X2K (l,f)=some (.inl (X2p f l).2)∧(X2p f l).2≠0 ∨
  ∃ kit,X1L f∧l.length≤8∧Kit f kit∧X2K (l,f)=some (.inr ((X2p f l).2,f,l,kit,[])):=by
 rw [X5A];unfold X1V
 rw [X5X];unfold X2g
 rw [X7E]
 unfold X2p
 simp only [Option.bind_some]
 by_cases h:(X36 f).2.2=0
 ·have hg:=X7m h
  simp only [h,bne_self_eq_false,cond_false,ne_eq,not_true,if_false]
  by_cases h8:8<l.length
  ·have:decide ((l.length:Int)>8)=true:=by simp;omega
   rw [this];simp [h8]
  ·have:decide ((l.length:Int)>8)=false:=by simp;omega
   rw [this]
   simp only [cond_false,h8,if_false]
   obtain ⟨kit,hk1,hk2⟩:=X8U f hg.inst.2
   refine .inr ⟨kit,hg,by omega,hk2,?_⟩
   rw [hk1,Option.bind_some]
   rw [X8M hg l (by omega) hk2]
   by_cases he:(WI f 0 l).2=0<;>simp [he]
 ·left
  simp [h,X1n h]
end Nore
open Go Go.Ab
namespace Nore
theorem X6d {β σ ω γ:Type} (st:σ→Option (σ⊕ω)) (k:ω→Option γ) (n:Nat) (emb:Nat→β→σ) (P:Nat→β→Prop) (Q:Nat→β→Option γ→Prop)
  (hd:∀ b,P n b→∀ R:σ→Option γ,Q n b (Option.bind (st (emb n b)) (Sum.elim R k)))
  (hn:∀ i b,i<n→P i b→∀ R:σ→Option γ,(∀ b',P (i+1) b'→Q (i+1) b' (R (emb (i+1) b')))→Q i b (Option.bind (st (emb i b)) (Sum.elim R k))) :
  ∀ i b,i≤n→P i b→Q i b (Option.bind (Z8S st (emb i b)) k):=by
 intro i b hi hP
 induction hj:n-i generalizing i b with
 | zero =>
  have:i=n:=by omega
  subst this
  rw [X45];exact hd b hP _
 | succ j ih =>
  rw [X45]
  exact hn i b (by omega) hP _ fun b' hb'=>ih (i+1) b' (by omega) hb' (by omega)
instance decPoint:DecidableEq Zu:=fun a b=>decidable_of_iff (a.X=b.X∧a.Y=b.Y) ⟨fun h=>Zu.ext h.1 h.2,fun h=>by subst h;exact ⟨rfl,rfl⟩⟩
def X4F (v:Zu):Int×Zu :=
 if 0≤v.X∧0<v.Y then (0,v) else if 0<v.X∧v.Y≤0 then (8,⟨-v.Y,v.X⟩) else if v.X≤0∧v.Y<0 then (16,⟨-v.X,-v.Y⟩) else (24,⟨v.Y,-v.X⟩)
def X7:List Zu:=[⟨0,1000⟩,⟨195,981⟩,⟨383,924⟩,⟨556,831⟩,⟨707,707⟩,⟨831,556⟩,⟨924,383⟩,⟨981,195⟩]
def X6q (v:Zu) (l:List Zu):Nat:=l.countP fun q=>decide (q.X*v.Y-q.Y*v.X≤0)
def X4E (v:Zu):Int:=(X4F v).1+(X6q (X4F v).2 X7:Nat)-1
theorem X8C {v:Zu} (hb : -60000≤v.X∧v.X≤60000 ∧ -60000≤v.Y∧v.Y≤60000) (h0:¬ (v.X=0∧v.Y=0)):0≤(X4F v).1∧(X4F v).1≤24∧0≤(X4F v).2.X∧(X4F v).2.X≤60000∧0<(X4F v).2.Y∧(X4F v).2.Y≤60000:=by
 unfold X4F
 split
 ·simp only;omega
 ·split
  ·simp only;omega
  ·split<;>simp only<;>omega
theorem X7Z {γ:Type} (v:Zu) (hb : -60000≤v.X∧v.X≤60000 ∧ -60000≤v.Y∧v.Y≤60000) (h0:¬ (v.X=0∧v.Y=0)) (k:Int×Zu→Option γ) :
  Option.bind (X1O (0,v)) k=k (X4F v):=by
 obtain ⟨x,y⟩:=v
 simp only at hb h0
 have stop:∀ (n:Int) (x y:Int),0≤x→0<y→Option.bind (Z8S Xc (n,⟨x,y⟩)) k=k (n,⟨x,y⟩):=fun n x y hx hy=>by
  rw [X45]
  have e1:decide (x<0)=false:=by simp;omega
  have e2:decide (y≤0)=false:=by simp;omega
  simp only [Xc,XA,e1,e2,cond_false,Option.bind_some,Sum.elim_inr]
 have go:∀ (n:Int) (x y:Int),0≤n→n≤24 → -60000≤x→x≤60000 → -60000≤y→y≤60000→(x<0∨y≤0)→Option.bind (Z8S Xc (n,⟨x,y⟩)) k=Option.bind (Z8S Xc (n+8,⟨-y,x⟩)) k:=fun n x y h1 h2 h3 h4 h5 h6 h7=>by
  rw [X45]
  have w1:IntKind.wrap .i64 (n+8)=n+8:=by rw [w64]<;>omega
  have w2:IntKind.wrap .i64 (0-y) = -y:=by rw [w64]<;>omega
  by_cases e1:x<0
  ·simp only [Xc,XA,e1,decide_true,cond_true,Option.bind_some,Sum.elim_inl,w1,w2]
  ·have e2:y≤0:=by omega
   simp only [Xc,XA,e1,e2,decide_true,decide_false,cond_true,cond_false,Option.bind_some,Sum.elim_inl,w1,w2]
 unfold X1O X4F
 simp only
 by_cases c1:0≤x∧0<y
 ·rw [if_pos c1];exact stop _ _ _ c1.1 c1.2
 ·rw [if_neg c1]
  by_cases c2:0<x∧y≤0
  ·rw [if_pos c2,go 0 x y (by omega) (by omega) (by omega) (by omega) (by omega) (by omega) (by omega)]
   exact stop _ _ _ (by omega) (by omega)
  ·rw [if_neg c2]
   by_cases c3:x≤0∧y<0
   ·rw [if_pos c3,go 0 x y (by omega) (by omega) (by omega) (by omega) (by omega) (by omega) (by omega),go _ _ _ (by omega) (by omega) (by omega) (by omega) (by omega) (by omega) (by omega)]
    exact stop _ _ _ (by omega) (by omega)
   ·rw [if_neg c3,go 0 x y (by omega) (by omega) (by omega) (by omega) (by omega) (by omega) (by omega),go _ _ _ (by omega) (by omega) (by omega) (by omega) (by omega) (by omega) (by omega),go _ _ _ (by omega) (by omega) (by omega) (by omega) (by omega) (by omega) (by omega)]
    rw [show (- - y:Int)=y by omega]
    exact stop _ _ _ (by omega) (by omega)
theorem X80 {γ:Type} (q:Nat→Zu) (hq:∀ i,(h:i<8)→q i=X7[i]) (v:Zu) (hb:0≤v.X∧v.X≤60000∧0≤v.Y∧v.Y≤60000) (n:Int) (hn:0≤n∧n≤24) (k:Int→Option γ) :
  Option.bind (X2R q v (n,0)) k=k (n+(X6q v X7:Nat)):=by
 refine (X6 (W5 q v) k 8 (fun i (b:Int)=>(b,(i:Int))) (fun i b=>0≤b∧b≤24+i) (fun i b=>k (b+(X6q v (X7.drop i):Nat))) ?_ ?_ 0 n (by omega) (by omega)).trans (by simp)
 ·intro b _ R
  simp [W5,Wj,X6q,X7]
 ·intro i b hi hP R hR
  simp only [W5,Wj]
  rw [List.drop_eq_getElem_cons (show i<X7.length from hi)]
  have hw:=wS i (by omega)
  have hwb:IntKind.wrap .i64 (b+1)=b+1:=by rw [w64]<;>omega
  have e1:decide ((i:Int)<8)=true:=by simp;omega
  have e2:=z0S i
  have e3:decide ((i:Int)<((8:Nat):Int))=true:=by simp;omega
  have hqb:0≤(X7[i]'hi).X∧(X7[i]'hi).X≤1000∧0≤(X7[i]'hi).Y∧(X7[i]'hi).Y≤1000:=by
   have:i=0∨i=1∨i=2∨i=3∨i=4∨i=5∨i=6∨i=7:=by omega
   rcases this with rfl|rfl|rfl|rfl|rfl|rfl|rfl|rfl<;>simp [X7]
  have b1:=X52 (a:=(X7[i]'hi).X) (b:=v.Y) 1000 60000 (by omega) (by omega) (by omega) (by omega)
  have b2:=X52 (a:=(X7[i]'hi).Y) (b:=v.X) 1000 60000 (by omega) (by omega) (by omega) (by omega)
  simp only [Int.toNat_natCast,hq i hi,hw,hwb]
  rw [w64 (x:=(X7[i]'hi).X*v.Y) (by omega) (by omega),w64 (x:=(X7[i]'hi).Y*v.X) (by omega) (by omega),w64 (x:=(X7[i]'hi).X*v.Y-_) (by omega) (by omega)]
  simp only [e1,e2,e3,Bool.and_self,cond_true]
  unfold X6q at hR ⊢
  generalize X7[i]'hi=Q at *
  by_cases h:Q.X*v.Y-Q.Y*v.X≤0
  ·rw [List.countP_cons_of_pos (by simpa using h)]
   simp only [h,decide_true,cond_true,Option.bind_some,Sum.elim_inl]
   rw [hR (b+1) (by omega)]
   congr 1
   push_cast
   omega
  ·rw [List.countP_cons_of_neg (by simpa using h)]
   simp only [h,decide_false,cond_false,Option.bind_some,Sum.elim_inl]
   exact hR b (by omega)
theorem X6M (v:Zu) (hb : -60000≤v.X∧v.X≤60000 ∧ -60000≤v.Y∧v.Y≤60000) (h0:¬ (v.X=0∧v.Y=0)):X4i v=some (X4E v):=by
 rw [X5y];unfold X1U
 have hq:=X8C hb h0
 rw [X7Z v hb h0,X80 _ (fun i hi=>by
   have:i=0∨i=1∨i=2∨i=3∨i=4∨i=5∨i=6∨i=7:=by omega
   rcases this with rfl|rfl|rfl|rfl|rfl|rfl|rfl|rfl<;>rfl) _ (by omega) _ (by omega)]
 have hc:X6q (X4F v).2 X7≤8:=List.countP_le_length (l:=X7)
 unfold X4E
 rw [w64 (by omega) (by omega)]
theorem X8g {v:Zu} (hb : -60000≤v.X∧v.X≤60000 ∧ -60000≤v.Y∧v.Y≤60000) (h0:¬ (v.X=0∧v.Y=0)):0≤X4E v∧X4E v≤31:=by
 have hq:=X8C hb h0
 have hc:X6q (X4F v).2 X7≤8:=List.countP_le_length (l:=X7)
 have h1:1≤X6q (X4F v).2 X7:=by
  unfold X6q X7
  rw [List.countP_cons_of_pos (by simp;omega)]
  omega
 unfold X4E
 omega
def X74 (f:ZJ) (mark:Int) (p:Zu):Int×Int :=
 if X2w f mark=false then (0,9) else if X3H 30000 p then (0,7) else if (Z8y f mark).At=p then (0,8) else (X4E (Xs (Z8y f mark).At p),0)
def X1M (f:ZJ) (mark:Int) (p:Zu):Int:=if (X74 f mark p).2≠0 then -1 else (X74 f mark p).1
theorem X7T {f:ZJ} (hg:X1L f) {mark:Int} (h0:0≤mark) (h1:mark<f.Chart.Marks.length):Bd 30000 (Z8y f mark).At:=by
 have hj:mark.toNat<f.Chart.Marks.length:=by omega
 have:=(hg.mark _ (List.getElem_mem hj)).1
 rw [X6x] at this
 unfold Z8y
 rw [X0 _ _ _ hj];exact this
theorem X7f {f:ZJ} (hg:X1L f) (mark:Int) (h0:0≤mark) (h1:mark<f.Chart.Marks.length) (p:Zu):X5k f.Chart f.Day mark p=some (X74 f mark p):=by
 rw [X6f];unfold X2y X74
 rw [X4N];unfold X19
 rw [X58 hg mark h0 h1]
 have hb:=X7T hg h0 h1
 unfold X2w Z8y at *
 generalize hM:f.Chart.Marks.getD mark.toNat ⟨ByteArray.empty,⟨0,0⟩,[]⟩=M at *
 simp only [Option.bind_some,beq_self_eq_true,cond_true]
 by_cases hp:X3Y M f.Day=0
 ·simp [hp]
 ·simp only [X4p hp,cond_false,Option.bind_some,bne_self_eq_false,X1n hp,Bool.true_eq_false,if_false]
  rw [X5l _ (by omega) _ (by simp)]
  simp only [Option.bind_some,List.any_cons,List.any_nil,Bool.or_false]
  cases hf:X3H 30000 p
  ·rw [X6x] at hf
   unfold Bd at hb hf
   simp only [cond_false,Bool.false_eq_true,if_false,Bool.and_true]
   by_cases he:M.At=p
   ·subst he;simp
   ·have:(M.At.X==p.X&&M.At.Y==p.Y)=false:=by
     cases hc:(M.At.X==p.X&&M.At.Y==p.Y)
     ·rfl
     ·exfalso;simp at hc;exact he (Zu.ext hc.1 hc.2)
    rw [this,if_neg he]
    simp only [cond_false]
    rw [w64 (x:=M.At.X-p.X) (by omega) (by omega),w64 (x:=M.At.Y-p.Y) (by omega) (by omega)]
    have h00:¬ (M.At.X-p.X=0∧M.At.Y-p.Y=0):=fun q=>he (Zu.ext (by omega) (by omega))
    rw [X6M _ (by simp only;omega) h00]
    rfl
  ·simp
theorem X7Y {f:ZJ} (hg:X1L f) {mark:Int} (h0:0≤mark) (h1:mark<f.Chart.Marks.length) (p:Zu) : -1≤X1M f mark p∧X1M f mark p≤31:=by
 have hb:=X7T hg h0 h1
 unfold X1M X74
 by_cases h:X2w f mark=false
 ·simp [h]
 ·rw [if_neg h]
  by_cases h3:X3H 30000 p=true
  ·simp [h3]
  ·rw [if_neg h3]
   by_cases h4:(Z8y f mark).At=p
   ·simp [h4]
   ·rw [if_neg h4]
    simp only [Bool.not_eq_true] at h3
    rw [X6x] at h3
    unfold Bd at hb h3
    have:=X8g (v:=Xs (Z8y f mark).At p) (by unfold Xs;simp only;omega) (fun q=>h4 (by unfold Xs at q;simp only at q;exact Zu.ext (by omega) (by omega)))
    simp only [ne_eq,not_true,if_false]
    omega
theorem X5t (a b:Zh):Zh.eqb a b=true↔a=b:=by
 obtain ⟨m,⟨x,y⟩⟩:=a
 obtain ⟨m',⟨x',y'⟩⟩:=b
 simp [Zh.eqb]
theorem X6Z {v:Int} (s k:Zh):∀ m:List (Zh×Int),Z8z Zh.eqb s (Zgh Zh.eqb k v m)=bif Zh.eqb s k then some v else Z8z Zh.eqb s m
 | []=>by
  simp only [Zgh,Z8z]
 | (a,b)::m=>by
  have ih:=X6Z (v:=v) s k m
  simp only [Zgh]
  have sym:∀ x y,Zh.eqb x y=Zh.eqb y x:=fun x y=>by
   cases h:Zh.eqb y x with
   | true=>rw [(X5t _ _).1 h,(X5t x x).2 rfl]
   | false=>cases h2:Zh.eqb x y with
    | false=>rfl
    | true=>rw [(X5t _ _).1 h2,(X5t y y).2 rfl] at h;cases h
  cases e:Zh.eqb a k with
  | true =>
   have:=(X5t _ _).1 e
   subst this
   simp only [e,cond_true,Z8z]
   cases Zh.eqb s a<;>rfl
  | false =>
   have e6:Zh.eqb k a=false:=by rw [sym];exact e
   simp only [e,e6,cond_false,Z8z,ih]
   cases h:Zh.eqb s k with
   | true =>
    have:=(X5t _ _).1 h
    subst this
    simp [e,e6]
   | false=>rfl
def XW (f:ZJ) (m:List (Zh×Int)):Prop:=∀ (mark:Int) p n,0≤mark→mark<f.Chart.Marks.length→Z8z Zh.eqb ⟨mark,p⟩ m=some n→n=X1M f mark p
theorem X8m (f:ZJ):XW f []:=fun _ _ _ _ _ h=>by cases h
theorem X7C {f:ZJ} (hg:X1L f) {mark:Int} (h0:0≤mark) (h1:mark<f.Chart.Marks.length) (p:Zu) (l:List Zn) (kit:Nat→Nat) {m:List (Zh×Int)} (hm:XW f m) :
  ∃ m',XW f m'∧XS (mark,p,f,l,kit,m)=some (X1M f mark p,f,l,kit,m'):=by
 rw [X3w];unfold XF
 cases hf:Z8z Zh.eqb ⟨mark,p⟩ m with
 | some n=>exact ⟨m,hm,by simp only [hf,Option.isSome_some,Bool.not_true,cond_false,Option.getD_some];rw [hm _ _ _ h0 h1 hf]⟩
 | none =>
  simp only [hf,Option.isSome_none,Bool.not_false,cond_true]
  rw [X7f hg mark h0 h1]
  have put:∀ v,v=X1M f mark p→XW f (Zgh Zh.eqb ⟨mark,p⟩ v m):=fun v hv mk q n k0 k1 hq=>by
   rw [X6Z] at hq
   cases e:Zh.eqb ⟨mk,q⟩ ⟨mark,p⟩ with
   | true =>
    rw [e] at hq
    cases (X5t _ _).1 e;cases hq;exact hv
   | false =>
    rw [e] at hq
    exact hm _ _ _ k0 k1 hq
  simp only [Option.bind_some]
  by_cases he:(X74 f mark p).2=0
  ·have hs:X1M f mark p=(X74 f mark p).1:=by unfold X1M;rw [if_neg (by simp [he])]
   refine ⟨_,put _ hs.symm,?_⟩
   simp only [he,bne_self_eq_false,cond_false,hs]
  ·have hs:X1M f mark p = -1:=by unfold X1M;rw [if_pos he]
   refine ⟨_,put _ hs.symm,?_⟩
   simp only [X1n he,cond_true,hs]
def X7i (shown Z5R:Int):Int:=if (shown-Z5R+32) % 32>16 then (shown-Z5R+32) % 32-32 else (shown-Z5R+32) % 32
def X4a (a:Zt) (p:Zu):Bool := !X3 a.X.Lo a.X.Hi [p.X] && !X3 a.Y.Lo a.Y.Hi [p.Y]
def X6p (f:ZJ) (p:Zu):Option Zt:=f.Areas.find? fun a=>X4a a p
def X2o (f:ZJ) (p:Zu) (x:Zn):ZE×Bool :=
 if (XX f x.Instrument).Lead then (match X6p f p with
  | none=>(⟨-20,20⟩,true)
  | some a=>(⟨x.Shown-a.Depth.Hi,x.Shown-a.Depth.Lo⟩,x.Ground==0||x.Ground==a.Ground))
 else (⟨X7i x.Shown (X1M f x.Mark p),X7i x.Shown (X1M f x.Mark p)⟩,decide (X1M f x.Mark p≥0))
theorem X5i {f:ZJ} {x:Zn} (h:WM f x=0):(0≤x.Instrument∧x.Instrument<f.Instruments.length)∧((XX f x.Instrument).Lead=true→0≤x.Shown∧x.Shown≤1000∧0≤x.Ground∧x.Ground≤4∧x.Mark=0) ∧
  ((XX f x.Instrument).Lead=false→0≤x.Mark∧x.Mark<f.Chart.Marks.length∧X2w f x.Mark=true∧0≤x.Shown∧x.Shown≤31∧x.Ground=0):=by
 unfold WM at h
 cases h1:X3 0 ((f.Instruments.length:Int)-1) [x.Instrument]
 ·rw [h1] at h
  simp only [Bool.false_eq_true,if_false] at h
  simp at h1
  refine ⟨by omega,fun hL => ?_,fun hL => ?_⟩
  ·rw [if_pos hL] at h
   cases h2:X3 0 1000 [x.Shown]
   ·cases h3:X3 0 4 [x.Ground]
    ·rw [h2,h3] at h
     simp at h h2 h3
     omega
    ·rw [h2,h3] at h;simp at h
   ·rw [h2] at h;simp at h
  ·rw [if_neg (by simp [hL])] at h
   cases h2:X3 0 ((f.Chart.Marks.length:Int)-1) [x.Mark]
   ·rw [h2] at h
    cases h3:X2w f x.Mark
    ·rw [h3] at h;simp at h
    ·cases h4:X3 0 31 [x.Shown]
     ·rw [h3,h4] at h
      simp at h h2 h4
      exact ⟨by omega,by omega,rfl,by omega,by omega,by omega⟩
     ·rw [h3,h4] at h;simp at h
   ·rw [h2] at h;simp at h
 ·rw [h1] at h;simp at h
theorem X88 {f:ZJ} (hg:X1L f) {x:Zn} (hx:WM f x=0) (hL:(XX f x.Instrument).Lead=false) (p:Zu) (l:List Zn) (kit:Nat→Nat) {m:List (Zh×Int)} (hm:XW f m) :
  ∃ m',XW f m'∧Xr (p,x,f,l,kit,m)=some ((X2o f p x).1,(X2o f p x).2,f,l,kit,m'):=by
 obtain ⟨h1,_,h3⟩:=X5i hx
 have h3:=h3 hL
 obtain ⟨m',hm',ht⟩:=X7C hg h3.1 h3.2.1 p l kit hm
 refine ⟨m',hm',?_⟩
 rw [X3y];unfold XG X2o X7i
 rw [ht,if_neg (by simp [hL])]
 have hs:=X7Y hg h3.1 h3.2.1 p
 generalize X1M f x.Mark p=s at *
 simp only [Option.bind_some]
 rw [w64 (x:=x.Shown-s) (by omega) (by omega),w64 (x:=x.Shown-s+32) (by omega) (by omega)]
 have ht:(x.Shown-s+32).tmod 32=(x.Shown-s+32) % 32:=Int.tmod_eq_emod_of_nonneg (by omega)
 rw [ht]
 by_cases hc:(x.Shown-s+32) % 32>16
 ·have hw:IntKind.wrap .i64 ((x.Shown-s+32) % 32-32)=(x.Shown-s+32) % 32-32:=by rw [w64]<;>omega
  simp only [hc,decide_true,cond_true,if_true,hw]
 ·simp only [hc,decide_false,cond_false,if_false]
theorem X8A {a:Zt} (h:X4L a=0):0≤a.Depth.Lo∧a.Depth.Lo≤a.Depth.Hi∧a.Depth.Hi≤1000∧a.X.Lo≤a.X.Hi∧a.Y.Lo≤a.Y.Hi∧1≤a.Ground∧a.Ground≤4:=by
 unfold X4L at h
 cases h1:(X3 (-30000) 30000 [a.X.Lo,a.X.Hi,a.Y.Lo,a.Y.Hi]||X3 0 1000 [a.Depth.Lo,a.Depth.Hi]||X3 1 4 [a.Ground])
 ·rw [h1] at h
  simp at h h1
  omega
 ·rw [h1] at h;simp at h
theorem X8V {f:ZJ} (hg:X1L f) {x:Zn} (hx:WM f x=0) (hL:(XX f x.Instrument).Lead=true) (p:Zu) (l:List Zn) (kit:Nat→Nat) (m:List (Zh×Int)) :
  W6 (p,x,f,l,kit,m)=some ((X2o f p x).1,(X2o f p x).2,f,l,kit,m):=by
 obtain ⟨h1,h2,_⟩:=X5i hx
 have h2:=h2 hL
 rw [X4c];unfold Wk X2o
 rw [if_pos hL]
 have ha:=hg.areas
 refine (X6 (Xm (↑f.Areas.length) f.Areas p) _ f.Areas.length (fun i (_:Unit)=>(i:Int)) (fun _ _=>True) (fun i _=>match (f.Areas.drop i).find? fun a=>X4a a p with
   | none=>some (⟨-20,20⟩,true,f,l,kit,m)
   | some a=>some (⟨x.Shown-a.Depth.Hi,x.Shown-a.Depth.Lo⟩,x.Ground==0||x.Ground==a.Ground,f,l,kit,m)) ?_ ?_ 0 () (by omega) trivial).trans ?_
 ·intro b _ R
  simp [Xm,Xx]
 ·intro i b hi _ R hR
  have hR':=hR () trivial
  have hab:=X8A (hg.area _ (List.getElem_mem hi))
  simp only [Xm,Xx]
  rw [List.drop_eq_getElem_cons hi,List.find?_cons]
  have hw:=wS i (by omega)
  simp only [Int.toNat_natCast,X0 _ _ _ hi,hw]
  rw [X1 _ _ _ (by simp),X1 _ _ _ (by simp)]
  have e1:decide ((i:Int)<↑f.Areas.length)=true:=by simp [hi]
  have e2:=z0S i
  have e3:decide ((i:Int)<0)=false:=by simp
  simp only [e1,e2,Bool.and_self,cond_true,Option.bind_some]
  have w1:IntKind.wrap .i64 (x.Shown-f.Areas[i].Depth.Hi)=x.Shown-f.Areas[i].Depth.Hi:=by rw [w64]<;>omega
  have w2:IntKind.wrap .i64 (x.Shown-f.Areas[i].Depth.Lo)=x.Shown-f.Areas[i].Depth.Lo:=by rw [w64]<;>omega
  cases o1:X3 f.Areas[i].X.Lo f.Areas[i].X.Hi [p.X]
  ·cases o2:X3 f.Areas[i].Y.Lo f.Areas[i].Y.Hi [p.Y]
   ·have:X4a f.Areas[i] p=true:=by unfold X4a;rw [o1,o2];rfl
    simp only [this,Bool.not_false,cond_true,Option.bind_some,Sum.elim_inr,Sum.elim_inl,e3,cond_false,e1,e2,Bool.and_self,Int.toNat_natCast,X0 _ _ _ hi,w1,w2]
    by_cases hG:x.Ground=0
    ·simp [hG]
    ·simp [X4p hG]
   ·have:X4a f.Areas[i] p=false:=by unfold X4a;rw [o1,o2];rfl
    simp only [this,Bool.not_false,Bool.not_true,cond_true,cond_false,Option.bind_some,Sum.elim_inl]
    exact hR'
  ·have:X4a f.Areas[i] p=false:=by unfold X4a;rw [o1];rfl
   simp only [this,Bool.not_true,cond_false,Option.bind_some,Sum.elim_inl]
   exact hR'
 ·simp only [List.drop_zero,X6p]
  cases f.Areas.find? fun a=>X4a a p<;>rfl
end Nore
open Go Go.Ab
namespace Nore
def X7D (x k:Int):Bool:=IntKind.wrap IntKind.i64 (↑(BitVec.toNat (BitVec.ofInt (IntKind.bits IntKind.i64) (Int.fdiv x (2 ^ min (Int.toNat k) (IntKind.bits IntKind.i64))) &&& BitVec.ofInt (IntKind.bits IntKind.i64) 1)):Int)==1
theorem X8F (k:Int):X7D 0 k=false:=by
 unfold X7D
 rw [show Int.fdiv 0 (2 ^ min (Int.toNat k) (IntKind.bits IntKind.i64))=0 from Int.zero_fdiv _]
 decide
def X3M (f:ZJ) (ib mb:Int) (x:Zn):Bool:=X7D ib x.Instrument||(!(XX f x.Instrument).Lead&&X7D mb x.Mark)
def X5m (n a:ZE):ZE:=⟨if a.Lo>n.Lo then a.Lo else n.Lo,if a.Hi<n.Hi then a.Hi else n.Hi⟩
def atL (f:ZJ) (p:Zu) (ib mb:Int):(Nat→ZE)→List Zn→(Nat→ZE)×Bool
 | s,[]=>(s,true)
 | s,x::l=>if X3M f ib mb x then atL f p ib mb s l else
  if (X2o f p x).2=false∨(X5m (X2o f p x).1 (s x.Instrument.toNat)).Lo>(X5m (X2o f p x).1 (s x.Instrument.toNat)).Hi then (s,false) else
  atL f p ib mb (fun j=>if j=x.Instrument.toNat then X5m (X2o f p x).1 (s x.Instrument.toNat) else s j) l
def X8 (f:ZJ) (i:Nat):ZE:=if h:i<f.Instruments.length then f.Instruments[i].Off else ⟨0,0⟩
def atN (f:ZJ) (l:List Zn) (p:Zu) (ib mb:Int):(Nat→ZE)×Bool:=atL f p ib mb (X8 f) l
theorem X8R {γ:Type} (f:ZJ) (hi4:f.Instruments.length≤4) (x0 x2:Int) (l:List Zn) (kit:Nat→Nat) (m:List (Zh×Int)) (p:Zu) (k:(Nat→ZE)→Option γ) :
  Option.bind (X28 (↑f.Instruments.length) x0 x2 f.Instruments f l kit m p (0,fun _=>⟨0,0⟩)) k=k (X8 f):=by
 refine (X6 (Xt (↑f.Instruments.length) x0 x2 f.Instruments f l kit m p) k f.Instruments.length (fun i (b:Nat→ZE)=>((i:Int),b)) (fun i b=>∀ j,b j=if j<i then X8 f j else ⟨0,0⟩) (fun _ _=>k (X8 f)) ?_ ?_ 0 _ (by omega) (fun j=>by simp))
 ·intro b hb R
  have:b=X8 f:=by
   funext j
   rw [hb]
   by_cases h:j<f.Instruments.length
   ·simp [h]
   ·simp [h,X8]
  simp [Xt,XB,this]
 ·intro i b hi hb R hR
  have hw:=wS i (by omega)
  have e1:decide ((i:Int)<↑f.Instruments.length)=true:=by simp [hi]
  have e2:=z0S i
  have e3:decide ((i:Int)<((4:Nat):Int))=true:=by simp;omega
  have e3':decide ((i:Int)<(4:Int))=true:=by simp;omega
  have e4:Nat.blt i 4=true:=by rw [Tr.blt_dec];simp;omega
  simp only [Xt,XB,Int.toNat_natCast,X0 _ _ _ hi,hw,e1,e2,e3,e3',e4,Bool.and_self,cond_true,Option.bind_some,Sum.elim_inl]
  refine hR _ fun j => ?_
  rw [Tr.beq_dec]
  by_cases e:j=i
  ·subst e;simp [X8,hi]
  ·simp only [e,decide_false,cond_false,hb j]
   by_cases h:j<i
   ·simp [h,show j<i+1 by omega]
   ·simp [h,show ¬ j<i+1 by omega]
theorem X8Q {f:ZJ} (hg:X1L f) {l:List Zn} (hl:∀ x∈l,WM f x=0) (hll:l.length≤8) {kit:Nat→Nat} (hk:Kit f kit) {m:List (Zh×Int)} (hm:XW f m) (p:Zu) (ib mb:Int) :
  ∃ m',XW f m'∧WJ (ib,p,mb,f,l,kit,m)=some ((atN f l p ib mb).1,(atN f l p ib mb).2,f,l,kit,m'):=by
 rw [X4x];unfold WP atN
 rw [X8R f hg.inst.2]
 have main:=X6d (Xu ib l mb (↑l.length) p) (fun o=>Sum.elim (fun (y:Bool×(Nat→ZE)×ZJ×List Zn×(Nat→Nat)×ZE×List (Zh×Int)×Zn)=>some (y.snd.fst,y.fst,y.snd.snd.fst,y.snd.snd.snd.fst,y.snd.snd.snd.snd.fst,y.snd.snd.snd.snd.snd.snd.fst)) (fun y=>Sum.elim (fun (y:Bool×(Nat→ZE)×ZJ×List Zn×(Nat→Nat)×ZE×List (Zh×Int)×Zn)=>some (y.snd.fst,y.fst,y.snd.snd.fst,y.snd.snd.snd.fst,y.snd.snd.snd.snd.fst,y.snd.snd.snd.snd.snd.snd.fst)) (fun (y:(Nat→ZE)×ZJ×List Zn×(Nat→Nat)×List (Zh×Int))=>some (y.fst,true,y.snd.fst,y.snd.snd.fst,y.snd.snd.snd.fst,y.snd.snd.snd.snd)) y) o) l.length
  (fun i (b:(Nat→ZE)×List (Zh×Int))=>((i:Int),b.1,f,l,kit,b.2)) (fun _ b=>XW f b.2) (fun i b r=>∃ m',XW f m'∧r=some ((atL f p ib mb b.1 (l.drop i)).1,(atL f p ib mb b.1 (l.drop i)).2,f,l,kit,m'))
  (by
   intro b hb R
   refine ⟨b.2,hb,?_⟩
   simp [Xu,XC,atL])
  (by
   intro i b hi hb R hR
   have hx:=hl _ (List.getElem_mem hi)
   obtain ⟨x,hxd⟩:∃ x,l[i]=x:=⟨_,rfl⟩
   rw [hxd] at hx
   have hgd:l.getD i ⟨0,0,0,0⟩=x:=(X0 _ _ _ hi).trans hxd
   obtain ⟨h1,h2,h3⟩:=X5i hx
   have hi4:=hg.inst.2
   have hw:=wS i (by omega)
   have e1:decide ((i:Int)<↑l.length)=true:=by simp [hi]
   have e2:=z0S i
   simp only [Xu,XC,Int.toNat_natCast,hgd,hw,e1,e2,Bool.and_self,cond_true]
   rw [List.drop_eq_getElem_cons hi,hxd]
   have hj:x.Instrument.toNat<f.Instruments.length:=by omega
   have i1:decide (0≤x.Instrument)=true:=by simp;omega
   have i2:decide (x.Instrument<((4:Nat):Int))=true:=by simp;omega
   have i2':decide (x.Instrument<(4:Int))=true:=by simp;omega
   have i3:Nat.blt x.Instrument.toNat 4=true:=by rw [Tr.blt_dec];simp;omega
   have i4:decide (x.Instrument<0)=false:=by simp;omega
   have hkk:=hk _ hj
   have hio:XX f x.Instrument=f.Instruments[x.Instrument.toNat]:=X0 _ _ _ hj
   have hcut:∀ (n a:ZE),(⟨bif decide (a.Lo>n.Lo) then a.Lo else n.Lo,bif decide (a.Hi<n.Hi) then a.Hi else n.Hi⟩:ZE)=X5m n a:=fun n a=>by
    unfold X5m
    by_cases c1:a.Lo>n.Lo<;>by_cases c2:a.Hi<n.Hi<;>simp [c1,c2]
   have hcut1:∀ (n a:ZE),(bif decide (a.Lo>n.Lo) then a.Lo else n.Lo)=(X5m n a).Lo:=fun n a=>by rw [←hcut]
   have hcut2:∀ (n a:ZE),(bif decide (a.Hi<n.Hi) then a.Hi else n.Hi)=(X5m n a).Hi:=fun n a=>by rw [←hcut]
   have hfun:∀ (c:ZE) (s:Nat→ZE),(fun j=>bif Nat.beq j x.Instrument.toNat then c else s j)=fun j=>if j=x.Instrument.toNat then c else s j:=fun c s=>by
    funext j;rw [Tr.beq_dec];by_cases e:j=x.Instrument.toNat<;>simp [e]
   simp only [i1,i2,i2',i3,i4,Bool.and_self,cond_true,cond_false,atL]
   rcases Bool.eq_false_or_eq_true (XX f x.Instrument).Lead with hL|hL
   rotate_left
   ·rw [←hio,hL] at hkk
    simp only [Bool.false_eq_true,if_false] at hkk
    have h3:=h3 hL
    have i5:decide (x.Mark<0)=false:=by simp;omega
    simp only [hkk,show Nat.beq 1 0=false from rfl,show Nat.beq 1 1=true from rfl,cond_false,cond_true,i5]
    have hib:(IntKind.wrap IntKind.i64 (↑(BitVec.toNat (BitVec.ofInt (IntKind.bits IntKind.i64) (Int.fdiv ib (2 ^ min (Int.toNat x.Instrument) (IntKind.bits IntKind.i64))) &&& BitVec.ofInt (IntKind.bits IntKind.i64) 1)):Int)==1)=X7D ib x.Instrument:=rfl
    have hmb:(IntKind.wrap IntKind.i64 (↑(BitVec.toNat (BitVec.ofInt (IntKind.bits IntKind.i64) (Int.fdiv mb (2 ^ min (Int.toNat x.Mark) (IntKind.bits IntKind.i64))) &&& BitVec.ofInt (IntKind.bits IntKind.i64) 1)):Int)==1)=X7D mb x.Mark:=rfl
    rw [hib,hmb]
    rcases Bool.eq_false_or_eq_true (X7D ib x.Instrument) with hb1|hb1
    rotate_left
    ·rcases Bool.eq_false_or_eq_true (X7D mb x.Mark) with hb2|hb2
     rotate_left
     ·have hsk:X3M f ib mb x=false:=by unfold X3M;rw [hL,hb1,hb2];rfl
      simp only [hb1,hb2,cond_false,hsk,Bool.false_eq_true,if_false]
      obtain ⟨m',hm',hc⟩:=X88 hg hx hL p l kit hb
      rw [hc]
      simp only [Option.bind_some,hcut,hcut1,hcut2,hfun]
      cases ho:(X2o f p x).2
      ·exact ⟨m',hm',by simp⟩
      ·by_cases hc:(X5m (X2o f p x).1 (b.1 x.Instrument.toNat)).Lo>(X5m (X2o f p x).1 (b.1 x.Instrument.toNat)).Hi
       ·exact ⟨m',hm',by simp [hc]⟩
       ·simp only [Bool.not_true,cond_false,hc,decide_false,Option.bind_some,Sum.elim_inl,Bool.true_eq_false,or_self,if_false]
        exact hR (_,m') hm'
     ·have hsk:X3M f ib mb x=true:=by unfold X3M;rw [hL,hb1,hb2];rfl
      simp only [hb1,hb2,cond_true,cond_false,Option.bind_some,Sum.elim_inl,hsk,if_true]
      exact hR b hb
    ·have hsk:X3M f ib mb x=true:=by unfold X3M;rw [hb1];rfl
     simp only [hb1,cond_true,Option.bind_some,Sum.elim_inl,hsk,if_true]
     exact hR b hb
   ·rw [←hio,hL] at hkk
    simp only [if_true] at hkk
    have h2:=h2 hL
    simp only [hkk,show Nat.beq 2 0=false from rfl,show Nat.beq 2 1=false from rfl,show Nat.beq 2 (1+1)=true from rfl,cond_false,cond_true]
    have hib:(IntKind.wrap IntKind.i64 (↑(BitVec.toNat (BitVec.ofInt (IntKind.bits IntKind.i64) (Int.fdiv ib (2 ^ min (Int.toNat x.Instrument) (IntKind.bits IntKind.i64))) &&& BitVec.ofInt (IntKind.bits IntKind.i64) 1)):Int)==1)=X7D ib x.Instrument:=rfl
    rw [hib]
    rcases Bool.eq_false_or_eq_true (X7D ib x.Instrument) with hb1|hb1
    rotate_left
    ·have hsk:X3M f ib mb x=false:=by unfold X3M;rw [hL,hb1];rfl
     simp only [hb1,cond_false,hsk,Bool.false_eq_true,if_false]
     rw [X8V hg hx hL p l kit]
     simp only [Option.bind_some,hcut,hcut1,hcut2,hfun]
     cases ho:(X2o f p x).2
     ·exact ⟨b.2,hb,by simp⟩
     ·by_cases hc:(X5m (X2o f p x).1 (b.1 x.Instrument.toNat)).Lo>(X5m (X2o f p x).1 (b.1 x.Instrument.toNat)).Hi
      ·exact ⟨b.2,hb,by simp [hc]⟩
      ·simp only [Bool.not_true,cond_false,hc,decide_false,Option.bind_some,Sum.elim_inl,Bool.true_eq_false,or_self,if_false]
       exact hR (_,b.2) hb
    ·have hsk:X3M f ib mb x=true:=by unfold X3M;rw [hb1];rfl
     simp only [hb1,cond_true,Option.bind_some,Sum.elim_inl,hsk,if_true]
     exact hR b hb)
 have:=main 0 (X8 f,m) (by omega) hm
 unfold X29
 simpa using this
end Nore
open Go Go.Ab
namespace Nore
def Xz (f:ZJ) (x y:Int):Nat→List Zu
 | 0=>[]
 | n+1=>⟨x*f.Step,y*f.Step⟩::Xz f x (y+1) n
def X5 (f:ZJ):Nat:=(2*f.Half+1).toNat
def XP (f:ZJ) (x:Int):Nat→List Zu
 | 0=>[]
 | n+1=>Xz f x (-f.Half) (X5 f)++XP f (x+1) n
def X3X (f:ZJ):List Zu:=XP f (-f.Half) (X5 f)
def X4 (f:ZJ) (l:List Zn):List Zu:=(X3X f).filter fun p=>(atN f l p 0 0).2
theorem X44 (f:ZJ) (x:Int):∀ (n:Nat) (y:Int),(Xz f x y n).length=n
 | 0,_=>rfl
 | n+1,y=>by simp [Xz,X44 f x n]
theorem X6Y (f:ZJ) (x:Int) (p:Zu):∀ (n:Nat) (y:Int),p∈Xz f x y n↔∃ j:Int,y≤j∧j<y+n∧p=⟨x*f.Step,j*f.Step⟩
 | 0,y=>by simp [Xz];intro j h1 h2;omega
 | n+1,y=>by
  simp only [Xz,List.mem_cons,X6Y f x p n]
  constructor
  ·rintro (h|⟨j,h1,h2,h3⟩)
   ·exact ⟨y,by omega,by push_cast;omega,h⟩
   ·exact ⟨j,by omega,by push_cast;omega,h3⟩
  ·rintro ⟨j,h1,h2,h3⟩
   by_cases e:j=y
   ·subst e;exact .inl h3
   ·exact .inr ⟨j,by omega,by push_cast at h2;omega,h3⟩
theorem X6C (f:ZJ) (p:Zu):∀ (n:Nat) (x:Int),p∈XP f x n↔∃ i j:Int,x≤i∧i<x+n ∧ -f.Half≤j∧j < -f.Half+X5 f∧p=⟨i*f.Step,j*f.Step⟩
 | 0,x=>by simp [XP];intro i h1 h2;omega
 | n+1,x=>by
  simp only [XP,List.mem_append,X6Y,X6C f p n]
  constructor
  ·rintro (⟨j,h1,h2,h3⟩|⟨i,j,h1,h2,h3,h4,h5⟩)
   ·exact ⟨x,j,by omega,by push_cast;omega,h1,h2,h3⟩
   ·exact ⟨i,j,by omega,by push_cast;omega,h3,h4,h5⟩
  ·rintro ⟨i,j,h1,h2,h3,h4,h5⟩
   by_cases e:i=x
   ·subst e;exact .inl ⟨j,h3,h4,h5⟩
   ·exact .inr ⟨i,j,by omega,by push_cast at h2;omega,h3,h4,h5⟩
theorem X8Y {f:ZJ} (hh:0≤f.Half) (p:Zu):p∈X3X f↔∃ i j:Int,-f.Half≤i∧i≤f.Half ∧ -f.Half≤j∧j≤f.Half∧p=⟨i*f.Step,j*f.Step⟩:=by
 unfold X3X
 rw [X6C]
 have:(X5 f:Int)=2*f.Half+1:=by unfold X5;omega
 constructor
 ·rintro ⟨i,j,h1,h2,h3,h4,h5⟩;exact ⟨i,j,by omega,by omega,by omega,by omega,h5⟩
 ·rintro ⟨i,j,h1,h2,h3,h4,h5⟩;exact ⟨i,j,by omega,by omega,by omega,by omega,h5⟩
theorem X8B {f:ZJ} (hg:X1L f) {p:Zu} (h:p∈X3X f):Bd 4000 p:=by
 obtain ⟨i,j,h1,h2,h3,h4,rfl⟩:=(X8Y hg.half.1 p).1 h
 have:=hg.half
 have:=hg.step
 have b1:=X52 (a:=i) (b:=f.Step) 8 500 (by omega) (by omega) (by omega) (by omega)
 have b2:=X52 (a:=j) (b:=f.Step) 8 500 (by omega) (by omega) (by omega) (by omega)
 unfold Bd;simp only;omega
structure X6v (f:ZJ) (l:List Zn):Prop where
 fix:X1L f
 len:l.length≤8
 each:∀ x∈l,WM f x=0
theorem X7L (f:ZJ):∀ (l:List Zn) (i:Nat),(WI f i l).2=0→∀ x∈l,WM f x=0
 | [],_,_,m,hm=>by cases hm
 | x::l,i,h,m,hm=>by
  simp only [WI] at h
  by_cases h0:WM f x=0
  ·simp only [h0,if_true] at h
   rcases List.mem_cons.1 hm with e|e
   ·subst e;exact h0
   ·exact X7L f l _ h m e
  ·simp only [h0,if_false] at h
theorem X6V {f:ZJ} {l:List Zn} (h:(X2p f l).2=0):X6v f l:=by
 unfold X2p at h
 by_cases h1:(X36 f).2.2=0
 ·simp only [h1,ne_eq,not_true,if_false] at h
  by_cases h8:8<l.length
  ·rw [if_pos h8] at h;simp at h
  ·rw [if_neg h8] at h
   exact ⟨X7m h1,by omega,X7L f l 0 h⟩
 ·rw [if_pos h1] at h;exact absurd h h1
theorem X7V {f:ZJ} {l:List Zn} (hg:X6v f l) {kit:Nat→Nat} (hk:Kit f kit) (x:Int) (hx : -8≤x∧x≤8) {m:List (Zh×Int)} (hm:XW f m) (acc:List Zu) (ha:acc.length≤1000000) {γ:Type} (k:_→Option γ) (Q:Option γ→Prop)
  (hQ:∀ m',XW f m'→Q (k (f,l,kit,m',acc++(Xz f x (-f.Half) (X5 f)).filter fun p=>(atN f l p 0 0).2))) :
  Q (Option.bind (XK x (-f.Half,f,l,kit,m,acc)) k):=by
 have hh:=hg.fix.half
 have hs:=hg.fix.step
 have hw0:(X5 f:Int)=2*f.Half+1:=by unfold X5;omega
 refine (X6d (Xb x) k (X5 f) (fun i (b:List (Zh×Int)×List Zu)=>(-f.Half+i,f,l,kit,b.1,b.2)) (fun i b=>XW f b.1∧b.2.length≤1000000+i∧b.2++((Xz f x (-f.Half+i) (X5 f-i)).filter fun p=>(atN f l p 0 0).2)=acc++(Xz f x (-f.Half) (X5 f)).filter fun p=>(atN f l p 0 0).2) (fun _ _ r=>Q r) ?_ ?_ 0 (m,acc) (by omega) ⟨hm,by simpa using ha,by simp⟩) |> fun h=>by simpa [XK] using h
 ·intro b hb R
  have e1:decide (-f.Half+(X5 f:Int)≤f.Half)=false:=by simp;omega
  simp only [Xb,Xf,e1,cond_false,Option.bind_some,Sum.elim_inr]
  have h3:=hb.2.2
  simp only [Nat.sub_self,Xz,List.filter_nil,List.append_nil] at h3
  rw [h3]
  exact hQ _ hb.1
 ·intro i b hi hb R hR
  obtain ⟨hb1,hb2,hb3⟩:=hb
  have e1:decide (-f.Half+(i:Int)≤f.Half)=true:=by simp;omega
  have hw:IntKind.wrap .i64 (-f.Half+(i:Int)+1) = -f.Half+((i+1:Nat):Int):=by rw [w64]<;>omega
  have m1:=X52 (a:=x) (b:=f.Step) 8 500 (by omega) (by omega) (by omega) (by omega)
  have m2:=X52 (a := -f.Half+(i:Int)) (b:=f.Step) 8 500 (by omega) (by omega) (by omega) (by omega)
  simp only [Xb,Xf,e1,cond_true]
  rw [w64 (x:=x*f.Step) (by omega) (by omega),w64 (x:=(-f.Half+(i:Int))*f.Step) (by omega) (by omega),hw]
  obtain ⟨m',hm',hc⟩:=X8Q hg.fix hg.each hg.len hk hb1 ⟨x*f.Step,(-f.Half+(i:Int))*f.Step⟩ 0 0
  rw [hc]
  simp only [Option.bind_some]
  have hrow:Xz f x (-f.Half+(i:Int)) (X5 f-i)=⟨x*f.Step,(-f.Half+(i:Int))*f.Step⟩::Xz f x (-f.Half+((i+1:Nat):Int)) (X5 f-(i+1)):=by
   rw [show X5 f-i=(X5 f-(i+1))+1 by omega,Xz,show -f.Half+(i:Int)+1 = -f.Half+((i+1:Nat):Int) by push_cast;omega]
  rw [hrow] at hb3
  cases hat:(atN f l ⟨x*f.Step,(-f.Half+(i:Int))*f.Step⟩ 0 0).2
  ·simp only [cond_false,Option.bind_some,Sum.elim_inl]
   refine hR (m',b.2) ⟨hm',by simp only;omega,?_⟩
   rw [List.filter_cons_of_neg (by simp [hat])] at hb3
   exact hb3
  ·have e3:Nat.ble ((b.2.length+[(⟨x*f.Step,(-f.Half+(i:Int))*f.Step⟩:Zu)].length)*(16+1)) 200000000000000=true:=by
    apply Nat.ble_eq_true_of_le;simp only [List.length_cons,List.length_nil];have:=hh.2;omega
   simp only [cond_true,e3,Option.bind_some,Sum.elim_inl]
   refine hR (m',b.2++[⟨x*f.Step,(-f.Half+(i:Int))*f.Step⟩]) ⟨hm',by simp;omega,?_⟩
   rw [List.filter_cons_of_pos (by simp [hat])] at hb3
   rw [←hb3]
   simp
theorem X7U {f:ZJ} {l:List Zn} (hg:X6v f l) {kit:Nat→Nat} (hk:Kit f kit) {m:List (Zh×Int)} (hm:XW f m) {γ:Type} (k:_→Option γ) (Q:Option γ→Prop)
  (hQ:∀ m',XW f m'→Q (k (X4 f l,f,l,kit,m'))) :
  Q (Option.bind (XJ (-f.Half,[],f,l,kit,m)) k):=by
 have hh:=hg.fix.half
 have hw0:(X5 f:Int)=2*f.Half+1:=by unfold X5;omega
 refine (X6d Xa k (X5 f) (fun i (b:List (Zh×Int)×List Zu)=>(-f.Half+i,b.2,f,l,kit,b.1)) (fun i b=>XW f b.1∧b.2.length≤i*100∧b.2++((XP f (-f.Half+i) (X5 f-i)).filter fun p=>(atN f l p 0 0).2)=X4 f l) (fun _ _ r=>Q r) ?_ ?_ 0 (m,[]) (by omega) ⟨hm,by simp,by simp [X4,X3X]⟩) |> fun h=>by simpa [XJ] using h
 ·intro b hb R
  have e1:decide (-f.Half+(X5 f:Int)≤f.Half)=false:=by simp;omega
  simp only [Xa,Xe,e1,cond_false,Option.bind_some,Sum.elim_inr]
  have h3:=hb.2.2
  simp only [Nat.sub_self,XP,List.filter_nil,List.append_nil] at h3
  rw [h3]
  exact hQ _ hb.1
 ·intro i b hi hb R hR
  obtain ⟨hb1,hb2,hb3⟩:=hb
  have e1:decide (-f.Half+(i:Int)≤f.Half)=true:=by simp;omega
  have hw:IntKind.wrap .i64 (-f.Half+(i:Int)+1) = -f.Half+((i+1:Nat):Int):=by rw [w64]<;>omega
  have hw2:IntKind.wrap .i64 (0-f.Half) = -f.Half:=by rw [w64]<;>omega
  have hwl:X5 f≤17:=by omega
  simp only [Xa,Xe,e1,cond_true,hw,hw2]
  rw [Option.bind_assoc]
  refine X7V hg hk _ (by omega) hb1 b.2 (by omega) _ Q fun m' hm' => ?_
  simp only [Option.bind_some,Sum.elim_inl]
  refine hR (m',_) ⟨hm',?_,?_⟩
  ·have:=List.length_filter_le (fun p=>(atN f l p 0 0).2) (Xz f (-f.Half+(i:Int)) (-f.Half) (X5 f))
   rw [X44] at this
   simp only [List.length_append]
   omega
  ·rw [←hb3,show X5 f-i=(X5 f-(i+1))+1 by omega,XP,show -f.Half+(i:Int)+1 = -f.Half+((i+1:Nat):Int) by push_cast;omega]
   simp
theorem X8w {f:ZJ} {l:List Zn} (hg:X6v f l) {kit:Nat→Nat} (hk:Kit f kit) {m:List (Zh×Int)} (hm:XW f m):∃ m',XW f m'∧WQ (f,l,kit,m)=some (f,l,kit,m',X4 f l):=by
 rw [X3q];unfold XD
 have hh:=hg.fix.half
 have hw2:IntKind.wrap .i64 (0-f.Half) = -f.Half:=by rw [w64]<;>omega
 simp only [hw2]
 exact X7U hg hk hm _ (fun r=>∃ m',XW f m'∧r=some (f,l,kit,m',X4 f l)) fun m' hm'=>⟨m',hm',rfl⟩
theorem X7q {f:ZJ} (hg:X1L f) (l:List Zn):(X4 f l).length≤289:=by
 have hh:=hg.half
 have hw0:(X5 f:Int)=2*f.Half+1:=by unfold X5;omega
 have hw1:X5 f≤17:=by omega
 have:∀ (n:Nat) (x:Int),(XP f x n).length=n*X5 f:=fun n=>by
  induction n with
  | zero=>intro x;simp [XP]
  | succ n ih=>intro x;simp only [XP,List.length_append,X44,ih,Nat.succ_mul];omega
 have h2:=List.length_filter_le (fun p=>(atN f l p 0 0).2) (X3X f)
 have h3:(X3X f).length=X5 f*X5 f:=this _ _
 have h4:X5 f*X5 f≤17*17:=Nat.mul_le_mul hw1 hw1
 unfold X4
 omega
end Nore
open Go Go.Ab
namespace Nore
def inS (v:Int) (s:ZE):Prop:=s.Lo≤v∧v≤s.Hi
def X7e (f:ZJ) (p:Zu) (ib mb:Int) (s:Nat→ZE) (l:List Zn) (i:Nat) (v:Int):Prop :=
 inS v (s i)∧∀ x∈l,X3M f ib mb x=false→x.Instrument.toNat=i→(X2o f p x).2=true∧inS v (X2o f p x).1
theorem X7j (n a:ZE) (v:Int):inS v (X5m n a)↔inS v n∧inS v a:=by
 unfold inS X5m
 constructor
 ·rintro ⟨h1,h2⟩
  simp only at h1 h2
  split at h1<;>split at h2<;>omega
 ·rintro ⟨h1,h2⟩
  simp only
  constructor<;>split<;>omega
theorem X6b {f:ZJ} {p:Zu} {ib mb:Int} {s:Nat→ZE} {x:Zn} {l:List Zn} {i:Nat} {v:Int} :
  X7e f p ib mb s (x::l) i v↔X7e f p ib mb s l i v∧(X3M f ib mb x=false→x.Instrument.toNat=i→(X2o f p x).2=true∧inS v (X2o f p x).1):=by
 unfold X7e
 constructor
 ·rintro ⟨h1,h2⟩
  exact ⟨⟨h1,fun y hy=>h2 y (by simp [hy])⟩,h2 x (by simp)⟩
 ·rintro ⟨⟨h1,h2⟩,h3⟩
  refine ⟨h1,fun y hy => ?_⟩
  rcases List.mem_cons.1 hy with e|e
  ·subst e;exact h3
  ·exact h2 y e
theorem X5S (f:ZJ) (p:Zu) (ib mb:Int):∀ (l:List Zn) (s:Nat→ZE),(∀ i,(s i).Lo≤(s i).Hi) →
  ((atL f p ib mb s l).2=true→(∀ i,((atL f p ib mb s l).1 i).Lo≤((atL f p ib mb s l).1 i).Hi)∧∀ i v,inS v ((atL f p ib mb s l).1 i)↔X7e f p ib mb s l i v) ∧
  ((atL f p ib mb s l).2=false→∃ x∈l,X3M f ib mb x=false∧∀ v,¬ X7e f p ib mb s l x.Instrument.toNat v)
 | [],s,hs=>by
  simp only [atL]
  exact ⟨fun _=>⟨hs,fun i v=>by simp [X7e]⟩,fun h=>by cases h⟩
 | x::l,s,hs=>by
  simp only [atL]
  by_cases hk:X3M f ib mb x=true
  ·rw [if_pos hk]
   obtain ⟨h1,h2⟩:=X5S f p ib mb l s hs
   refine ⟨fun h=>⟨(h1 h).1,fun i v => ?_⟩,fun h => ?_⟩
   ·rw [(h1 h).2 i v,X6b]
    simp [hk]
   ·obtain ⟨y,hy,hy2,hy3⟩:=h2 h
    refine ⟨y,by simp [hy],hy2,fun v hv=>hy3 v ?_⟩
    exact (X6b.1 hv).1
  ·rw [if_neg hk]
   have hk':X3M f ib mb x=false:=by simpa using hk
   by_cases hc:(X2o f p x).2=false∨(X5m (X2o f p x).1 (s x.Instrument.toNat)).Lo>(X5m (X2o f p x).1 (s x.Instrument.toNat)).Hi
   ·rw [if_pos hc]
    refine ⟨fun h=>(by cases h),fun _=>⟨x,by simp,hk',fun v hv => ?_⟩⟩
    obtain ⟨h1,h2⟩:=X6b.1 hv
    obtain ⟨h3,h4⟩:=h2 hk' rfl
    rcases hc with hc|hc
    ·rw [hc] at h3;cases h3
    ·have:=(X7j (X2o f p x).1 (s x.Instrument.toNat) v).2 ⟨h4,h1.1⟩
     unfold inS at this;omega
   ·rw [if_neg hc]
    have hc1:(X2o f p x).2=true:=by
     cases h:(X2o f p x).2
     ·exact absurd (.inl h) hc
     ·rfl
    have hc2:(X5m (X2o f p x).1 (s x.Instrument.toNat)).Lo≤(X5m (X2o f p x).1 (s x.Instrument.toNat)).Hi:=Int.not_lt.1 fun q=>hc (.inr q)
    obtain ⟨h1,h2⟩:=X5S f p ib mb l (fun j=>if j=x.Instrument.toNat then X5m (X2o f p x).1 (s x.Instrument.toNat) else s j) (fun i=>by
     by_cases e:i=x.Instrument.toNat
     ·simp only [e,if_true];exact hc2
     ·simp only [e,if_false];exact hs i)
    have key:∀ i v,X7e f p ib mb (fun j=>if j=x.Instrument.toNat then X5m (X2o f p x).1 (s x.Instrument.toNat) else s j) l i v↔X7e f p ib mb s (x::l) i v:=fun i v=>by
     rw [X6b]
     unfold X7e
     by_cases e:i=x.Instrument.toNat
     ·subst e
      simp only [if_true,X7j,hk',hc1,true_and,forall_const]
      constructor
      ·rintro ⟨⟨a,b⟩,c⟩;exact ⟨⟨b,c⟩,a⟩
      ·rintro ⟨⟨b,c⟩,a⟩;exact ⟨⟨a,b⟩,c⟩
     ·simp only [e,if_false,hk',forall_const]
      constructor
      ·rintro ⟨a,b⟩;exact ⟨⟨a,b⟩,fun q=>absurd q.symm e⟩
      ·rintro ⟨⟨a,b⟩,_⟩;exact ⟨a,b⟩
    refine ⟨fun h=>⟨(h1 h).1,fun i v=>((h1 h).2 i v).trans (key i v)⟩,fun h => ?_⟩
    obtain ⟨y,hy,hy2,hy3⟩:=h2 h
    exact ⟨y,by simp [hy],hy2,fun v hv=>hy3 v ((key _ v).2 hv)⟩
theorem X6E {f:ZJ} (hg:X1L f) (i:Nat):(X8 f i).Lo≤(X8 f i).Hi:=by
 unfold X8
 split
 ·rename_i h
  exact (hg.off _ (List.getElem_mem h)).2.1
 ·simp
def Num (f:ZJ) (l:List Zn) (p:Zu) (ib mb:Int) (i:Nat) (v:Int):Prop:=X7e f p ib mb (X8 f) l i v
theorem X94 {f:ZJ} (hg:X1L f) (l:List Zn) (p:Zu) (ib mb:Int):(atN f l p ib mb).2=true↔∀ i,∃ v,Num f l p ib mb i v:=by
 obtain ⟨h1,h2⟩:=X5S f p ib mb l (X8 f) (X6E hg)
 unfold atN
 constructor
 ·intro h i
  obtain ⟨h3,h4⟩:=h1 h
  exact ⟨_,(h4 i ((atL f p ib mb (X8 f) l).1 i).Lo).1 ⟨Int.le_refl _,h3 i⟩⟩
 ·intro h
  cases hb:(atL f p ib mb (X8 f) l).2
  ·obtain ⟨x,_,_,h3⟩:=h2 hb
   obtain ⟨v,hv⟩:=h x.Instrument.toNat
   exact absurd hv (h3 v)
  ·rfl
theorem X7N {f:ZJ} (hg:X1L f) {l:List Zn} {p:Zu} {ib mb:Int} (h:(atN f l p ib mb).2=true) (i:Nat):((atN f l p ib mb).1 i).Lo≤((atN f l p ib mb).1 i).Hi∧∀ v,inS v ((atN f l p ib mb).1 i)↔Num f l p ib mb i v :=
 ⟨((X5S f p ib mb l (X8 f) (X6E hg)).1 h).1 i,((X5S f p ib mb l (X8 f) (X6E hg)).1 h).2 i⟩
theorem X92 {f:ZJ} {l l':List Zn} (h:∀ x∈l,x∈l') {p:Zu} {ib mb:Int} {i:Nat} {v:Int} (hv:Num f l' p ib mb i v):Num f l p ib mb i v:=⟨hv.1,fun x hx=>hv.2 x (h x hx)⟩
theorem X7o {f:ZJ} {l:List Zn} {p:Zu}:p∈X4 f l↔p∈X3X f∧(atN f l p 0 0).2=true:=by
 unfold X4;rw [List.mem_filter]
theorem X7v (l:List Zn) (x:Zn) (hl:l.length≤4400000000000):X5r l x=some (l++[x]):=by
 rw [X6k];unfold X2E
 have e1:Nat.ble ((0+l.length)*(32+1)) 200000000000000=true:=by apply Nat.ble_eq_true_of_le;omega
 have e2:Nat.ble ((([]++l).length+[x].length)*(32+1)) 200000000000000=true:=by apply Nat.ble_eq_true_of_le;simp;omega
 rw [e1,e2];rfl
end Nore
open Go Go.Ab
namespace Nore
def X8Z:Nat→List Nat→List (List Nat)
 | 0,_=>[[]]
 | _+1,[]=>[]
 | n+1,t::l=>(X8Z n l).map (t :: ·)++X8Z (n+1) l
def X8T (ok:List Nat→Bool) (l:List Nat):Nat→Nat→Option (List Nat)
 | _,0=>none
 | n,k+1=>match (X8Z n l).find? ok with
  | some s=>some s
  | none=>X8T ok l (n+1) k
def X4S (f:ZJ):Nat:=f.Chart.Marks.length
def X9a (f:ZJ) (s:List Nat) (x:Zn):Bool := !(s.contains (X4S f+x.Instrument.toNat))&&((XX f x.Instrument).Lead || !(s.contains x.Mark.toNat))
def X9b (f:ZJ) (l:List Zn) (s:List Nat):List Zn:=l.filter (X9a f s)
def X9c (f:ZJ) (l:List Zn) (t:Nat):Bool:=l.any fun x=>decide (X4S f+x.Instrument.toNat=t)||(!(XX f x.Instrument).Lead&&decide (x.Mark.toNat=t))
def X90 (f:ZJ) (l:List Zn):List Nat:=(List.range (X4S f+f.Instruments.length)).filter (X9c f l)
def okW (f:ZJ) (l:List Zn) (s:List Nat):Bool := !(X4 f (X9b f l s)).isEmpty
structure X9d (f:ZJ) (l:List Zn) (s:List Nat):Prop where
 ok:okW f l s=true
 sub:s.Sublist (X90 f l)
 least:∀ r,r.Sublist (X90 f l)→okW f l r=true→s.length≤r.length
 first:X8T (okW f l) (X90 f l) 0 (f.Instruments.length+1)=some s
end Nore
open Go Go.Ab
namespace Nore
theorem X8a {f:ZJ} {x:Zn} (h:WM f x=0):((x.Instrument.toNat:Nat):Int)=x.Instrument∧x.Instrument.toNat<f.Instruments.length:=by
 obtain ⟨⟨h1,h2⟩,_⟩:=X5i h;omega
theorem X8X {f:ZJ} {x:Zn} (h:WM f x=0) (hL:(XX f x.Instrument).Lead=false):((x.Mark.toNat:Nat):Int)=x.Mark∧x.Mark.toNat<f.Chart.Marks.length:=by
 obtain ⟨_,_,h3⟩:=X5i h;have:=h3 hL;omega
theorem X7M (f:ZJ) (x:Zn):X3M f 0 0 x=false:=by unfold X3M;simp [X8F]
end Nore
open Go Go.Ab
namespace Nore
end Nore
open Go Go.Ab
namespace Nore
abbrev PSt:=Int×Bool×ZJ×List Zn×(Nat→Nat)×Int×List (Zh×Int)
end Nore
open Go Go.Ab
namespace Nore
theorem X1j {β σ ω:Type} (st:σ→Option (σ⊕ω)) (n:Nat) (emb:Nat→β→σ) (P:Nat→β→Prop) (Q:ω→Prop)
  (hd:∀ b,P n b→∃ w,st (emb n b)=some (.inr w)∧Q w)
  (hn:∀ i b,i<n→P i b→(∃ w,st (emb i b)=some (.inr w)∧Q w)∨∃ b',st (emb i b)=some (.inl (emb (i+1) b'))∧P (i+1) b') :
  ∀ i b,i≤n→P i b→∃ w,Z8S st (emb i b)=some w∧Q w:=by
 intro i b hi hP
 induction hj:n-i generalizing i b with
 | zero =>
  have:i=n:=by omega
  subst this
  obtain ⟨w,h1,h2⟩:=hd b hP
  exact ⟨w,by rw [ZgX,h1];rfl,h2⟩
 | succ j ih =>
  rcases hn i b (by omega) hP with ⟨w,h1,h2⟩|⟨b',h1,h2⟩
  ·exact ⟨w,by rw [ZgX,h1];rfl,h2⟩
  ·obtain ⟨w,h3,h4⟩:=ih (i+1) b' (by omega) h2 (by omega)
   exact ⟨w,by rw [ZgX,h1];exact h3,h4⟩
theorem X93 {α β:Type} (st:Int×List β→Option ((Int×List β)⊕List β)) (l:List α) (g:α→List β) (c:Nat) (hc:∀ x∈l,(g x).length≤c)
  (hd:∀ b,st ((l.length:Int),b)=some (.inr b))
  (hn:∀ i b,(h:i<l.length)→b.length≤i*c→st ((i:Int),b)=some (.inl (((i+1:Nat):Int),b++g l[i]))):Z8S st (0,[])=some (l.flatMap g):=by
 obtain ⟨w,h1,h2⟩:=X1j st l.length (fun i (b:List β)=>((i:Int),b)) (fun i b=>b.length≤i*c∧b++(l.drop i).flatMap g=l.flatMap g) (fun w=>w=l.flatMap g)
  (fun b hb=>⟨b,hd b,by have:=hb.2;simpa using this⟩)
  (fun i b hi hb => .inr ⟨_,hn i b hi hb.1,by
   have h1:=hb.1
   have:=hc _ (List.getElem_mem hi)
   rw [List.length_append,Nat.succ_mul];omega,by
   rw [←hb.2,List.drop_eq_getElem_cons hi];simp only [List.flatMap_cons,List.append_assoc]⟩) 0 [] (by omega) ⟨by simp,by simp⟩
 exact h1.trans (by rw [h2])
theorem X6S {α β:Type} (q:α→Bool) (g:α→β):∀ (l:List α),(l.flatMap fun a=>if q a then [g a] else [])=(l.filter q).map g
 | []=>rfl
 | a::l=>by
  rw [List.flatMap_cons,X6S q g l,List.filter_cons]
  cases h:q a<;>simp
end Nore
open Go Go.Ab
namespace Nore
end Nore
open Go Go.Ab
namespace Nore
end Nore
open Go Go.Ab Go.Proofs.YtehofdemanfenaaGreat
namespace Nore
end Nore
open Go Go.Ab
namespace Nore
def X8f (a b:Int):Int:=if b>a then b else a
def X8L (l:List Int):Int:=l.foldl X8f 0
theorem X91 (x:Int) (l:List Int) (hx:0≤x) (hl:l.length<1000):X1k (x::l)=some (X8L (x::l)):=by
 rw [X3N];unfold XR
 have e1:decide (((x::l).length:Int)<1)=false:=by simp only [List.length_cons];simp;omega
 have e2:decide ((0:Int)≤0)=true:=by simp
 have e3:decide ((0:Int)<((x::l).length:Int))=true:=by simp only [List.length_cons];simp
 simp only [e1,e3,cond_false,Int.le_refl,Nat.le_refl,decide_true,Bool.and_self,cond_true]
 obtain ⟨w,h1,h2⟩:=X1j (Xd (x::l)) l.length (fun i (b:Int)=>(b,((i+1:Nat):Int))) (fun i b=>(l.drop i).foldl X8f b=X8L (x::l)) (fun w=>w=X8L (x::l))
  (fun b hb=>⟨b,by simp [Xd,Xj],by simpa using hb⟩)
  (fun i b hi hb=>by
   right
   have hi':i+1<(x::l).length:=by simp;omega
   have hw:IntKind.wrap .i64 (((i+1:Nat):Int)+1)=((i+1+1:Nat):Int):=by rw [w64]<;>omega
   have e4:decide (((i+1:Nat):Int)<((x::l).length:Int))=true:=by simp only [decide_eq_true_eq];omega
   have e5:decide ((0:Int)≤((i+1:Nat):Int))=true:=by simp only [decide_eq_true_eq];omega
   have hg:(x::l).getD (i+1) 0=l[i]:=by rw [X0 _ _ _ hi'];rfl
   rw [List.drop_eq_getElem_cons hi,List.foldl_cons] at hb
   refine ⟨X8f b l[i],?_,hb⟩
   simp only [Xd,Xj,e4,e5,Bool.and_self,cond_true,Int.toNat_natCast,hg,hw]
   unfold X8f
   simp only [Bool.cond_decide]) 0 x (by omega) (by
   unfold X8L
   rw [List.drop_zero,List.foldl_cons]
   congr 1
   unfold X8f;split<;>omega)
 have h1':X1p (x::l) ((x::l).getD (Int.toNat 0) 0,1)=some w:=h1
 rw [h1',h2];rfl
def X5b (f:ZJ) (l:List Zn) (m:Int) (i:Nat) (j:Int) (p:Zu):Bool :=
 decide (0≤X1M f m p)&&decide ((j-X1M f m p-((atN f l p 0 0).1 i).Lo) % 32<((atN f l p 0 0).1 i).Hi-((atN f l p 0 0).1 i).Lo+1)
def X2B (f:ZJ) (l:List Zn) (m:Int) (i:Nat):Int:=X8L ((List.range 32).map fun j:Nat=>(((X4 f l).countP (X5b f l m i j):Nat):Int))
theorem X8S {f:ZJ} (hg:X1L f) {l:List Zn} {p:Zu} (h:(atN f l p 0 0).2=true) {i:Nat} (hi:i<f.Instruments.length) (hL:f.Instruments[i].Lead=false) : -4≤((atN f l p 0 0).1 i).Lo∧((atN f l p 0 0).1 i).Lo≤((atN f l p 0 0).1 i).Hi∧((atN f l p 0 0).1 i).Hi≤4:=by
 obtain ⟨h1,h2⟩:=X7N hg h i
 have a1:=((h2 ((atN f l p 0 0).1 i).Lo).1 ⟨Int.le_refl _,h1⟩).1
 have a2:=((h2 ((atN f l p 0 0).1 i).Hi).1 ⟨h1,Int.le_refl _⟩).1
 unfold X8 at a1 a2
 rw [dif_pos hi] at a1 a2
 have ho:=hg.off _ (List.getElem_mem hi)
 have hf:X3m f.Instruments[i]=4:=by unfold X3m;rw [hL];rfl
 unfold inS at a1 a2
 omega
theorem X8s {f:ZJ} (x0:Int) (hx0:0≤x0∧x0<4) (n:Nat) (hn:n≤9) (x2:Int) (x3:List Zu) (x5 x6 Z5R:Int) (x9:ZJ) (x10:List Zn) (x11:Nat→Nat) (x12:List (Zh×Int)) (s:Nat→ZE) (x14:Zu) (hs:0≤Z5R∧Z5R≤31) (hlo : -4≤(s x0.toNat).Lo∧(s x0.toNat).Lo≤4) (c:Nat→Int) (hc:∀ j,j<32→0≤c j∧c j≤1000) :
  ∃ c',X1J x0 (n:Int) x2 x3 x5 x6 Z5R x9 x10 x11 x12 s x14 (0,c)=some c'∧∀ j:Nat,j<32→c' j=c j+if ((j:Int)-Z5R-(s x0.toNat).Lo) % 32<n then 1 else 0:=by
 have i1:decide (0≤x0)=true:=by simp;omega
 have i2:decide (x0<((4:Nat):Int))=true:=by simp;omega
 have i2':decide (x0<(4:Int))=true:=by simp;omega
 have i3:Nat.blt x0.toNat 4=true:=by rw [Tr.blt_dec];simp;omega
 have main:=X1j (Xh x0 (n:Int) x2 x3 x5 x6 Z5R x9 x10 x11 x12 s x14) n (fun k (b:Nat→Int)=>((k:Int),b)) (fun k b=>∀ j:Nat,j<32→b j=c j+if ((j:Int)-Z5R-(s x0.toNat).Lo) % 32<k then 1 else 0) (fun w=>∀ j:Nat,j<32→w j=c j+if ((j:Int)-Z5R-(s x0.toNat).Lo) % 32<n then 1 else 0)
  (fun b hb=>⟨b,by simp [Xh,Xo],hb⟩)
  (fun k b hk hb=>by
   right
   have e1:decide ((k:Int)<(n:Int))=true:=by simp [hk]
   have hw:=wS k (by omega)
   have w1:IntKind.wrap .i64 (Z5R+(s x0.toNat).Lo)=Z5R+(s x0.toNat).Lo:=by rw [w64]<;>omega
   have w2:IntKind.wrap .i64 (Z5R+(s x0.toNat).Lo+(k:Int))=Z5R+(s x0.toNat).Lo+(k:Int):=by rw [w64]<;>omega
   have w3:IntKind.wrap .i64 (Z5R+(s x0.toNat).Lo+(k:Int)+32)=Z5R+(s x0.toNat).Lo+(k:Int)+32:=by rw [w64]<;>omega
   have hm:Int.tmod (Z5R+(s x0.toNat).Lo+(k:Int)+32) 32=(Z5R+(s x0.toNat).Lo+(k:Int)+32) % 32:=Int.tmod_eq_emod_of_nonneg (by omega)
   obtain ⟨t,ht⟩:∃ t:Nat,(Z5R+(s x0.toNat).Lo+(k:Int)+32) % 32=(t:Int):=⟨((Z5R+(s x0.toNat).Lo+(k:Int)+32) % 32).toNat,by omega⟩
   have htl:t<32:=by omega
   have e2:decide ((0:Int)≤(t:Int))=true:=by simp
   have e3:decide ((t:Int)<((32:Nat):Int))=true:=by simp;omega
   have e3':decide ((t:Int)<(32:Int))=true:=by simp;omega
   have e4:Nat.blt t 32=true:=by rw [Tr.blt_dec];simpa using htl
   have hbt:=hb t htl
   have hct:=hc t htl
   have w4:IntKind.wrap .i64 (b t+1)=b t+1:=by rw [w64]<;>split at hbt<;>omega
   simp only [Xh,Xo,e1,i1,i2,i2',i3,hw,w1,w2,w3,hm,ht,e2,e3,e3',e4,Int.toNat_natCast,w4,Bool.and_self,cond_true]
   refine ⟨_,rfl,fun j hj => ?_⟩
   rw [Tr.beq_dec]
   by_cases c1:j=t
   ·subst c1
    simp only [decide_true,cond_true]
    rw [hbt,if_neg (by omega),if_pos (by omega)]
    omega
   ·simp only [c1,decide_false,cond_false]
    rw [hb j hj]
    by_cases c2:((j:Int)-Z5R-(s x0.toNat).Lo) % 32<k
    ·rw [if_pos c2,if_pos (by omega)]
    ·rw [if_neg c2,if_neg (by omega)]) 0 c (by omega) (fun j hj=>by rw [if_neg (by omega)];omega)
 exact main
theorem X8W {f:ZJ} {l:List Zn} (hg:X6v f l) {kit:Nat→Nat} (hk:Kit f kit) {m:List (Zh×Int)} (hm:XW f m) (mark:Int) (h0:0≤mark) (h1:mark<f.Chart.Marks.length) (i:Nat) (hi:i<f.Instruments.length) (hL:f.Instruments[i].Lead=false) :
  ∃ m',XW f m'∧X1B ((i:Int),X4 f l,mark,f,l,kit,m)=some (X2B f l mark i,f,l,kit,m'):=by
 rw [X3V];unfold XY
 have hI:=hg.fix.inst
 have hpl:=X7q hg.fix l
 obtain ⟨all,hall⟩:∃ all,X4 f l=all:=⟨_,rfl⟩
 have hmem:∀ p∈all,(atN f l p 0 0).2=true:=fun p hp=>by rw [←hall] at hp;exact (X7o.1 hp).2
 unfold X2B
 simp only [hall] at hpl ⊢
 have main:=X6d (Xg (i:Int) (↑all.length) all mark) (fun o413=>Option.bind (X1k (List.drop 0 (List.take 32 (List.map o413.fst (List.range 32))))) fun r414↦some (r414,o413.snd.fst,o413.snd.snd.fst,o413.snd.snd.snd.fst,o413.snd.snd.snd.snd)) all.length
  (fun q (b:(Nat→Int)×List (Zh×Int))=>((q:Int),b.1,f,l,kit,b.2)) (fun q b=>XW f b.2∧∀ j:Nat,j<32→b.1 j=(((all.take q).countP (X5b f l mark i j):Nat):Int)) (fun _ _ r=>∃ m',XW f m'∧r=some (X8L ((List.range 32).map fun j:Nat=>((all.countP (X5b f l mark i j):Nat):Int)),f,l,kit,m'))
  (by
   intro b hb R
   refine ⟨b.2,hb.1,?_⟩
   have e:decide ((all.length:Int)<↑all.length)=false:=by simp
   simp only [Xg,Xn,e,cond_false,Option.bind_some,Sum.elim_inr]
   have hl:List.drop 0 (List.take 32 (List.map b.1 (List.range 32)))=(List.range 32).map fun j:Nat=>((all.countP (X5b f l mark i j):Nat):Int):=by
    rw [List.drop_zero,List.take_of_length_le (by simp)]
    apply List.map_congr_left
    intro j hj
    rw [hb.2 j (List.mem_range.1 hj),List.take_length]
   rw [hl]
   obtain ⟨x,r,hxr,hx0,hrl⟩:∃ x r,((List.range 32).map fun j:Nat=>((all.countP (X5b f l mark i j):Nat):Int))=x::r∧0≤x∧r.length<1000:=by
    refine ⟨((all.countP (X5b f l mark i 0):Nat):Int),((List.range 31).map fun j:Nat=>((all.countP (X5b f l mark i ((j+1:Nat):Int)):Nat):Int)),?_,by omega,by simp⟩
    rw [show (32:Nat)=31+1 from rfl,List.range_succ_eq_map,List.map_cons,List.map_map]
    rfl
   rw [hxr,X91 x r hx0 hrl]
   rfl)
  (by
   intro q b hq hb R hR
   obtain ⟨hb1,hb2⟩:=hb
   have hw:=wS q (by omega)
   have e1:decide ((q:Int)<↑all.length)=true:=by simp [hq]
   have e2:=z0S q
   have hp:=hmem _ (List.getElem_mem hq)
   obtain ⟨p,hpd⟩:∃ p,all[q]=p:=⟨_,rfl⟩
   rw [hpd] at hp
   have hgd:all.getD q ⟨0,0⟩=p:=(X0 _ _ _ hq).trans hpd
   obtain ⟨m1,hm1,hat⟩:=X8Q hg.fix hg.each hg.len hk hb1 p 0 0
   obtain ⟨m2,hm2,hto⟩:=X7C hg.fix h0 h1 p l kit hm1
   have hsb:=X7Y hg.fix h0 h1 p
   simp only [Xg,Xn,e1,e2,Bool.and_self,cond_true,Int.toNat_natCast,hgd,hw,hat,Option.bind_some,hto]
   have htk:all.take (q+1)=all.take q++[p]:=by rw [List.take_succ_eq_append_getElem hq,hpd]
   by_cases cs:X1M f mark p<0
   ·have e3:decide (X1M f mark p<0)=true:=by simpa using cs
    simp only [e3,cond_true,Option.bind_some,Sum.elim_inl]
    refine hR (b.1,m2) ⟨hm2,fun j hj => ?_⟩
    have hh:X5b f l mark i j p=false:=by unfold X5b;simp;omega
    rw [htk,List.countP_append,hb2 j hj,List.countP_cons]
    simp [hh]
   ·have e3:decide (X1M f mark p<0)=false:=by simpa using cs
    have i1:decide ((0:Int)≤(i:Int))=true:=by simp
    have i2:decide ((i:Int)<((4:Nat):Int))=true:=by simp;omega
    have i2':decide ((i:Int)<(4:Int))=true:=by simp;omega
    have i3:Nat.blt i 4=true:=by rw [Tr.blt_dec];simp;omega
    have ho:=X8S hg.fix hp hi hL
    obtain ⟨n,hn⟩:∃ n:Nat,((atN f l p 0 0).1 i).Hi-((atN f l p 0 0).1 i).Lo+1=(n:Int):=⟨(((atN f l p 0 0).1 i).Hi-((atN f l p 0 0).1 i).Lo+1).toNat,by omega⟩
    have hwn:IntKind.wrap .i64 (IntKind.wrap .i64 (((atN f l p 0 0).1 i).Hi-((atN f l p 0 0).1 i).Lo)+1)=(n:Int):=by
     rw [w64 (x:=((atN f l p 0 0).1 i).Hi-((atN f l p 0 0).1 i).Lo) (by omega) (by omega),hn,w64]<;>omega
    simp only [e3,cond_false,i1,i2,i2',i3,Bool.and_self,cond_true,hwn]
    obtain ⟨c',hc1,hc2⟩:=X8s (f:=f) (i:Int) (by omega) n (by omega) (↑all.length) all mark (q:Int) (X1M f mark p) f l kit m2 (atN f l p 0 0).1 p (by omega) (by rw [Int.toNat_natCast];omega) b.1 (fun j hj=>by
     rw [hb2 j hj]
     have:=List.countP_le_length (p:=X5b f l mark i j) (l:=all.take q)
     rw [List.length_take] at this
     omega)
    rw [hc1]
    simp only [Option.bind_some,Sum.elim_inl]
    refine hR (c',m2) ⟨hm2,fun j hj => ?_⟩
    simp only
    rw [hc2 j hj,hb2 j hj,htk,List.countP_append,List.countP_cons,Int.toNat_natCast]
    unfold X5b
    have e4:decide (0≤X1M f mark p)=true:=by simp;omega
    rw [e4,hn]
    by_cases c2:((j:Int)-X1M f mark p-((atN f l p 0 0).1 i).Lo) % 32<n
    ·simp [c2]
    ·simp [c2])
 have h:=main 0 (fun _=>0,m) (by omega) ⟨hm,fun j hj=>by simp⟩
 unfold X1I
 exact h
end Nore
open Go Go.Ab
namespace Nore
structure X7d where
 mark:Int
 inst:Int
 left:Int
 found:Bool
def X4q (f:ZJ) (m i:Nat):Bool := !(XX f i).Lead&&X2w f m
def X1l (f:ZJ) (l:List Zn) (b:X7d) (c:Nat×Nat):X7d :=
 if X4q f c.1 c.2 then (if !b.found||decide (X2B f l c.1 c.2<b.left) then ⟨c.1,c.2,X2B f l c.1 c.2,true⟩ else b) else b
def X8v (f:ZJ):List (Nat×Nat):=(List.range (X4S f)).flatMap fun m=>(List.range f.Instruments.length).map fun i=>(m,i)
def X2Z (f:ZJ) (l:List Zn):X7d:=(X8v f).foldl (X1l f l) ⟨0,0,0,false⟩
theorem X8E {f:ZJ} {l:List Zn} (hg:X6v f l) {kit:Nat→Nat} (hk:Kit f kit) (m:Nat) (hm:m<f.Chart.Marks.length) {bk:List (Zh×Int)} (hb:XW f bk) (b:X7d) :
  ∃ bk',XW f bk'∧X4u (m:Int) (↑f.Instruments.length) (X4 f l) (b.inst,0,b.mark,b.found,b.left,bk,f,l,kit) =
   some ((((List.range f.Instruments.length).map fun i=>(m,i)).foldl (X1l f l) b).inst,(((List.range f.Instruments.length).map fun i=>(m,i)).foldl (X1l f l) b).mark,(((List.range f.Instruments.length).map fun i=>(m,i)).foldl (X1l f l) b).found,(((List.range f.Instruments.length).map fun i=>(m,i)).foldl (X1l f l) b).left,bk',f,l,kit):=by
 have hI:=hg.fix.inst
 have main:=X1j (X2l (m:Int) (↑f.Instruments.length) (X4 f l)) f.Instruments.length
  (fun i (s:X7d×List (Zh×Int))=>(s.1.inst,(i:Int),s.1.mark,s.1.found,s.1.left,s.2,f,l,kit))
  (fun i s=>XW f s.2∧(((List.range f.Instruments.length).drop i).map fun i=>(m,i)).foldl (X1l f l) s.1=((List.range f.Instruments.length).map fun i=>(m,i)).foldl (X1l f l) b)
  (fun w=>∃ bk',XW f bk'∧w=((((List.range f.Instruments.length).map fun i=>(m,i)).foldl (X1l f l) b).inst,(((List.range f.Instruments.length).map fun i=>(m,i)).foldl (X1l f l) b).mark,(((List.range f.Instruments.length).map fun i=>(m,i)).foldl (X1l f l) b).found,(((List.range f.Instruments.length).map fun i=>(m,i)).foldl (X1l f l) b).left,bk',f,l,kit))
  (fun s hs=>by
   obtain ⟨h1,h2⟩:=hs
   rw [List.drop_of_length_le (by simp)] at h2
   simp only [List.map_nil,List.foldl_nil] at h2
   refine ⟨_,?_,s.2,h1,rfl⟩
   rw [←h2]
   simp [X2l,X2e])
  (fun i s hi hs=>by
   right
   obtain ⟨⟨bm,bi,bl,bf⟩,bk0⟩:=s
   obtain ⟨h1,h2⟩:=hs
   simp only at h1 h2
   have hdr:(List.range f.Instruments.length).drop i=i::(List.range f.Instruments.length).drop (i+1):=by
    rw [List.drop_eq_getElem_cons (by simpa using hi)];simp
   rw [hdr,List.map_cons,List.foldl_cons] at h2
   have e1:decide ((i:Int)<↑f.Instruments.length)=true:=by simp [hi]
   have hw:=wS i (by omega)
   have i1:decide ((0:Int)≤(i:Int))=true:=by simp
   have i2:decide ((i:Int)<((4:Nat):Int))=true:=by simp;omega
   have i2':decide ((i:Int)<(4:Int))=true:=by simp;omega
   have i3:Nat.blt i 4=true:=by rw [Tr.blt_dec];simp;omega
   have hkk:=hk _ hi
   have hio:XX f (i:Int)=f.Instruments[i]:=X0 _ _ _ hi
   simp only [X2l,X2e,e1,hw,i1,i2,i2',i3,Int.toNat_natCast,Bool.and_self,cond_true]
   cases hL:f.Instruments[i].Lead
   ·rw [hL] at hkk
    simp only [Bool.false_eq_true,if_false] at hkk
    simp only [hkk,show Nat.beq 1 0=false from rfl,show Nat.beq 1 1=true from rfl,cond_false,cond_true]
    rw [X7B hg.fix (m:Int) (by omega) (by omega)]
    simp only [Option.bind_some]
    cases hst:X2w f (m:Int)
    ·have hc:X4q f m i=false:=by unfold X4q;rw [hst,Bool.and_false]
     have hsb:X1l f l ⟨bm,bi,bl,bf⟩ (m,i)=⟨bm,bi,bl,bf⟩:=by unfold X1l;simp only [hc];simp
     rw [hsb] at h2
     exact ⟨(⟨bm,bi,bl,bf⟩,bk0),rfl,h1,h2⟩
    ·have hc:X4q f m i=true:=by unfold X4q;rw [hst,hio,hL];rfl
     obtain ⟨bk',hbk,hle⟩:=X8W hg hk h1 (m:Int) (by omega) (by omega) i hi hL
     simp only [Bool.not_true,cond_false]
     rw [hle]
     simp only [Option.bind_some]
     have hsb:X1l f l ⟨bm,bi,bl,bf⟩ (m,i)=if !bf||decide (X2B f l (m:Int) i<bl) then ⟨m,i,X2B f l m i,true⟩ else ⟨bm,bi,bl,bf⟩:=by
      unfold X1l;simp only [hc,if_true]
     rw [hsb] at h2
     clear hsb hle hdr
     cases bf
     ·simp only [Bool.not_false,cond_true]
      simp only [Bool.not_false,Bool.true_or,if_true] at h2
      exact ⟨(⟨m,i,X2B f l m i,true⟩,bk'),by dsimp only,hbk,h2⟩
     ·simp only [Bool.not_true,cond_false]
      simp only [Bool.not_true,Bool.false_or] at h2
      by_cases c:X2B f l (m:Int) i<bl
      ·simp only [c,decide_true,cond_true]
       simp only [c,decide_true,if_true] at h2
       exact ⟨(⟨m,i,X2B f l m i,true⟩,bk'),by dsimp only,hbk,h2⟩
      ·simp only [c,decide_false,cond_false]
       simp only [c,decide_false,Bool.false_eq_true,if_false] at h2
       exact ⟨(⟨bm,bi,bl,true⟩,bk'),rfl,hbk,h2⟩
   ·rw [hL] at hkk
    simp only [if_true] at hkk
    have hc:X4q f m i=false:=by unfold X4q;rw [hio,hL];rfl
    have hsb:X1l f l ⟨bm,bi,bl,bf⟩ (m,i)=⟨bm,bi,bl,bf⟩:=by unfold X1l;simp only [hc];simp
    rw [hsb] at h2
    simp only [hkk,show Nat.beq 2 0=false from rfl,show Nat.beq 2 1=false from rfl,show Nat.beq 2 (1+1)=true from rfl,cond_false,cond_true]
    exact ⟨(⟨bm,bi,bl,bf⟩,bk0),rfl,h1,h2⟩) 0 (b,bk) (by omega) ⟨hb,by simp⟩
 obtain ⟨w,h1,bk',h2,h3⟩:=main
 exact ⟨bk',h2,by rw [←h3];exact h1⟩
theorem X89 (f:ZJ) (l:List Zn):X7c f l=some (if (X2p f l).2≠0 then (0,0,0,(X2p f l).2) else if l.length=8 then (0,0,0,3) else if X4 f l=[] then (0,0,0,9) else if (X2Z f l).found then ((X2Z f l).mark,(X2Z f l).inst,(X2Z f l).left,0) else (0,0,0,4)):=by
 rw [X7k];unfold X3T
 rcases X8I f l with ⟨_,he,h0⟩|⟨kit,hg,h8,hk,he⟩
 ·rw [he]
  simp [h0,X1n h0]
 ·rw [he]
  simp only [Option.bind_some,Sum.elim_inr]
  by_cases h0:(X2p f l).2=0
  ·have hs:=X6V h0
   simp only [h0,bne_self_eq_false,cond_false,ne_eq,not_true,if_false]
   by_cases h8':l.length=8
   ·have:((l.length:Int)==8)=true:=by simp;omega
    rw [this];simp [h8']
   ·have e8:((l.length:Int)==8)=false:=X4p (by omega)
    rw [e8,cond_false,if_neg h8']
    obtain ⟨m',hm',hp⟩:=X8w hs hk (X8m f)
    rw [hp]
    simp only [Option.bind_some]
    by_cases hn:X4 f l=[]
    ·rw [hn];simp
    ·have e0:(((X4 f l).length:Int)==0)=false:=X4p (fun h=>hn (List.eq_nil_of_length_eq_zero (by omega)))
     rw [e0,cond_false,if_neg hn]
     have hM:=hg.marks
     have main:=X1j (X2k (↑f.Chart.Marks.length) (X4 f l) f) f.Chart.Marks.length
      (fun i (s:X7d×List (Zh×Int))=>((i:Int),s.1.inst,s.1.mark,s.1.found,s.1.left,s.2,f,l,kit))
      (fun i s=>XW f s.2∧((((List.range (X4S f)).drop i).flatMap fun m=>(List.range f.Instruments.length).map fun i=>(m,i))).foldl (X1l f l) s.1=X2Z f l)
      (fun w=>∃ bk',w=((X2Z f l).inst,(X2Z f l).mark,(X2Z f l).found,(X2Z f l).left,bk',f,l,kit))
      (fun s hs=>by
       obtain ⟨h1,h2⟩:=hs
       rw [List.drop_of_length_le (by simp [X4S])] at h2
       simp only [List.flatMap_nil,List.foldl_nil] at h2
       refine ⟨_,?_,s.2,rfl⟩
       rw [←h2]
       simp [X2k,X2d])
      (fun i s hi hs'=>by
       right
       obtain ⟨h1,h2⟩:=hs'
       have hdr:(List.range (X4S f)).drop i=i::(List.range (X4S f)).drop (i+1):=by
        rw [List.drop_eq_getElem_cons (by simpa [X4S] using hi)];simp
       rw [hdr,List.flatMap_cons,List.foldl_append] at h2
       have e1:decide ((i:Int)<↑f.Chart.Marks.length)=true:=by simp [hi]
       have hw:=wS i (by omega)
       obtain ⟨bk',hbk,hr⟩:=X8E hs hk i hi h1 s.1
       simp only [X2k,X2d,e1,hw,cond_true,hr,Option.bind_some]
       exact ⟨(_,bk'),rfl,hbk,h2⟩) 0 (⟨0,0,0,false⟩,m') (by omega) ⟨hm',by simp [X2Z,X8v]⟩
     obtain ⟨w,h1,bk',h2⟩:=main
     have h1':X4t (↑f.Chart.Marks.length) (X4 f l) f (0,0,0,false,0,m',f,l,kit)=some w:=h1
     rw [h1',h2]
     simp only [Option.bind_some]
     cases (X2Z f l).found<;>simp
  ·simp [h0,X1n h0]
end Nore
open Go Go.Ab
namespace Nore
def X4h (p:Nat):Zu:=⟨Geo.vx p,Geo.vy p⟩
theorem X8D:∀ p,p<32 → -1000≤Geo.vx p∧Geo.vx p≤1000 ∧ -1000≤Geo.vy p∧Geo.vy p≤1000:=by decide
theorem X97 {a:Int} (h : -1000000≤a∧a≤1000000):IntKind.wrap .i64 (0-a) = -a:=by rw [w64]<;>omega
theorem X96 (q:Nat):∀ p,p<32→p / 8=q→(∀ n r,Z8p X9 n ((p:Int),())=some r→r=X4h p)∧(∃ n r,Z8p X9 n ((p:Int),())=some r):=by
 have base:∀ p:Nat,p<8→∀ n,Z8p X9 (n+1) ((p:Int),())=some (X4h p):=fun p hp n=>by
  have e:∀ p,p<8→(List.getD [Zu.mk 0 1000,Zu.mk 195 981,Zu.mk 383 924,Zu.mk 556 831,Zu.mk 707 707,Zu.mk 831 556,Zu.mk 924 383,Zu.mk 981 195] p (Zu.mk 0 0)).X=Geo.vx p∧(List.getD [Zu.mk 0 1000,Zu.mk 195 981,Zu.mk 383 924,Zu.mk 556 831,Zu.mk 707 707,Zu.mk 831 556,Zu.mk 924 383,Zu.mk 981 195] p (Zu.mk 0 0)).Y=Geo.vy p:=by decide
  have e':=e p hp
  simp only [Z8p,X9,X2t,Int.toNat_natCast]
  have h1:decide ((p:Int)≥8)=false:=by simp;omega
  rw [h1]
  generalize List.getD _ p _=g at *
  have h2:decide ((0:Int)≤(p:Int))=true:=by simp
  have h3:decide ((p:Int)<((8:Nat):Int))=true:=by simp;omega
  have h4:Nat.blt p 8=true:=by simp [Nat.blt,Nat.ble_eq];omega
  simp only [cond_false,List.length_cons,List.length_nil,Nat.zero_add,Nat.reduceAdd]
  rw [h2,h3,h4]
  simp only [Bool.and_self,cond_true,X4h,Option.some.injEq]
  cases g
  simp only [Zu.mk.injEq]
  exact e'
 induction q with
 | zero =>
  intro p hp hq
  have hp8:p<8:=by omega
  refine ⟨fun n r h => ?_,⟨1,_,base p hp8 0⟩⟩
  cases n with
  | zero=>simp [Z8p] at h
  | succ n=>rw [base p hp8 n] at h;exact (Option.some.inj h).symm
 | succ q ih =>
  intro p hp hq
  obtain ⟨i1,m,s,i2⟩:=ih (p-8) (by omega) (by omega)
  have hstep:∀ n,Z8p X9 (n+1) ((p:Int),())=Option.bind (Z8p X9 n (((p-8:Nat):Int),())) fun v=>some ⟨v.Y,IntKind.wrap .i64 (0-v.X)⟩:=fun n=>by
   simp only [Z8p,X9,X2t]
   have h1:decide ((p:Int)≥8)=true:=by simp;omega
   have h2:IntKind.wrap .i64 ((p:Int)-8)=((p-8:Nat):Int):=by rw [w64]<;>omega
   rw [h1,h2]
   rfl
  have tt:(⟨(X4h (p-8)).Y,-(X4h (p-8)).X⟩:Zu)=X4h p:=by
   have e:∀ p,p<24→Geo.vy p=Geo.vx (p+8) ∧ - Geo.vx p=Geo.vy (p+8):=by decide
   have e':=e (p-8) (by omega)
   rw [show p-8+8=p by omega] at e'
   simp only [X4h,Zu.mk.injEq]
   exact e'
  have bd:=X8D (p-8) (by omega)
  have wv:IntKind.wrap .i64 (0-(X4h (p-8)).X) = - (X4h (p-8)).X:=X97 (by simp only [X4h];omega)
  refine ⟨fun n r h => ?_,⟨m+1,X4h p,?_⟩⟩
  ·cases n with
   | zero=>simp [Z8p] at h
   | succ n =>
    rw [hstep] at h
    cases hr:Z8p X9 n (((p-8:Nat):Int),()) with
    | none=>rw [hr] at h;simp at h
    | some v =>
     rw [hr] at h
     have:=i1 n v hr
     subst this
     simp only [Option.bind_some,Option.some.injEq] at h
     rw [←h,wv,tt]
  ·rw [hstep,i2]
   have:=i1 m s i2
   subst this
   simp only [Option.bind_some,wv,tt]
theorem X2s (p:Nat) (hp:p<32):X3S (p:Int)=some (X4h p):=by
 obtain ⟨h1,h2⟩:=X96 (p / 8) p hp rfl
 exact Zhk h1 h2
theorem X7Q (p:Nat) (hp:p<32) (v:Zu) (hv:Bd 60000 v):IntKind.wrap .i64 (IntKind.wrap .i64 ((X4h p).X*v.Y)-IntKind.wrap .i64 ((X4h p).Y*v.X))=Geo.crs p v.X v.Y:=by
 have bd:=X8D p hp
 unfold Bd at hv
 rw [X8t 2000000 rfl (by simp only [X4h];omega) (by omega) (by simp only [X4h];omega) (by omega)]
 rfl
theorem X6N (v:Zu) (hv:Bd 60000 v) (h0:v.X≠0∨v.Y≠0):X2L v=some ((Geo.tow v.X v.Y:Nat):Int):=by
 have ht:=Geo.tow_spec h0
 unfold X2L
 have key:=X6 (W8 v) (fun o224=>some o224) (Geo.tow v.X v.Y) (fun i (_:Unit)=>(i:Int)) (fun _ _=>True) (fun _ _=>some ((Geo.tow v.X v.Y:Nat):Int))
  (by
   intro b _ R
   simp only [W8,Wm]
   generalize ht':Geo.tow v.X v.Y=t at *
   have hw:=wS t (by omega)
   have hm:Int.tmod ((t+1:Nat):Int) 32=(((t+1) % 32:Nat):Int):=rfl
   rw [hw,hm,X2s _ ht.1,X2s _ (by omega)]
   simp only [Option.bind_some]
   rw [X7Q _ ht.1 v hv,X7Q _ (by omega) v hv]
   have a1:decide (Geo.crs t v.X v.Y>0)=false:=by simpa using ht.2.1
   have a2:decide (Geo.crs ((t+1) % 32) v.X v.Y≤0)=false:=by simpa using ht.2.2
   simp [a1,a2])
  (by
   intro i b hi _ R hR
   have hR':=hR () trivial
   simp only [W8,Wm]
   have hi32:i<32:=by omega
   have hw:=wS i (by omega)
   have hm:Int.tmod ((i+1:Nat):Int) 32=(((i+1) % 32:Nat):Int):=rfl
   rw [hw,hm,X2s _ hi32,X2s _ (by omega)]
   simp only [Option.bind_some]
   rw [X7Q _ hi32 v hv,X7Q _ (by omega) v hv]
   by_cases a1:Geo.crs i v.X v.Y>0
   ·simp [a1];simpa using hR'
   ·by_cases a2:Geo.crs ((i+1) % 32) v.X v.Y≤0
    ·simp [a1,a2];simpa using hR'
    ·exfalso
     have:Geo.Tow i v.X v.Y:=⟨by omega,by omega⟩
     have:=Geo.tow_eq hi32 this
     omega)
 exact key 0 () (by omega) trivial
theorem X69 {X Y:Int} (hx:0≤X) (hy:0<Y):Geo.tow X Y+1=X6q ⟨X,Y⟩ X7∧1≤X6q ⟨X,Y⟩ X7∧X6q ⟨X,Y⟩ X7≤8:=by
 unfold X6q X7
 have c0:Geo.crs 0 X Y=0*Y-1000*X:=rfl
 have c1:Geo.crs 1 X Y=195*Y-981*X:=rfl
 have c2:Geo.crs 2 X Y=383*Y-924*X:=rfl
 have c3:Geo.crs 3 X Y=556*Y-831*X:=rfl
 have c4:Geo.crs 4 X Y=707*Y-707*X:=rfl
 have c5:Geo.crs 5 X Y=831*Y-556*X:=rfl
 have c6:Geo.crs 6 X Y=924*Y-383*X:=rfl
 have c7:Geo.crs 7 X Y=981*Y-195*X:=rfl
 have c8:Geo.crs 8 X Y=1000*Y-0*X:=rfl
 by_cases h1:195*Y-981*X≤0
 rotate_left
 ·have ht:Geo.tow X Y=0:=Geo.tow_eq (by omega) ⟨by omega,by show Geo.crs 1 X Y>0;omega⟩
  have d0:decide ((0:Int)*Y-1000*X≤0)=true:=by simp;omega
  have d1:decide ((195:Int)*Y-981*X≤0)=false:=by simp;omega
  have d2:decide ((383:Int)*Y-924*X≤0)=false:=by simp;omega
  have d3:decide ((556:Int)*Y-831*X≤0)=false:=by simp;omega
  have d4:decide ((707:Int)*Y-707*X≤0)=false:=by simp;omega
  have d5:decide ((831:Int)*Y-556*X≤0)=false:=by simp;omega
  have d6:decide ((924:Int)*Y-383*X≤0)=false:=by simp;omega
  have d7:decide ((981:Int)*Y-195*X≤0)=false:=by simp;omega
  rw [ht]
  simp [List.countP_cons,d0,d1,d2,d3,d4,d5,d6,d7,show 0≤1000*X by omega]
 by_cases h2:383*Y-924*X≤0
 rotate_left
 ·have ht:Geo.tow X Y=1:=Geo.tow_eq (by omega) ⟨by omega,by show Geo.crs 2 X Y>0;omega⟩
  have d0:decide ((0:Int)*Y-1000*X≤0)=true:=by simp;omega
  have d1:decide ((195:Int)*Y-981*X≤0)=true:=by simp;omega
  have d2:decide ((383:Int)*Y-924*X≤0)=false:=by simp;omega
  have d3:decide ((556:Int)*Y-831*X≤0)=false:=by simp;omega
  have d4:decide ((707:Int)*Y-707*X≤0)=false:=by simp;omega
  have d5:decide ((831:Int)*Y-556*X≤0)=false:=by simp;omega
  have d6:decide ((924:Int)*Y-383*X≤0)=false:=by simp;omega
  have d7:decide ((981:Int)*Y-195*X≤0)=false:=by simp;omega
  rw [ht]
  simp [List.countP_cons,d0,d1,d2,d3,d4,d5,d6,d7,show 0≤1000*X by omega]
 by_cases h3:556*Y-831*X≤0
 rotate_left
 ·have ht:Geo.tow X Y=2:=Geo.tow_eq (by omega) ⟨by omega,by show Geo.crs 3 X Y>0;omega⟩
  have d0:decide ((0:Int)*Y-1000*X≤0)=true:=by simp;omega
  have d1:decide ((195:Int)*Y-981*X≤0)=true:=by simp;omega
  have d2:decide ((383:Int)*Y-924*X≤0)=true:=by simp;omega
  have d3:decide ((556:Int)*Y-831*X≤0)=false:=by simp;omega
  have d4:decide ((707:Int)*Y-707*X≤0)=false:=by simp;omega
  have d5:decide ((831:Int)*Y-556*X≤0)=false:=by simp;omega
  have d6:decide ((924:Int)*Y-383*X≤0)=false:=by simp;omega
  have d7:decide ((981:Int)*Y-195*X≤0)=false:=by simp;omega
  rw [ht]
  simp [List.countP_cons,d0,d1,d2,d3,d4,d5,d6,d7,show 0≤1000*X by omega]
 by_cases h4:707*Y-707*X≤0
 rotate_left
 ·have ht:Geo.tow X Y=3:=Geo.tow_eq (by omega) ⟨by omega,by show Geo.crs 4 X Y>0;omega⟩
  have d0:decide ((0:Int)*Y-1000*X≤0)=true:=by simp;omega
  have d1:decide ((195:Int)*Y-981*X≤0)=true:=by simp;omega
  have d2:decide ((383:Int)*Y-924*X≤0)=true:=by simp;omega
  have d3:decide ((556:Int)*Y-831*X≤0)=true:=by simp;omega
  have d4:decide ((707:Int)*Y-707*X≤0)=false:=by simp;omega
  have d5:decide ((831:Int)*Y-556*X≤0)=false:=by simp;omega
  have d6:decide ((924:Int)*Y-383*X≤0)=false:=by simp;omega
  have d7:decide ((981:Int)*Y-195*X≤0)=false:=by simp;omega
  rw [ht]
  simp [List.countP_cons,d0,d1,d2,d3,d4,d5,d6,d7,show 0≤1000*X by omega]
 by_cases h5:831*Y-556*X≤0
 rotate_left
 ·have ht:Geo.tow X Y=4:=Geo.tow_eq (by omega) ⟨by omega,by show Geo.crs 5 X Y>0;omega⟩
  have d0:decide ((0:Int)*Y-1000*X≤0)=true:=by simp;omega
  have d1:decide ((195:Int)*Y-981*X≤0)=true:=by simp;omega
  have d2:decide ((383:Int)*Y-924*X≤0)=true:=by simp;omega
  have d3:decide ((556:Int)*Y-831*X≤0)=true:=by simp;omega
  have d4:decide ((707:Int)*Y-707*X≤0)=true:=by simp;omega
  have d5:decide ((831:Int)*Y-556*X≤0)=false:=by simp;omega
  have d6:decide ((924:Int)*Y-383*X≤0)=false:=by simp;omega
  have d7:decide ((981:Int)*Y-195*X≤0)=false:=by simp;omega
  rw [ht]
  simp [List.countP_cons,d0,d1,d2,d3,d4,d5,d6,d7,show 0≤1000*X by omega]
 by_cases h6:924*Y-383*X≤0
 rotate_left
 ·have ht:Geo.tow X Y=5:=Geo.tow_eq (by omega) ⟨by omega,by show Geo.crs 6 X Y>0;omega⟩
  have d0:decide ((0:Int)*Y-1000*X≤0)=true:=by simp;omega
  have d1:decide ((195:Int)*Y-981*X≤0)=true:=by simp;omega
  have d2:decide ((383:Int)*Y-924*X≤0)=true:=by simp;omega
  have d3:decide ((556:Int)*Y-831*X≤0)=true:=by simp;omega
  have d4:decide ((707:Int)*Y-707*X≤0)=true:=by simp;omega
  have d5:decide ((831:Int)*Y-556*X≤0)=true:=by simp;omega
  have d6:decide ((924:Int)*Y-383*X≤0)=false:=by simp;omega
  have d7:decide ((981:Int)*Y-195*X≤0)=false:=by simp;omega
  rw [ht]
  simp [List.countP_cons,d0,d1,d2,d3,d4,d5,d6,d7,show 0≤1000*X by omega]
 by_cases h7:981*Y-195*X≤0
 rotate_left
 ·have ht:Geo.tow X Y=6:=Geo.tow_eq (by omega) ⟨by omega,by show Geo.crs 7 X Y>0;omega⟩
  have d0:decide ((0:Int)*Y-1000*X≤0)=true:=by simp;omega
  have d1:decide ((195:Int)*Y-981*X≤0)=true:=by simp;omega
  have d2:decide ((383:Int)*Y-924*X≤0)=true:=by simp;omega
  have d3:decide ((556:Int)*Y-831*X≤0)=true:=by simp;omega
  have d4:decide ((707:Int)*Y-707*X≤0)=true:=by simp;omega
  have d5:decide ((831:Int)*Y-556*X≤0)=true:=by simp;omega
  have d6:decide ((924:Int)*Y-383*X≤0)=true:=by simp;omega
  have d7:decide ((981:Int)*Y-195*X≤0)=false:=by simp;omega
  rw [ht]
  simp [List.countP_cons,d0,d1,d2,d3,d4,d5,d6,d7,show 0≤1000*X by omega]
 have ht:Geo.tow X Y=7:=Geo.tow_eq (by omega) ⟨by omega,by show Geo.crs 8 X Y>0;omega⟩
 have d0:decide ((0:Int)*Y-1000*X≤0)=true:=by simp;omega
 have d1:decide ((195:Int)*Y-981*X≤0)=true:=by simp;omega
 have d2:decide ((383:Int)*Y-924*X≤0)=true:=by simp;omega
 have d3:decide ((556:Int)*Y-831*X≤0)=true:=by simp;omega
 have d4:decide ((707:Int)*Y-707*X≤0)=true:=by simp;omega
 have d5:decide ((831:Int)*Y-556*X≤0)=true:=by simp;omega
 have d6:decide ((924:Int)*Y-383*X≤0)=true:=by simp;omega
 have d7:decide ((981:Int)*Y-195*X≤0)=true:=by simp;omega
 rw [ht]
 simp [List.countP_cons,d0,d1,d2,d3,d4,d5,d6,d7,show 0≤1000*X by omega]
theorem X81:∀ t,t<32→Geo.vx ((t+8) % 32)=Geo.vy t∧Geo.vy ((t+8) % 32) = - Geo.vx t:=by decide
theorem X6w (t:Nat) (ht:t<32) (X Y:Int):Geo.crs ((t+8) % 32) Y (-X)=Geo.crs t X Y:=by
 have h:=X81 t ht
 unfold Geo.crs
 rw [h.1,h.2]
 rw [Int.mul_neg,Int.neg_mul]
 omega
theorem X2Q {X Y:Int} (h:X≠0∨Y≠0):Geo.tow Y (-X)=(Geo.tow X Y+8) % 32:=by
 obtain ⟨h1,h2,h3⟩:=Geo.tow_spec h
 generalize Geo.tow X Y=t at *
 apply Geo.tow_eq (by omega)
 refine ⟨?_,?_⟩
 ·rw [X6w t h1];exact h2
 ·rw [show ((t+8) % 32+1) % 32=((t+1) % 32+8) % 32 by omega,X6w _ (by omega)];exact h3
theorem X8N {v:Zu} (hb : -60000≤v.X∧v.X≤60000 ∧ -60000≤v.Y∧v.Y≤60000) (h0:¬ (v.X=0∧v.Y=0)):X4E v=((Geo.tow v.X v.Y:Nat):Int):=by
 unfold X4E X4F
 by_cases c1:0≤v.X∧0<v.Y
 ·rw [if_pos c1]
  have h:=X69 c1.1 c1.2
  have he:X6q ⟨v.X,v.Y⟩ X7=X6q v X7:=rfl
  rw [he] at h
  simp only
  omega
 ·rw [if_neg c1]
  by_cases c2:0<v.X∧v.Y≤0
  ·rw [if_pos c2]
   have h1:=X69 (X := -v.Y) (Y:=v.X) (by omega) c2.1
   have h2:=X2Q (X := -v.Y) (Y:=v.X) (by omega)
   rw [Int.neg_neg] at h2
   simp only
   omega
  ·rw [if_neg c2]
   by_cases c3:v.X≤0∧v.Y<0
   ·rw [if_pos c3]
    have h1:=X69 (X := -v.X) (Y := -v.Y) (by omega) (by omega)
    have h2:=X2Q (X := -v.X) (Y := -v.Y) (by omega)
    have h3:=X2Q (X := -v.Y) (Y:=v.X) (by omega)
    rw [Int.neg_neg] at h2 h3
    simp only
    omega
   ·rw [if_neg c3]
    have h1:=X69 (X:=v.Y) (Y := -v.X) (by omega) (by omega)
    have h2:=X2Q (X:=v.Y) (Y := -v.X) (by omega)
    have h3:=X2Q (X := -v.X) (Y := -v.Y) (by omega)
    have h4:=X2Q (X := -v.Y) (Y:=v.X) (by omega)
    rw [Int.neg_neg] at h3 h4
    simp only
    omega
theorem X6O {v:Zu} (hb : -60000≤v.X∧v.X≤60000 ∧ -60000≤v.Y∧v.Y≤60000) (h0:¬ (v.X=0∧v.Y=0)):X2L v=some (X4E v):=by
 rw [X6N v (by unfold Bd;omega) (by omega),X8N hb h0]
end Nore
open Go Go.Ab
namespace Nore
theorem X8l {f:ZJ} (hA:f.Areas.length≤6) (p:Zu):∃ k:Int,X4k f p=some k∧((k<0∧X6p f p=none)∨(0≤k∧k.toNat<f.Areas.length∧X6p f p=some (f.Areas.getD k.toNat ⟨⟨0,0⟩,⟨0,0⟩,⟨0,0⟩,0⟩))):=by
 rw [X5I];unfold X21
 obtain ⟨w,h1,h2⟩:=X1j (Wb p f) f.Areas.length (fun i (_:Unit)=>(i:Int)) (fun i _=>X6p f p=(f.Areas.drop i).find? fun a=>X4a a p)
  (fun w=>(w = .inr ()∧X6p f p=none)∨∃ k:Nat,k<f.Areas.length∧w = .inl (k:Int)∧X6p f p=some (f.Areas.getD k ⟨⟨0,0⟩,⟨0,0⟩,⟨0,0⟩,0⟩))
  (fun _ hb=>⟨.inr (),by simp [Wb,Wo],.inl ⟨rfl,by simpa using hb⟩⟩)
  (fun i _ hi hb=>by
   have hw:=wS i (by omega)
   have e1:decide ((i:Int)<↑f.Areas.length)=true:=by simp [hi]
   have e2:=z0S i
   obtain ⟨a,ha⟩:∃ a,f.Areas[i]=a:=⟨_,rfl⟩
   have hgd:f.Areas.getD i ⟨⟨0,0⟩,⟨0,0⟩,⟨0,0⟩,0⟩=a:=(X0 _ _ _ hi).trans ha
   rw [List.drop_eq_getElem_cons hi,ha,List.find?_cons] at hb
   have hin:X4a a p=(inN p.X a.X.Lo a.X.Hi&&inN p.Y a.Y.Lo a.Y.Hi):=by
    unfold X4a inN
    rw [Bool.eq_iff_iff]
    simp<;>omega
   simp only [Wb,Wo,Int.toNat_natCast,hgd,hw,e1,e2,Bool.and_self,cond_true,Xy,Option.bind_some]
   cases c1:inN p.X a.X.Lo a.X.Hi
   ·right
    rw [hin,c1] at hb
    exact ⟨(),rfl,by simpa using hb⟩
   ·simp only [cond_true]
    cases c2:inN p.Y a.Y.Lo a.Y.Hi
    ·right
     rw [hin,c1,c2] at hb
     exact ⟨(),rfl,by simpa using hb⟩
    ·left
     rw [hin,c1,c2] at hb
     exact ⟨_,rfl,.inr ⟨i,hi,rfl,by rw [hgd];simpa using hb⟩⟩) 0 () (by omega) rfl
 have h1':X2U p f 0=some w:=h1
 rw [h1']
 simp only [Option.bind_some]
 rcases h2 with ⟨h3,h4⟩|⟨k,h3,h4,h5⟩
 ·subst h3
  exact ⟨-1,rfl,.inl ⟨by omega,h4⟩⟩
 ·subst h4
  exact ⟨(k:Int),rfl,.inr ⟨by omega,by simpa using h3,by simpa using h5⟩⟩
def X6o (f:ZJ) (x:Zn) (p:Zu) (v:Int):Bool:=(X2o f p x).2&&(decide ((X2o f p x).1.Lo≤v)&&decide (v≤(X2o f p x).1.Hi))
theorem X8k {f:ZJ} (hg:X1L f) {x:Zn} (hx:WM f x=0) {p:Zu} (hp:Bd 30000 p) {v:Int} (hv : -X3m (XX f x.Instrument)≤v∧v≤X3m (XX f x.Instrument)):X3D f x p v=some (X6o f x p v):=by
 rw [X5G];unfold X20 X6o X2o
 obtain ⟨h1,h2,h3⟩:=X5i hx
 have i1:decide (0≤x.Instrument)=true:=by simp;omega
 have i2:decide (x.Instrument<(↑f.Instruments.length:Int))=true:=by simp;omega
 have hgi:f.Instruments.getD x.Instrument.toNat ⟨ByteArray.empty,false,⟨0,0⟩⟩=XX f x.Instrument:=rfl
 simp only [i1,i2,hgi,Bool.and_self,cond_true]
 cases hL:(XX f x.Instrument).Lead
 ·have h3:=h3 hL
  have hfar:X3m (XX f x.Instrument)=4:=by unfold X3m;rw [hL];rfl
  rw [hfar] at hv
  have m1:decide (0≤x.Mark)=true:=by simp;omega
  have m2:decide (x.Mark<(↑f.Chart.Marks.length:Int))=true:=by simp;omega
  have hgm:f.Chart.Marks.getD x.Mark.toNat ⟨ByteArray.empty,⟨0,0⟩,[]⟩=Z8y f x.Mark:=rfl
  have hma:=X7T hg h3.1 h3.2.1
  unfold Bd at hma hp
  simp only [Bool.not_false,cond_true,m1,m2,hgm,Bool.and_self,Bool.and_true,Bool.false_eq_true,if_false]
  rw [w64 (x:=(Z8y f x.Mark).At.X-p.X) (by omega) (by omega),w64 (x:=(Z8y f x.Mark).At.Y-p.Y) (by omega) (by omega)]
  have hfp:X3H 30000 p=false:=by rw [X6x];unfold Bd;omega
  have hsn:X1M f x.Mark p=if (Z8y f x.Mark).At=p then -1 else X4E (Xs (Z8y f x.Mark).At p):=by
   unfold X1M X74
   rw [h3.2.2.1,hfp]
   by_cases c:(Z8y f x.Mark).At=p<;>simp [c]
  by_cases c:(Z8y f x.Mark).At=p
  ·rw [if_pos c] at hsn
   rw [hsn,c]
   simp
  ·rw [if_neg c] at hsn
   have h00:¬ ((Z8y f x.Mark).At.X-p.X=0∧(Z8y f x.Mark).At.Y-p.Y=0):=fun q=>c (Zu.ext (by omega) (by omega))
   have e0:((Z8y f x.Mark).At.X-p.X==0&&(Z8y f x.Mark).At.Y-p.Y==0)=false:=by
    cases hc:((Z8y f x.Mark).At.X-p.X==0&&(Z8y f x.Mark).At.Y-p.Y==0)
    ·rfl
    ·exfalso;simp at hc;exact h00 ⟨by omega,by omega⟩
   simp only [e0,Bool.not_false,cond_true]
   rw [show (⟨(Z8y f x.Mark).At.X-p.X,(Z8y f x.Mark).At.Y-p.Y⟩:Zu)=Xs (Z8y f x.Mark).At p from rfl,X6O (by unfold Xs;simp only;omega) (by unfold Xs;exact h00)]
   simp only [Option.bind_some]
   have hpb:=X8g (v:=Xs (Z8y f x.Mark).At p) (by unfold Xs;simp only;omega) (by unfold Xs;exact h00)
   rw [hsn]
   generalize X4E (Xs (Z8y f x.Mark).At p)=s at *
   rw [w64 (x:=s+v) (by omega) (by omega),w64 (x:=s+v+32) (by omega) (by omega),Int.tmod_eq_emod_of_nonneg (by omega)]
   congr 1
   have hk:(((s+v+32) % 32==x.Shown)=true)↔(decide (s≥0)&&(decide (X7i x.Shown s≤v)&&decide (v≤X7i x.Shown s)))=true:=by
    simp only [beq_iff_eq,Bool.and_eq_true,decide_eq_true_eq]
    unfold X7i
    constructor
    ·intro h
     refine ⟨by omega,?_,?_⟩<;>split<;>omega
    ·rintro ⟨_,a,b⟩
     split at a<;>omega
   exact Bool.eq_iff_iff.2 hk
 ·have hfar:X3m (XX f x.Instrument)=20:=by unfold X3m;rw [hL];rfl
  have h2:=h2 hL
  rw [hfar] at hv
  simp only [Bool.not_true,cond_false,if_true]
  obtain ⟨k,hk1,hk2⟩:=X8l (f:=f) hg.areas p
  rw [hk1]
  simp only [Option.bind_some]
  rcases hk2 with ⟨hk2,hk3⟩|⟨hk2,hk3,hk4⟩
  ·have e:decide (k<0)=true:=by simpa using hk2
   rw [e,hk3]
   simp only [cond_true,Bool.true_and]
   have a1:decide ((-20:Int)≤v)=true:=by simp;omega
   have a2:decide (v≤(20:Int))=true:=by simp;omega
   rw [a1,a2];rfl
  ·have e:decide (k<0)=false:=by simp;omega
   have e1:decide (0≤k)=true:=by simp;omega
   have e2:decide (k<(↑f.Areas.length:Int))=true:=by simp;omega
   rw [hk4]
   have ha:=X8A (hg.area _ (List.getElem_mem hk3))
   rw [X0 _ _ _ hk3] at *
   generalize f.Areas[k.toNat]=a at *
   simp only [e,e1,e2,cond_false,cond_true,Bool.and_self]
   rw [w64 (x:=x.Shown-v) (by omega) (by omega),Xy]
   simp only [Option.bind_some]
   have hin:inN (x.Shown-v) a.Depth.Lo a.Depth.Hi=(decide (x.Shown-a.Depth.Hi≤v)&&decide (v≤x.Shown-a.Depth.Lo)):=by
    unfold inN
    rw [Bool.eq_iff_iff]
    simp<;>omega
   rw [hin]
   cases (decide (x.Shown-a.Depth.Hi≤v)&&decide (v≤x.Shown-a.Depth.Lo))
   ·simp
   ·cases (x.Ground==0)<;>simp
def X53 (lo:Int):Nat→List Int
 | 0=>[]
 | n+1=>lo::X53 (lo+1) n
theorem X7p:∀ (n:Nat) (lo v:Int),v∈X53 lo n↔lo≤v∧v<lo+n
 | 0,lo,v=>by simp only [X53,List.not_mem_nil,false_iff];omega
 | n+1,lo,v=>by
  simp only [X53,List.mem_cons,X7p n]
  omega
def X49 (f:ZJ) (l:List Zn) (p:Zu) (i:Nat) (v:Int):Bool:=l.all fun x => !(decide (x.Instrument.toNat=i))||X6o f x p v
def X4C (f:ZJ) (l:List Zn) (p:Zu) (i:Nat):List Int:=(X53 (X8 f i).Lo ((X8 f i).Hi-(X8 f i).Lo+1).toNat).filter fun v=>X49 f l p i v
def X31 (f:ZJ) (marks:List Bool) (x:Zn):Bool:=(XX f x.Instrument).Lead || !(marks.getD x.Mark.toNat false)
theorem X70 {f:ZJ} (hg:X1L f) {l:List Zn} (hl:∀ x∈l,WM f x=0) (hll:l.length≤1000) {p:Zu} (hp:Bd 30000 p) (i:Nat) (hi:i<f.Instruments.length) (marks:List Bool) (hm:marks.length=f.Chart.Marks.length):X35 f l p (i:Int) marks=some (X4C f (l.filter (X31 f marks)) p i):=by
 rw [X5g];unfold X1H
 have hI:=hg.inst
 have i1:decide ((0:Int)≤(i:Int))=true:=by simp
 have i2:decide ((i:Int)<(↑f.Instruments.length:Int))=true:=by simp [hi]
 have hgd:f.Instruments.getD i ⟨ByteArray.empty,false,⟨0,0⟩⟩=f.Instruments[i]:=X0 _ _ _ hi
 have ho:=hg.off _ (List.getElem_mem hi)
 have hof:X8 f i=f.Instruments[i].Off:=by unfold X8;rw [dif_pos hi]
 have hfb:0≤X3m f.Instruments[i]∧X3m f.Instruments[i]≤20:=by unfold X3m;split<;>omega
 have hio:XX f (i:Int)=f.Instruments[i]:=hgd
 simp only [i1,i2,Bool.and_self,cond_true,Int.toNat_natCast,hgd]
 have inner:∀ v:Int,-X3m f.Instruments[i]≤v∧v≤X3m f.Instruments[i]→X2H (i:Int) l marks v p f (true,0)=some (X49 f (l.filter (X31 f marks)) p i v):=fun v hv=>by
  obtain ⟨w,h1,h2⟩:=X1j (XV (i:Int) l marks v p f) l.length (fun k (c:Bool)=>(c,(k:Int))) (fun k c=>(c&&X49 f ((l.drop k).filter (X31 f marks)) p i v)=X49 f (l.filter (X31 f marks)) p i v) (fun w=>w=X49 f (l.filter (X31 f marks)) p i v)
   (fun c hc=>⟨c,by simp [XV,W2],by
    rw [List.drop_length] at hc
    simpa [X49] using hc⟩)
   (fun k c hk hc=>by
    have e1:decide ((k:Int)<↑l.length)=true:=by simp [hk]
    have e2:=z0S k
    have hw:=wS k (by omega)
    have hx:=hl _ (List.getElem_mem hk)
    obtain ⟨x,hxd⟩:∃ x,l[k]=x:=⟨_,rfl⟩
    rw [hxd] at hx
    have hgx:l.getD k ⟨0,0,0,0⟩=x:=(X0 _ _ _ hk).trans hxd
    obtain ⟨n1,n2⟩:=X8a hx
    rw [List.drop_eq_getElem_cons hk,hxd,List.filter_cons] at hc
    simp only [XV,W2,e1,e2,hw,cond_true,Int.toNat_natCast,hgx,Bool.and_self]
    cases c
    ·left
     refine ⟨false,rfl,?_⟩
     simpa using hc
    ·right
     simp only [cond_true]
     rw [Bool.true_and] at hc
     by_cases ci:x.Instrument=(i:Int)
     ·have ec:(x.Instrument==(i:Int))=true:=by simpa using ci
      simp only [ec,cond_true,i1,i2,Bool.and_self,hgd]
      have hag:=X8k hg hx hp (v:=v) (by rw [ci,hio];exact hv)
      have hti:x.Instrument.toNat=i:=by omega
      cases hL:f.Instruments[i].Lead
      ·obtain ⟨m1,m2⟩:=X8X hx (by rw [ci,hio];exact hL)
       have d1:decide (0≤x.Mark)=true:=by simp;omega
       have d2:decide (x.Mark<(marks.length:Int))=true:=by simp;omega
       have hlm:X31 f marks x = !(marks.getD x.Mark.toNat false):=by unfold X31;rw [ci,hio,hL];rfl
       rw [hlm] at hc
       simp only [cond_false,d1,d2,Bool.and_self,cond_true]
       cases hb:marks.getD x.Mark.toNat false
       ·simp only [Bool.not_false,cond_true,hag,Option.bind_some]
        rw [hb] at hc
        refine ⟨X6o f x p v,rfl,?_⟩
        rw [←hc]
        simp [X49,hti]
       ·simp only [Bool.not_true,cond_false]
        rw [hb] at hc
        refine ⟨true,rfl,?_⟩
        rw [←hc]
        simp
      ·have hlm:X31 f marks x=true:=by unfold X31;rw [ci,hio,hL];rfl
       rw [hlm] at hc
       simp only [cond_true,hag,Option.bind_some]
       refine ⟨X6o f x p v,rfl,?_⟩
       rw [←hc]
       simp [X49,hti]
     ·have ec:(x.Instrument==(i:Int))=false:=by simpa using ci
      have hti:¬ x.Instrument.toNat=i:=by omega
      simp only [ec,cond_false]
      refine ⟨true,rfl,?_⟩
      rw [←hc]
      cases X31 f marks x<;>simp [X49,hti]) 0 true (by omega) (by simp)
  exact h1.trans (by rw [h2])
 have hn:((((X8 f i).Hi-(X8 f i).Lo+1).toNat:Nat):Int)=(X8 f i).Hi-(X8 f i).Lo+1:=by rw [hof];omega
 obtain ⟨w,h1,h2⟩:=X1j (XU (i:Int) l marks p f) ((X8 f i).Hi-(X8 f i).Lo+1).toNat (fun k (b:List Int)=>((X8 f i).Lo+(k:Int),b)) (fun k b=>b.length≤k∧b++(X53 ((X8 f i).Lo+k) (((X8 f i).Hi-(X8 f i).Lo+1).toNat-k)).filter (fun v=>X49 f (l.filter (X31 f marks)) p i v)=X4C f (l.filter (X31 f marks)) p i) (fun w=>w=X4C f (l.filter (X31 f marks)) p i)
  (fun b hb=>⟨b,by
   have e:decide ((X8 f i).Lo+((((X8 f i).Hi-(X8 f i).Lo+1).toNat:Nat):Int)≤f.Instruments[i].Off.Hi)=false:=by rw [←hof];simp;omega
   simp only [XU,W1,i1,i2,Bool.and_self,cond_true,Int.toNat_natCast,hgd,e,cond_false],by
   have:=hb.2
   rw [Nat.sub_self] at this
   simpa [X53] using this⟩)
  (fun k b hk hb=>by
   right
   obtain ⟨hb1,hb2⟩:=hb
   have e:decide ((X8 f i).Lo+(k:Int)≤f.Instruments[i].Off.Hi)=true:=by rw [←hof];simp;omega
   have hk':(k:Int)<f.Instruments[i].Off.Hi-f.Instruments[i].Off.Lo+1:=by rw [←hof];omega
   have hw:IntKind.wrap .i64 ((X8 f i).Lo+(k:Int)+1)=(X8 f i).Lo+((k+1:Nat):Int):=by rw [hof];rw [w64]<;>omega
   have ble:Nat.ble ((b.length+[(X8 f i).Lo+(k:Int)].length)*(8+1)) 200000000000000=true:=by
    apply Nat.ble_eq_true_of_le;simp only [List.length_cons,List.length_nil]
    have:k≤100:=by rw [hof] at hn hk;omega
    omega
   have hr:X53 ((X8 f i).Lo+(k:Int)) (((X8 f i).Hi-(X8 f i).Lo+1).toNat-k)=((X8 f i).Lo+(k:Int))::X53 ((X8 f i).Lo+((k+1:Nat):Int)) (((X8 f i).Hi-(X8 f i).Lo+1).toNat-(k+1)):=by
    rw [show ((X8 f i).Hi-(X8 f i).Lo+1).toNat-k=(((X8 f i).Hi-(X8 f i).Lo+1).toNat-(k+1))+1 by omega,X53,show (X8 f i).Lo+(k:Int)+1=(X8 f i).Lo+((k+1:Nat):Int) by push_cast;omega]
   rw [hr,List.filter_cons] at hb2
   simp only [XU,W1,i1,i2,Bool.and_self,cond_true,Int.toNat_natCast,hgd,e,hw]
   rw [inner _ (by rw [hof] at *;omega)]
   simp only [Option.bind_some]
   cases hh:X49 f (l.filter (X31 f marks)) p i ((X8 f i).Lo+(k:Int))
   ·rw [hh] at hb2
    exact ⟨b,rfl,by omega,by simpa using hb2⟩
   ·rw [hh] at hb2
    simp only [cond_true,ble]
    exact ⟨b++[(X8 f i).Lo+(k:Int)],rfl,by simp;omega,by simpa using hb2⟩) 0 [] (by omega) ⟨by simp,by simp [X4C]⟩
 have h1':X2G (i:Int) l marks p f (f.Instruments[i].Off.Lo,[])=some w:=by
  rw [←hof]
  have:(X8 f i).Lo+((0:Nat):Int)=(X8 f i).Lo:=by omega
  rw [this] at h1
  exact h1
 rw [h1',h2];rfl
theorem X6D {f:ZJ} (hg:X1L f) (l:List Zn) (p:Zu) (i:Nat) (v:Int):v∈X4C f l p i↔Num f l p 0 0 i v:=by
 unfold X4C Num X7e
 have ho:=X6E hg i
 rw [List.mem_filter,X7p]
 unfold X49
 rw [List.all_eq_true]
 constructor
 ·rintro ⟨h1,h2⟩
  refine ⟨by unfold inS;omega,fun x hx _ he => ?_⟩
  have:=h2 x hx
  rw [he] at this
  simp only [decide_true,Bool.not_true,Bool.false_or] at this
  unfold X6o at this
  simp only [Bool.and_eq_true,decide_eq_true_eq] at this
  exact ⟨this.1,this.2.1,this.2.2⟩
 ·rintro ⟨h1,h2⟩
  unfold inS at h1
  refine ⟨by omega,fun x hx => ?_⟩
  by_cases c:x.Instrument.toNat=i
  ·obtain ⟨h3,h4⟩:=h2 x hx (X7M _ _) c
   unfold inS at h4
   unfold X6o
   simp [c,h3,h4.1,h4.2]
  ·simp [c]
end Nore
open Go Go.Ab
namespace Nore
theorem X7X {f:ZJ} (hg:X1L f):X5q f=some (X3X f):=by
 rw [X6i];unfold X2D
 have hh:=hg.half
 have hs:=hg.step
 have hw0:(X5 f:Int)=2*f.Half+1:=by unfold X5;omega
 have hw2:IntKind.wrap .i64 (0-f.Half) = -f.Half:=by rw [w64]<;>omega
 have inner:∀ (x:Int),-8≤x∧x≤8→∀ acc:List Zu,acc.length≤1000000→X2v x f (-f.Half,acc)=some (acc++Xz f x (-f.Half) (X5 f)):=fun x hx acc ha=>by
  obtain ⟨w,h1,h2⟩:=X1j (X17 x f) (X5 f) (fun k (b:List Zu)=>(-f.Half+(k:Int),b)) (fun k b=>b.length≤1000000+k∧b++Xz f x (-f.Half+k) (X5 f-k)=acc++Xz f x (-f.Half) (X5 f)) (fun w=>w=acc++Xz f x (-f.Half) (X5 f))
   (fun b hb=>⟨b,by
    have e1:decide (-f.Half+(X5 f:Int)≤f.Half)=false:=by simp;omega
    simp only [X17,X1i,e1,cond_false],by
    have:=hb.2
    rw [Nat.sub_self] at this
    simpa [Xz] using this⟩)
   (fun k b hk hb=>by
    right
    obtain ⟨hb1,hb2⟩:=hb
    have e1:decide (-f.Half+(k:Int)≤f.Half)=true:=by simp;omega
    have hw:IntKind.wrap .i64 (-f.Half+(k:Int)+1) = -f.Half+((k+1:Nat):Int):=by rw [w64]<;>omega
    have m1:=X52 (a:=x) (b:=f.Step) 8 500 (by omega) (by omega) (by omega) (by omega)
    have m2:=X52 (a := -f.Half+(k:Int)) (b:=f.Step) 8 500 (by omega) (by omega) (by omega) (by omega)
    have ble:∀ y:Zu,Nat.ble ((b.length+[y].length)*(16+1)) 200000000000000=true:=fun y=>by
     apply Nat.ble_eq_true_of_le;simp only [List.length_cons,List.length_nil];omega
    have hrow:Xz f x (-f.Half+(k:Int)) (X5 f-k)=⟨x*f.Step,(-f.Half+(k:Int))*f.Step⟩::Xz f x (-f.Half+((k+1:Nat):Int)) (X5 f-(k+1)):=by
     rw [show X5 f-k=(X5 f-(k+1))+1 by omega,Xz,show -f.Half+(k:Int)+1 = -f.Half+((k+1:Nat):Int) by push_cast;omega]
    rw [hrow] at hb2
    refine ⟨b++[⟨x*f.Step,(-f.Half+(k:Int))*f.Step⟩],?_,by simp;omega,by rw [←hb2];simp⟩
    simp only [X17,X1i,e1,hw,cond_true]
    rw [w64 (x:=x*f.Step) (by omega) (by omega),w64 (x:=(-f.Half+(k:Int))*f.Step) (by omega) (by omega),ble,cond_true]) 0 acc (by omega) ⟨by omega,by simp⟩
  have h1':X2v x f (-f.Half,acc)=some w:=by
   have : -f.Half+((0:Nat):Int) = -f.Half:=by omega
   rw [this] at h1;exact h1
  rw [h1',h2]
 obtain ⟨w,h1,h2⟩:=X1j (X16 f) (X5 f) (fun k (b:List Zu)=>(-f.Half+(k:Int),b)) (fun k b=>b.length≤k*100∧b++XP f (-f.Half+k) (X5 f-k)=X3X f) (fun w=>w=X3X f)
  (fun b hb=>⟨b,by
   have e1:decide (-f.Half+(X5 f:Int)≤f.Half)=false:=by simp;omega
   simp only [X16,X1h,e1,cond_false],by
   have:=hb.2
   rw [Nat.sub_self] at this
   simpa [XP] using this⟩)
  (fun k b hk hb=>by
   right
   obtain ⟨hb1,hb2⟩:=hb
   have e1:decide (-f.Half+(k:Int)≤f.Half)=true:=by simp;omega
   have hw:IntKind.wrap .i64 (-f.Half+(k:Int)+1) = -f.Half+((k+1:Nat):Int):=by rw [w64]<;>omega
   have hgr:XP f (-f.Half+(k:Int)) (X5 f-k)=Xz f (-f.Half+(k:Int)) (-f.Half) (X5 f)++XP f (-f.Half+((k+1:Nat):Int)) (X5 f-(k+1)):=by
    rw [show X5 f-k=(X5 f-(k+1))+1 by omega,XP,show -f.Half+(k:Int)+1 = -f.Half+((k+1:Nat):Int) by push_cast;omega]
   rw [hgr] at hb2
   refine ⟨b++Xz f (-f.Half+(k:Int)) (-f.Half) (X5 f),?_,by rw [List.length_append,X44];omega,by rw [←hb2];simp⟩
   simp only [X16,X1h,e1,hw,hw2,cond_true]
   rw [inner _ (by omega) b (by omega)]
   rfl) 0 [] (by omega) ⟨by simp,by simp [X3X]⟩
 have h1':X3E f (-f.Half,[])=some w:=by
  have : -f.Half+((0:Nat):Int) = -f.Half:=by omega
  rw [this] at h1;exact h1
 rw [hw2,h1',h2];rfl
def X67 (f:ZJ) (l:List Zn) (p:Zu) (marks insts:List Bool):Bool:=(List.range f.Instruments.length).all fun i=>insts.getD i false || !(X4C f (l.filter (X31 f marks)) p i).isEmpty
theorem X7x {f:ZJ} (hg:X1L f) {l:List Zn} (hl:∀ x∈l,WM f x=0) (hll:l.length≤1000) {p:Zu} (hp:Bd 30000 p) (marks insts:List Bool) (hm:marks.length=f.Chart.Marks.length) (hin:insts.length=f.Instruments.length):X4l f l p marks insts=some (X67 f l p marks insts):=by
 rw [X5K];unfold X22
 have hI:=hg.inst
 obtain ⟨w,h1,h2⟩:=X1j (Wc marks l insts p f) f.Instruments.length (fun i (_:Unit)=>(i:Int)) (fun i _=>(((List.range f.Instruments.length).drop i).all fun i=>insts.getD i false || !(X4C f (l.filter (X31 f marks)) p i).isEmpty)=X67 f l p marks insts)
  (fun w=>(w = .inr ()∧X67 f l p marks insts=true)∨(w = .inl false∧X67 f l p marks insts=false))
  (fun _ hb=>⟨.inr (),by simp [Wc,Wp],.inl ⟨rfl,by
   rw [List.drop_of_length_le (by simp)] at hb
   simpa using hb.symm⟩⟩)
  (fun i _ hi hb=>by
   have hw:=wS i (by omega)
   have e1:decide ((i:Int)<↑f.Instruments.length)=true:=by simp [hi]
   have e2:=z0S i
   have e3:decide ((i:Int)<↑insts.length)=true:=by simp;omega
   have hdr:(List.range f.Instruments.length).drop i=i::(List.range f.Instruments.length).drop (i+1):=by
    rw [List.drop_eq_getElem_cons (by simpa using hi)];simp
   rw [hdr,List.all_cons] at hb
   simp only [Wc,Wp,Int.toNat_natCast,hw,e1,e2,e3,Bool.and_self,cond_true]
   cases hgo:insts.getD i false
   ·simp only [Bool.not_false,cond_true]
    rw [X70 hg hl hll hp i hi marks hm]
    simp only [Option.bind_some]
    rw [hgo] at hb
    cases hn:X4C f (l.filter (X31 f marks)) p i with
    | nil =>
     left
     rw [hn] at hb
     exact ⟨.inl false,by simp,.inr ⟨rfl,by simpa using hb.symm⟩⟩
    | cons a r =>
     right
     rw [hn] at hb
     have e0:(((a::r).length:Int)==0)=false:=by apply X4p;simp only [List.length_cons];omega
     exact ⟨(),by simp only [e0,cond_false],by simpa using hb⟩
   ·right
    rw [hgo] at hb
    exact ⟨(),by simp,by simpa using hb⟩) 0 () (by omega) rfl
 have h1':X2V marks l insts p f 0=some w:=h1
 rw [h1']
 rcases h2 with ⟨h3,h4⟩|⟨h3,h4⟩
 ·subst h3;rw [h4];rfl
 ·subst h3;rw [h4];rfl
theorem X83 {f:ZJ} (hg:X1L f) {l:List Zn} (hl:∀ x∈l,WM f x=0) (p:Zu):X67 f l p (List.replicate f.Chart.Marks.length false) (List.replicate f.Instruments.length false)=(atN f l p 0 0).2:=by
 have hf:l.filter (X31 f (List.replicate f.Chart.Marks.length false))=l:=by
  apply List.filter_eq_self.2
  intro x _
  unfold X31
  have:(List.replicate f.Chart.Marks.length false).getD x.Mark.toNat false=false:=by
   rw [List.getD_eq_getElem?_getD,List.getElem?_replicate]
   split<;>rfl
  rw [this];simp
 rw [Bool.eq_iff_iff,X94 hg]
 unfold X67
 rw [hf,List.all_eq_true]
 constructor
 ·intro h i
  by_cases c:i<f.Instruments.length
  ·have h1:=h i (List.mem_range.2 c)
   have h2:(List.replicate f.Instruments.length false).getD i false=false:=by
    rw [List.getD_eq_getElem?_getD,List.getElem?_replicate]
    split<;>rfl
   rw [h2,Bool.false_or] at h1
   cases hn:X4C f l p i with
   | nil=>rw [hn] at h1;cases h1
   | cons a r=>exact ⟨a,(X6D hg l p i a).1 (by rw [hn];simp)⟩
  ·refine ⟨0,?_,fun x hx _ he => ?_⟩
   ·unfold inS X8
    rw [dif_neg c];simp
   ·exfalso
    have:=(X8a (hl x hx)).2
    omega
 ·intro h i hi
  obtain ⟨v,hv⟩:=h i
  have:=(X6D hg l p i v).2 hv
  cases hn:X4C f l p i with
  | nil=>rw [hn] at this;cases this
  | cons a r=>simp
theorem X8x (n:Nat) (hn:n≤100):((n:Int)==(n:Int)&&decide (0≤(n:Int))&&Nat.ble (n*(1+1)) 200000000000000&&Nat.blt 0 1)=true:=by
 have b:Nat.ble (n*(1+1)) 200000000000000=true:=by apply Nat.ble_eq_true_of_le;omega
 rw [b]
 simp
theorem X7A {f:ZJ} {l:List Zn} (hs:X6v f l):X3G f l=some (X4 f l):=by
 rw [X5O];unfold X24
 have hg:=hs.fix
 have hM:=hg.marks
 have hI:=hg.inst
 rw [X7X hg]
 simp only [Option.bind_some]
 have hgl:(X3X f).length≤1000:=by
  have hh:=hg.half
  have hw0:(X5 f:Int)=2*f.Half+1:=by unfold X5;omega
  have hw1:X5 f≤17:=by omega
  have:∀ (n:Nat) (x:Int),(XP f x n).length=n*X5 f:=fun n=>by
   induction n with
   | zero=>intro x;simp [XP]
   | succ n ih=>intro x;simp only [XP,List.length_append,X44,ih,Nat.succ_mul];omega
  have h3:(X3X f).length=X5 f*X5 f:=this _ _
  have h4:X5 f*X5 f≤17*17:=Nat.mul_le_mul hw1 hw1
  omega
 have hbd:∀ p∈X3X f,Bd 4000 p:=fun p hp=>X8B hg hp
 have hpl:X4 f l=((X3X f).filter fun p=>(atN f l p 0 0).2):=rfl
 rw [hpl]
 generalize X3X f=g at *
 have h:=X93 (Wf l g f) g (fun p=>if (atN f l p 0 0).2 then [p] else []) 1 (fun x _=>by split<;>simp)
  (fun b=>by simp [Wf,Ws])
  (fun i b hi hb=>by
   have e1:decide ((i:Int)<↑g.length)=true:=by simp [hi]
   have e2:=z0S i
   have hw:=wS i (by omega)
   have ble:Nat.ble ((b.length+[g[i]].length)*(16+1)) 200000000000000=true:=by
    apply Nat.ble_eq_true_of_le;simp only [List.length_cons,List.length_nil];omega
   have hb':=hbd _ (List.getElem_mem hi)
   simp only [Wf,Ws,e1,e2,Bool.and_self,cond_true,Int.toNat_natCast,X0 _ _ _ hi,hw]
   rw [X8x _ (by omega),X8x _ (by omega)]
   simp only [cond_true]
   have hag:=X7x hg hs.each (by have:=hs.len;omega) (p:=g[i]) (by unfold Bd at *;omega) (List.replicate f.Chart.Marks.length false) (List.replicate f.Instruments.length false) (by simp) (by simp)
   rw [hag,X83 hg hs.each]
   simp only [Option.bind_some,ble]
   cases (atN f l g[i] 0 0).2<;>simp)
 have h':X2Y l g f (0,[])=_:=h
 rw [h',X6S (fun p=>(atN f l p 0 0).2) (fun p=>p)]
 simp
end Nore
open Go Go.Ab
namespace Nore
theorem X95 {f:ZJ} (hg:X1L f) {l:List Zn} (m:Int) (i:Nat) (hi:i<f.Instruments.length) (hL:f.Instruments[i].Lead=false) (j:Nat) (hj:j<32) (h0:0≤m) (h1:m<f.Chart.Marks.length) {p:Zu} (hal:(atN f l p 0 0).2=true):(!(X4C f (l++[⟨i,m,j,0⟩]) p i).isEmpty)=X5b f l m i j p:=by
 have hio:XX f ((i:Nat):Int)=f.Instruments[i]:=X0 _ _ _ hi
 have hx:∀ v,((X2o f p ⟨i,m,j,0⟩).2=true∧inS v (X2o f p ⟨i,m,j,0⟩).1)↔0≤X1M f m p∧v=X7i j (X1M f m p):=fun v=>by
  unfold X2o
  rw [hio,hL]
  simp only [Bool.false_eq_true,if_false]
  unfold inS
  simp only [decide_eq_true_eq]
  omega
 have hsb:=X7Y hg h0 h1 p
 have ho:=X8S hg hal hi hL
 rw [Bool.eq_iff_iff]
 constructor
 ·intro h
  cases hn:X4C f (l++[⟨i,m,j,0⟩]) p i with
  | nil=>rw [hn] at h;cases h
  | cons v r =>
   have hv:=(X6D hg _ p i v).1 (by rw [hn];simp)
   have hv1:inS v ((atN f l p 0 0).1 i):=((X7N hg hal i).2 v).2 (X92 (fun x hx=>by simp [hx]) hv)
   have hv2:=(hx v).1 (hv.2 ⟨i,m,j,0⟩ (by simp) (X7M _ _) (by simp))
   unfold X5b
   unfold inS at hv1
   have hcm:=hv2.2
   unfold X7i at hcm
   simp only [Bool.and_eq_true,decide_eq_true_eq]
   refine ⟨hv2.1,?_⟩
   split at hcm<;>omega
 ·intro hh
  unfold X5b at hh
  simp only [Bool.and_eq_true,decide_eq_true_eq] at hh
  have hv:inS (X7i j (X1M f m p)) ((atN f l p 0 0).1 i):=by
   unfold inS X7i
   split<;>omega
  have hn:=((X7N hg hal i).2 _).1 hv
  have hnum:Num f (l++[⟨i,m,j,0⟩]) p 0 0 i (X7i j (X1M f m p)):=by
   refine ⟨hn.1,fun y hy hs he => ?_⟩
   rcases List.mem_append.1 hy with hy|hy
   ·exact hn.2 y hy hs he
   ·rw [List.mem_singleton] at hy
    subst hy
    exact (hx _).2 ⟨hh.1,rfl⟩
  have hm:=(X6D hg _ p i _).2 hnum
  cases hc:X4C f (l++[⟨i,m,j,0⟩]) p i with
  | nil=>rw [hc] at hm;cases hm
  | cons a r=>rfl
theorem X8r {f:ZJ} {l:List Zn} (hs:X6v f l) (m i:Nat) (hm:m<f.Chart.Marks.length) (hi:i<f.Instruments.length) (hc:X4q f m i=true):X4m f l (X4 f l) (m:Int) (i:Int)=some (X2B f l m i):=by
 have hg:=hs.fix
 have hM:=hg.marks
 have hpl:=X7q hg l
 unfold X4q at hc
 have hio:XX f ((i:Nat):Int)=f.Instruments[i]:=X0 _ _ _ hi
 rw [Bool.and_eq_true,hio] at hc
 have hL:f.Instruments[i].Lead=false:=by have:=hc.1;simpa using this
 have hsx:∀ j:Nat,j<32→WM f ⟨i,m,j,0⟩=0:=fun j hj=>by
  unfold WM
  have e1:X3 0 ((f.Instruments.length:Int)-1) [(i:Int)]=false:=by simp;omega
  have e2:X3 0 ((f.Chart.Marks.length:Int)-1) [(m:Int)]=false:=by simp;omega
  have e3:X3 0 31 [(j:Int)]=false:=by simp;omega
  simp only [e1,e2,e3,hio,hL,hc.2,Bool.false_eq_true,if_false,Bool.true_eq_false,ne_eq,not_true]
 have hmem:∀ p∈X4 f l,(atN f l p 0 0).2=true∧Bd 30000 p:=fun p hp=>by
  have h:=X7o.1 hp
  exact ⟨h.2,by have:=X8B hg h.1;unfold Bd at *;omega⟩
 rw [X5M];unfold X23
 simp only [Int.toNat_natCast]
 rw [X8x _ (by omega)]
 simp only [cond_true]
 have inner:∀ j:Nat,j<32→X2X (m:Int) l (j:Int) (i:Int) (X4 f l) (List.replicate f.Chart.Marks.length false) f (0,0)=some (((X4 f l).countP (X5b f l m i j):Nat):Int):=fun j hj=>by
  generalize X4 f l=all at *
  obtain ⟨w,h1,h2⟩:=X1j (We (m:Int) l (j:Int) (i:Int) all (List.replicate f.Chart.Marks.length false) f) all.length (fun q (b:Nat)=>((q:Int),(b:Int))) (fun q b=>b=(all.take q).countP (X5b f l m i j)) (fun w=>w=((all.countP (X5b f l m i j):Nat):Int))
   (fun b hb=>⟨(b:Int),by simp [We,Wr],by rw [hb,List.take_length]⟩)
   (fun q b hq hb=>by
    right
    have hw:=wS q (by omega)
    have hbl:=List.countP_le_length (p:=X5b f l m i j) (l:=all.take q)
    rw [List.length_take] at hbl
    have hwb:=wS b (by omega)
    have e1:decide ((q:Int)<↑all.length)=true:=by simp [hq]
    have e2:=z0S q
    obtain ⟨g1,g2⟩:=hmem _ (List.getElem_mem hq)
    obtain ⟨p,hpd⟩:∃ p,all[q]=p:=⟨_,rfl⟩
    rw [hpd] at g1 g2
    have hgd:all.getD q ⟨0,0⟩=p:=(X0 _ _ _ hq).trans hpd
    have htk:all.take (q+1)=all.take q++[p]:=by rw [List.take_succ_eq_append_getElem hq,hpd]
    simp only [We,Wr,e1,e2,hw,cond_true,Bool.and_self,Int.toNat_natCast,hgd]
    rw [X7v _ _ (by have:=hs.len;omega)]
    simp only [Option.bind_some]
    have hel:∀ x∈l++[Zn.mk (i:Int) (m:Int) (j:Int) 0],WM f x=0:=fun x hx=>by
     rcases List.mem_append.1 hx with h|h
     ·exact hs.each x h
     ·rw [List.mem_singleton] at h;subst h;exact hsx j hj
    rw [X70 hg hel (by have:=hs.len;simp;omega) g2 i hi _ (by simp)]
    have hrep:(l++[Zn.mk (i:Int) (m:Int) (j:Int) 0]).filter (X31 f (List.replicate f.Chart.Marks.length false))=l++[Zn.mk (i:Int) (m:Int) (j:Int) 0]:=by
     apply List.filter_eq_self.2
     intro x _
     unfold X31
     have:(List.replicate f.Chart.Marks.length false).getD x.Mark.toNat false=false:=by
      rw [List.getD_eq_getElem?_getD,List.getElem?_replicate]
      split<;>rfl
     rw [this];simp
    rw [hrep]
    simp only [Option.bind_some]
    have hh:=X95 hg (l:=l) (m:Int) i hi hL j hj (by omega) (by omega) g1
    cases hn:X4C f (l++[⟨(i:Int),(m:Int),(j:Int),0⟩]) p i with
    | nil =>
     rw [hn] at hh
     refine ⟨b,by simp,?_⟩
     rw [htk,List.countP_append,←hb,List.countP_cons,←hh]
     simp
    | cons a r =>
     rw [hn] at hh
     have e3:decide (((a::r).length:Int)>0)=true:=by simp
     refine ⟨b+1,by rw [e3,hwb];rfl,?_⟩
     rw [htk,List.countP_append,←hb,List.countP_cons,←hh]
     simp) 0 0 (by omega) (by simp)
  exact h1.trans (by rw [h2])
 obtain ⟨w,h1,h2⟩:=X1j (Wd (m:Int) l (i:Int) (X4 f l) f (List.replicate f.Chart.Marks.length false)) 32 (fun j (b:Int)=>(b,(j:Int))) (fun j b=>(((List.range 32).drop j).map fun j:Nat=>(((X4 f l).countP (X5b f l m i j):Nat):Int)).foldl X8f b=X2B f l m i) (fun w=>w=X2B f l m i)
  (fun b hb=>⟨b,by simp [Wd,Wq],by
   rw [List.drop_of_length_le (by simp)] at hb
   exact hb⟩)
  (fun j b hj hb=>by
   right
   have e1:decide ((j:Int)<32)=true:=by simp;omega
   have hw:=wS j (by omega)
   have hdr:(List.range 32).drop j=j::(List.range 32).drop (j+1):=by
    rw [List.drop_eq_getElem_cons (by simpa using hj)];simp
   rw [hdr,List.map_cons,List.foldl_cons] at hb
   refine ⟨X8f b (((X4 f l).countP (X5b f l m i j):Nat):Int),?_,hb⟩
   simp only [Wd,Wq,e1,hw,cond_true,inner j hj,Option.bind_some]
   unfold X8f
   simp only [Bool.cond_decide]) 0 0 (by omega) rfl
 have h1':X2W (m:Int) l (i:Int) (X4 f l) f (List.replicate f.Chart.Marks.length false) (0,0)=some w:=h1
 rw [h1',h2];rfl
def X5E (b:X7d):List Int:=if b.found then [b.mark,b.inst,b.left] else [-1,0,0]
def OkB (b:X7d):Prop:=b.found=true→0≤b.mark
theorem X7I {f:ZJ} {l:List Zn} (hs:X6v f l) (m:Nat) (hm:m<f.Chart.Marks.length) (b:X7d) (hb:OkB b) :
  X3R l (m:Int) (X4 f l) f (0,X5E b)=some (X5E (((List.range f.Instruments.length).map fun i=>(m,i)).foldl (X1l f l) b))∧OkB (((List.range f.Instruments.length).map fun i=>(m,i)).foldl (X1l f l) b):=by
 have hg:=hs.fix
 have hI:=hg.inst
 obtain ⟨w,h1,h2⟩:=X1j (X1w l (m:Int) (X4 f l) f) f.Instruments.length
  (fun i (s:X7d)=>((i:Int),X5E s))
  (fun i s=>OkB s∧(((List.range f.Instruments.length).drop i).map fun i=>(m,i)).foldl (X1l f l) s=((List.range f.Instruments.length).map fun i=>(m,i)).foldl (X1l f l) b)
  (fun w=>w=X5E (((List.range f.Instruments.length).map fun i=>(m,i)).foldl (X1l f l) b)∧OkB (((List.range f.Instruments.length).map fun i=>(m,i)).foldl (X1l f l) b))
  (fun s hs'=>by
   obtain ⟨h1,h2⟩:=hs'
   rw [List.drop_of_length_le (by simp)] at h2
   simp only [List.map_nil,List.foldl_nil] at h2
   refine ⟨X5E s,by simp [X1w,X1G],?_⟩
   rw [←h2]
   exact ⟨rfl,h1⟩)
  (fun i s hi hs'=>by
   right
   obtain ⟨bm,bi,bl,bf⟩:=s
   obtain ⟨h1,h2⟩:=hs'
   have hdr:(List.range f.Instruments.length).drop i=i::(List.range f.Instruments.length).drop (i+1):=by
    rw [List.drop_eq_getElem_cons (by simpa using hi)];simp
   rw [hdr,List.map_cons,List.foldl_cons] at h2
   have e1:decide ((i:Int)<↑f.Instruments.length)=true:=by simp [hi]
   have i1:decide ((0:Int)≤(i:Int))=true:=by simp
   have hw:=wS i (by omega)
   have hgi:f.Instruments.getD i ⟨ByteArray.empty,false,⟨0,0⟩⟩=XX f (i:Int):=rfl
   have m1:decide ((0:Int)≤(m:Int))=true:=by simp
   have m2:decide ((m:Int)<(↑f.Chart.Marks.length:Int))=true:=by simp [hm]
   have hmo:f.Chart.Marks.getD m ⟨ByteArray.empty,⟨0,0⟩,[]⟩=Z8y f (m:Int):=rfl
   have hmk:=(hg.mark _ (List.getElem_mem hm)).2
   have hmp:(Z8y f (m:Int)).Paints.length≤4:=by unfold Z8y;rw [Int.toNat_natCast,X0 _ _ _ hm];exact hmk
   simp only [X1w,X1G,e1,i1,hw,m1,m2,Int.toNat_natCast,hgi,hmo,Bool.and_self,cond_true]
   cases hL:(XX f (i:Int)).Lead
   ·simp only [cond_false]
    rw [X4W _ _ (by omega)]
    simp only [Option.bind_some]
    by_cases hp:X3Y (Z8y f (m:Int)) f.Day=0
    ·have hc:X4q f m i=false:=by unfold X4q X2w;rw [hp];simp
     have hsb:X1l f l ⟨bm,bi,bl,bf⟩ (m,i)=⟨bm,bi,bl,bf⟩:=by unfold X1l;simp only [hc];simp
     rw [hsb] at h2
     have ep:(X3Y (Z8y f (m:Int)) f.Day==0)=true:=by rw [hp];rfl
     rw [ep,cond_true]
     exact ⟨⟨bm,bi,bl,bf⟩,rfl,h1,h2⟩
    ·have hst:X2w f (m:Int)=true:=by unfold X2w;exact X1n hp
     have hc:X4q f m i=true:=by unfold X4q;rw [hst,hL];rfl
     rw [X4p hp,cond_false,X8r hs m i hm hi hc]
     simp only [Option.bind_some]
     have hsb:X1l f l ⟨bm,bi,bl,bf⟩ (m,i)=if !bf||decide (X2B f l (m:Int) i<bl) then ⟨m,i,X2B f l m i,true⟩ else ⟨bm,bi,bl,bf⟩:=by
      unfold X1l;simp only [hc,if_true]
     rw [hsb] at h2
     clear hsb
     cases bf
     ·simp only [Bool.not_false,Bool.true_or,if_true] at h2
      refine ⟨⟨m,i,X2B f l m i,true⟩,?_,fun _=>by show (0:Int)≤(m:Int);omega,h2⟩
      simp [X5E,Nat.blt,show Nat.ble 1 3=true from rfl,show Nat.ble 2 3=true from rfl,show Nat.ble 3 3=true from rfl]
     ·simp only [Bool.not_true,Bool.false_or] at h2
      have hbm:0≤bm:=h1 rfl
      have hbm':decide (bm<0)=false:=by simp;omega
      by_cases c:X2B f l (m:Int) i<bl
      ·simp only [c,decide_true,if_true] at h2
       refine ⟨⟨m,i,X2B f l m i,true⟩,?_,fun _=>by show (0:Int)≤(m:Int);omega,h2⟩
       simp [X5E,Nat.blt,show Nat.ble 1 3=true from rfl,show Nat.ble 2 3=true from rfl,show Nat.ble 3 3=true from rfl,c,hbm']
      ·simp only [c,decide_false,Bool.false_eq_true,if_false] at h2
       refine ⟨⟨bm,bi,bl,true⟩,?_,h1,h2⟩
       simp [X5E,Nat.blt,show Nat.ble 1 3=true from rfl,show Nat.ble 2 3=true from rfl,show Nat.ble 3 3=true from rfl,c,hbm']
   ·have hc:X4q f m i=false:=by unfold X4q;rw [hL];rfl
    have hsb:X1l f l ⟨bm,bi,bl,bf⟩ (m,i)=⟨bm,bi,bl,bf⟩:=by unfold X1l;simp only [hc];simp
    rw [hsb] at h2
    exact ⟨⟨bm,bi,bl,bf⟩,rfl,h1,h2⟩) 0 b (by omega) ⟨hb,by simp⟩
 exact ⟨h1.trans (by rw [h2.1]),h2.2⟩
theorem X8i (f:ZJ) (l:List Zn):X6c f l=some (if (X2p f l).2≠0 then (0,0,0,(X2p f l).2) else if l.length=8 then (0,0,0,3) else if X4 f l=[] then (0,0,0,9) else if (X2Z f l).found then ((X2Z f l).mark,(X2Z f l).inst,(X2Z f l).left,0) else (0,0,0,4)):=by
 rw [X6H];unfold X33
 rw [X5R]
 simp only [Option.bind_some]
 by_cases h0:(X2p f l).2=0
 ·have hs:=X6V h0
  have hg:=hs.fix
  simp only [h0,beq_self_eq_true,cond_true,bne_self_eq_false,cond_false,ne_eq,not_true,if_false]
  by_cases h8':l.length=8
  ·have:((l.length:Int)==8)=true:=by simp;omega
   rw [this];simp [h8']
  ·have e8:((l.length:Int)==8)=false:=X4p (by omega)
   rw [e8,cond_false,if_neg h8',X7A hs]
   simp only [Option.bind_some]
   by_cases hn:X4 f l=[]
   ·rw [hn];simp
   ·have e0:(((X4 f l).length:Int)==0)=false:=X4p (fun h=>hn (List.eq_nil_of_length_eq_zero (by omega)))
    rw [e0,cond_false,if_neg hn]
    have hM:=hg.marks
    have main:=X1j (X1v l (X4 f l) f) f.Chart.Marks.length
     (fun i (s:X7d)=>((i:Int),X5E s))
     (fun i s=>OkB s∧((((List.range (X4S f)).drop i).flatMap fun m=>(List.range f.Instruments.length).map fun i=>(m,i))).foldl (X1l f l) s=X2Z f l)
     (fun w=>w=X5E (X2Z f l)∧OkB (X2Z f l))
     (fun s hs'=>by
      obtain ⟨h1,h2⟩:=hs'
      rw [List.drop_of_length_le (by simp [X4S])] at h2
      simp only [List.flatMap_nil,List.foldl_nil] at h2
      refine ⟨X5E s,by simp [X1v,X1F],?_⟩
      rw [←h2]
      exact ⟨rfl,h1⟩)
     (fun i s hi hs'=>by
      right
      obtain ⟨h1,h2⟩:=hs'
      have hdr:(List.range (X4S f)).drop i=i::(List.range (X4S f)).drop (i+1):=by
       rw [List.drop_eq_getElem_cons (by simpa [X4S] using hi)];simp
      rw [hdr,List.flatMap_cons,List.foldl_append] at h2
      have e1:decide ((i:Int)<↑f.Chart.Marks.length)=true:=by simp [hi]
      have hw:=wS i (by omega)
      obtain ⟨hr,hok⟩:=X7I hs i hi s h1
      simp only [X1v,X1F,e1,hw,cond_true,hr,Option.bind_some]
      exact ⟨_,rfl,hok,h2⟩) 0 ⟨0,0,0,false⟩ (by omega) ⟨fun h=>(by cases h),by simp [X2Z,X8v]⟩
    obtain ⟨w,h1,h2,h3⟩:=main
    have h1':X2O l (X4 f l) f (0,[-1,0,0])=some w:=h1
    rw [h1',h2]
    simp only [Option.bind_some]
    unfold X5E
    cases hf:(X2Z f l).found
    ·simp [Nat.blt,show Nat.ble 1 3=true from rfl,show Nat.ble 2 3=true from rfl,show Nat.ble 3 3=true from rfl]
    ·have h4:=h3 hf
     have h5:¬ (X2Z f l).mark<0:=by omega
     simp [Nat.blt,show Nat.ble 1 3=true from rfl,show Nat.ble 2 3=true from rfl,show Nat.ble 3 3=true from rfl,h5]
 ·simp [h0,X1n h0,X4p h0]
theorem X82 (f:ZJ) (l:List Zn):X4j f l=some true:=by
 rw [X5C];unfold X1X
 rw [X89,X8i]
 simp
end Nore
