/- The plain functions of the program and of the document answer alike. -/
import Derived.Test.YtehofdemanfenaaGreatD
import Derived.Test.YtehofdemanfenaaGreatY
set_option linter.unusedSectionVars false
set_option linter.unusedVariables false
set_option linter.unusedSimpArgs false
namespace Nore.Geo

def vxL:List Int:=[0,195,383,556,707,831,924,981,1000,981,924,831,707,556,383,195,0,-195,-383,-556,-707,-831,-924,-981,-1000,-981,-924,-831,-707,-556,-383,-195]
def vyL:List Int:=[1000,981,924,831,707,556,383,195,0,-195,-383,-556,-707,-831,-924,-981,-1000,-981,-924,-831,-707,-556,-383,-195,0,195,383,556,707,831,924,981]
def vx (p:Nat):Int:=vxL.getD p 0
def vy (p:Nat):Int:=vyL.getD p 0
def crs (p:Nat) (X Y:Int):Int:=vx p*Y-vy p*X
def cc (p q:Nat):Int:=vx p*vy q-vy p*vx q

theorem plucker (t u p:Nat) (X Y:Int):cc u t*crs p X Y=cc p t*crs u X Y+(- crs t X Y)*cc p u:=by
 unfold cc crs
 generalize vx t=a,vy t=b,vx u=c,vy u=d,vx p=e,vy p=f
 grind

def Tow (t:Nat) (X Y:Int):Prop:=crs t X Y≤0∧crs ((t+1) % 32) X Y>0

theorem tab0:∀ t,t<32→cc ((t+1) % 32) t>0:=by decide
theorem tab1:∀ t,t<32→∀ j,j<15→cc ((t+(j+1)) % 32) t>0∧cc ((t+(j+1)) % 32) ((t+1) % 32)≥0:=by decide
theorem tab2:∀ t,t<32→∀ j,j<16→cc ((t+(j+17)) % 32) t≤0∧cc ((t+(j+17)) % 32) ((t+1) % 32)≤0:=by decide

theorem tow_pos {t:Nat} {X Y:Int} (ht:t<32) (h:Tow t X Y) (j:Nat) (h1:1≤j) (h2:j≤15):crs ((t+j) % 32) X Y>0:=by
 obtain ⟨ha,hb⟩:=h
 have k0:=tab0 t ht
 have k1:=tab1 t ht (j-1) (by omega)
 rw [show j-1+1=j by omega] at k1
 have e:=plucker t ((t+1) % 32) ((t+j) % 32) X Y
 generalize crs ((t+j) % 32) X Y=z at *
 generalize crs ((t+1) % 32) X Y=y at *
 generalize crs t X Y=x at *
 obtain ⟨k1,k2⟩:=k1
 generalize cc ((t+1) % 32) t=K at *
 generalize cc ((t+j) % 32) t=A at *
 generalize cc ((t+j) % 32) ((t+1) % 32)=B at *
 have p1:A*y>0:=Int.mul_pos k1 hb
 have p2:(-x)*B≥0:=Int.mul_nonneg (by omega) k2
 have p3:K*z>0:=by omega
 exact Int.pos_of_mul_pos_right p3 k0 |> fun h=>h

theorem tow_neg {t:Nat} {X Y:Int} (ht:t<32) (h:Tow t X Y) (j:Nat) (h1:17≤j) (h2:j≤32):crs ((t+j) % 32) X Y≤0:=by
 obtain ⟨ha,hb⟩:=h
 have k0:=tab0 t ht
 have k1:=tab2 t ht (j-17) (by omega)
 rw [show j-17+17=j by omega] at k1
 have e:=plucker t ((t+1) % 32) ((t+j) % 32) X Y
 generalize crs ((t+j) % 32) X Y=z at *
 generalize crs ((t+1) % 32) X Y=y at *
 generalize crs t X Y=x at *
 obtain ⟨k1,k2⟩:=k1
 generalize cc ((t+1) % 32) t=K at *
 generalize cc ((t+j) % 32) t=A at *
 generalize cc ((t+j) % 32) ((t+1) % 32)=B at *
 have p1:A*y≤0:=Int.mul_nonpos_of_nonpos_of_nonneg k1 (by omega)
 have p2:(-x)*B≤0:=Int.mul_nonpos_of_nonneg_of_nonpos (by omega) k2
 have p3:K*z≤0:=by omega
 apply Int.not_lt.1
 intro hz
 have:=Int.mul_pos k0 hz
 omega

theorem tow_sign {t:Nat} {X Y:Int} (ht:t<32) (h:Tow t X Y) (p:Nat) (hp:p<32) (hne:p≠(t+16) % 32):(crs p X Y>0)↔(1≤(p+32-t) % 32∧(p+32-t) % 32≤15):=by
 have hj:(t+(p+32-t) % 32) % 32=p:=by omega
 constructor
 ·intro hs
  by_cases h1:1≤(p+32-t) % 32∧(p+32-t) % 32≤15
  ·exact h1
  ·exfalso
   by_cases h0:(p+32-t) % 32=0
   ·have:p=t:=by omega
    subst this
    have:=h.1
    omega
   ·have:=tow_neg ht h ((p+32-t) % 32) (by omega) (by omega)
    rw [hj] at this
    omega
 ·intro h1
  have:=tow_pos ht h _ h1.1 h1.2
  rw [hj] at this
  exact this

theorem tow_unique {t u:Nat} {X Y:Int} (ht:t<32) (hu:u<32) (h:Tow t X Y) (h':Tow u X Y):u=t:=by
 have a:=tow_sign ht h u hu
 have b:=tow_sign ht h ((u+1) % 32) (by omega)
 have a':=h'.1
 have b':=h'.2
 by_cases e:u=(t+16) % 32
 ·have e2:(u+1) % 32≠(t+16) % 32:=by omega
  have:=(b e2).1 b'
  omega
 ·by_cases e2:(u+1) % 32=(t+16) % 32
  ·have e3:(u+32-t) % 32=15:=by omega
   have:=(a e).2 (by omega)
   omega
  ·have:=(b e2).1 b'
   have e3:¬ (1≤(u+32-t) % 32∧(u+32-t) % 32≤15):=fun hh=>by have:=(a e).2 hh;omega
   omega

theorem opp:∀ p,p<16→vx (p+16) = - vx p∧vy (p+16) = - vy p:=by decide

theorem tow_exists {X Y:Int} (h:X≠0∨Y≠0):∃ t,t<32∧Tow t X Y:=by
 by_cases hx:∃ t,t<32∧Tow t X Y
 ·exact hx
 ·exfalso
  have hn:∀ t,t<32→crs t X Y≤0→crs ((t+1) % 32) X Y≤0:=fun t ht h1=>by
   apply Int.not_lt.1
   intro h2
   exact hx ⟨t,ht,h1,h2⟩
  have all:∀ t,t<32→crs t X Y≤0→∀ j,crs ((t+j) % 32) X Y≤0:=fun t ht h1 j=>by
   induction j with
   | zero=>rw [show (t+0) % 32=t by omega];exact h1
   | succ j ih =>
    have:=hn ((t+j) % 32) (by omega) ih
    rw [show ((t+j) % 32+1) % 32=(t+(j+1)) % 32 by omega] at this
    exact this
  have o:=opp
  have c0:crs 0 X Y = - (1000*X):=by unfold crs;simp only [show vx 0=0 from rfl,show vy 0=1000 from rfl];omega
  have c8:crs 8 X Y=1000*Y:=by unfold crs;simp only [show vx 8=1000 from rfl,show vy 8=0 from rfl];omega
  have c16:crs 16 X Y=1000*X:=by unfold crs;simp only [show vx 16=0 from rfl,show vy 16 = -1000 from rfl];omega
  have c24:crs 24 X Y = - (1000*Y):=by unfold crs;simp only [show vx 24 = -1000 from rfl,show vy 24=0 from rfl];omega
  have z:∃ t,t<32∧crs t X Y≤0:=by
   by_cases h0:crs 0 X Y≤0
   ·exact ⟨0,by omega,h0⟩
   ·exact ⟨16,by omega,by omega⟩
  obtain ⟨t,ht,h1⟩:=z
  have r:∀ p,p<32→crs p X Y≤0:=fun p hp=>by
   have:=all t ht h1 (p+32-t)
   rw [show (t+(p+32-t)) % 32=p by omega] at this
   exact this
  have r0:=r 0 (by omega)
  have r8:=r 8 (by omega)
  have r16:=r 16 (by omega)
  have r24:=r 24 (by omega)
  omega

def isTow (X Y:Int) (t:Nat):Bool:=decide (crs t X Y≤0)&&decide (crs ((t+1) % 32) X Y>0)
def tow (X Y:Int):Nat:=((List.range 32).find? (isTow X Y)).getD 0

theorem isTow_iff {X Y:Int} {t:Nat}:isTow X Y t=true↔Tow t X Y:=by simp [isTow,Tow]

theorem tow_spec {X Y:Int} (h:X≠0∨Y≠0):tow X Y<32∧Tow (tow X Y) X Y:=by
 obtain ⟨t,ht,hT⟩:=tow_exists h
 unfold tow
 cases hf:(List.range 32).find? (isTow X Y) with
 | none =>
  rw [List.find?_eq_none] at hf
  exact absurd (isTow_iff.2 hT) (hf t (by simp [ht]))
 | some u =>
  have h1:=List.find?_some hf
  have h2:=List.mem_of_find?_eq_some hf
  simp only [Option.getD_some]
  exact ⟨by simpa using h2,isTow_iff.1 h1⟩

theorem tow_eq {X Y:Int} {t:Nat} (ht:t<32) (hT:Tow t X Y):tow X Y=t:=by
 have h:X≠0∨Y≠0:=by
  apply Classical.byContradiction
  intro hc
  have:X=0∧Y=0:=by omega
  obtain ⟨rfl,rfl⟩:=this
  have:=hT.2
  simp [crs] at this
 have:=tow_spec h
 exact tow_unique ht this.1 hT this.2

end Nore.Geo
open Go Go.Ab
namespace Nore

theorem w64 {x:Int} (h1 : -9223372036854775808≤x) (h2:x≤9223372036854775807):IntKind.wrap .i64 x=x:=by
 simp only [IntKind.wrap,IntKind.signed,IntKind.bits]
 simp
 omega

theorem X3T {σ ω γ:Type} (st:σ→Option (σ⊕ω)) (k:ω→Option γ) (s:σ):Option.bind (Z8S st s) k=Option.bind (st s) (Sum.elim (fun s'=>Option.bind (Z8S st s') k) k):=by
 rw [ZgX]
 cases st s with
 | none=>rfl
 | some r=>cases r<;>rfl

theorem X5 {β σ ω γ:Type} (st:σ→Option (σ⊕ω)) (k:ω→Option γ) (n:Nat) (emb:Nat→β→σ) (P:Nat→β→Prop) (nice:Nat→β→Option γ)
  (hd:∀ b,P n b→∀ R:σ→Option γ,Option.bind (st (emb n b)) (Sum.elim R k)=nice n b)
  (hn:∀ i b,i<n→P i b→∀ R:σ→Option γ,(∀ b',P (i+1) b'→R (emb (i+1) b')=nice (i+1) b')→Option.bind (st (emb i b)) (Sum.elim R k)=nice i b) :
  ∀ i b,i≤n→P i b→Option.bind (Z8S st (emb i b)) k=nice i b:=by
 intro i b hi hP
 induction hj:n-i generalizing i b with
 | zero =>
  have:i=n:=by omega
  subst this
  rw [X3T];exact hd b hP _
 | succ j ih =>
  rw [X3T]
  exact hn i b (by omega) hP _ fun b' hb'=>ih (i+1) b' (by omega) hb' (by omega)

theorem X2j {γ:Type} (o:Option γ):Option.bind o (fun x=>some x)=o:=by cases o<;>rfl

theorem X64 {β σ ω:Type} (st:σ→Option (σ⊕ω)) (n:Nat) (emb:Nat→β→σ) (P:Nat→β→Prop) (nice:Nat→β→Option ω)
  (hd:∀ b,P n b→∀ R:σ→Option ω,Option.bind (st (emb n b)) (Sum.elim R some)=nice n b)
  (hn:∀ i b,i<n→P i b→∀ R:σ→Option ω,(∀ b',P (i+1) b'→R (emb (i+1) b')=nice (i+1) b')→Option.bind (st (emb i b)) (Sum.elim R some)=nice i b)
  (i:Nat) (b:β) (hi:i≤n) (hP:P i b):Z8S st (emb i b)=nice i b:=by
 rw [←X2j (Z8S st (emb i b))]
 exact X5 st some n emb P nice hd hn i b hi hP

theorem X5D {a b:Int} (h:¬ a=b):(a==b)=false:=beq_eq_false_iff_ne.2 h
theorem WW {a b:Int} (h:¬ a=b):(a != b)=true:=bne_iff_ne.2 h

theorem X0 {α:Type} (l:List α) (i:Nat) (d:α) (h:i<l.length):l.getD i d=l[i]:=by simp [List.getD,h]

def X3 (lo hi:Int) (l:List Int):Bool:=l.any fun n=>decide (n<lo)||decide (n>hi)
@[simp] theorem X6v (lo hi:Int):X3 lo hi []=false:=rfl
@[simp] theorem X4e (lo hi n:Int) (l:List Int):X3 lo hi (n::l)=(decide (n<lo)||decide (n>hi)||X3 lo hi l):=rfl
def inN (n lo hi:Int):Bool:=decide (lo≤n)&&decide (n≤hi)

theorem WT (lo up:Int) (l:List Int) (hl:l.length<1000000):X1m lo up l=some (X3 lo up l):=by
 have key:=X5 (X1n (↑l.length) l up lo) (fun o3=>Sum.elim (fun y4:Int=>some (decide (y4≥0))) (fun _=>some (decide ((-1:Int)≥0))) o3) l.length (fun i (_:Unit)=>(i:Int)) (fun _ _=>True) (fun i _=>some (X3 lo up (l.drop i)))
  (by
   intro b _ R
   simp [X1n,X1s])
  (by
   intro i b hi _ R hR
   have hR':=hR () trivial
   simp only [X1n,X1s]
   rw [List.drop_eq_getElem_cons hi]
   simp only [Int.toNat_natCast,X0 _ _ _ hi,X4e]
   have hw:IntKind.wrap .i64 ((i:Int)+1)=((i+1:Nat):Int):=by rw [w64]<;>omega
   rw [hw]
   have h1:decide ((i:Int)<↑l.length)=true:=by simp [hi]
   have h2:decide ((0:Int)≤↑i)=true:=by simp
   simp only [h1,h2,Bool.and_self,cond_true]
   by_cases h3:l[i]<lo
   ·simp [h3]
   ·by_cases h4:l[i]>up
    ·simp [h3,h4]
    ·simp [h3,h4];exact hR')
 exact (key 0 () (by omega) trivial).trans (by simp)

theorem X1y (n lo hi:Int):X1P n lo hi=some (inN n lo hi):=by
 unfold X1P inN
 by_cases h:lo≤n<;>simp [h]
end Nore
open Go Go.Ab
namespace Nore

def X5O:Int→List UInt8→Option Int
 | last,[]=>some last
 | last,c::l=>if 97≤(c.toNat:Int)∧(c.toNat:Int)≤122 then X5O c.toNat l else if (c.toNat:Int)≠45∨last=45 then none else X5O c.toNat l
def X4F:Option Int→Bool
 | none=>false
 | some last=>last != 45
def X5P (s:ByteArray):Bool:=decide (s.size≤14)&&X4F (X5O 45 s.toList)

theorem X8m (s:ByteArray) (i:Nat) (h:(s.get! i).toNat<128):Utf8.decode s i=((s.get! i).toNat,1):=by
 unfold Utf8.decode;simp only [Nat.add_zero];rw [if_pos h]
theorem X8l (s:ByteArray) (i:Nat) (h:¬ (s.get! i).toNat<128):128≤(Utf8.decode s i).1:=by
 unfold Utf8.decode
 simp only [Nat.add_zero,Utf8.runeError]
 rw [if_neg h]
 repeat' split
 all_goals simp_all
 all_goals omega

theorem X1V (s:ByteArray):s.toList.length=s.size:=by rw [ByteArray.toList_eq];rfl
theorem X85 (s:ByteArray) (i:Nat) (h:i<s.toList.length):s.get! i=s.toList[i]:=by
 have hs:i<s.size:=by rw [←X1V];exact h
 simp only [ByteArray.toList_eq]
 show s.data[i]! = _
 have h2:i<s.data.size:=hs
 rw [getElem!_pos s.data i h2]
 rfl

theorem X4M (s:ByteArray):X2S s=some (X5P s):=by
 have key:=X5 (WX s s) (fun o0=>Sum.elim (fun y1:Bool×Nat=>some y1.fst) (fun y2:Int×Nat=>bif decide ((↑(ByteArray.size s):Int)≤14) then some (y2.fst != 45) else some false) o0) s.toList.length (fun i (b:Int)=>(b,i)) (fun _ _=>True) (fun i b=>some (decide (s.size≤14)&&X4F (X5O b (s.toList.drop i))))
  (by
   intro b _ R
   have hh:(decide ((↑s.size:Int)≤14))=decide (s.size≤14):=by rw [decide_eq_decide];omega
   have hd:s.toList.drop s.size=[]:=List.drop_eq_nil_of_le (by rw [X1V];exact Nat.le_refl _)
   simp only [hd,X5O,X4F,WX,X11,X1V,hh,Nat.lt_irrefl,decide_false,cond_false,Option.bind_some,Sum.elim_inr]
   cases decide (s.size≤14)<;>simp)
  (by
   intro i b hi _ R hR
   have hs:i<s.size:=by rw [←X1V];exact hi
   have hg:=X85 s i hi
   simp only [WX,X11]
   rw [List.drop_eq_getElem_cons hi]
   simp only [X5O]
   by_cases h:(s.get! i).toNat<128
   ·rw [X8m s i h]
    have hR':=hR ((s.get! i).toNat:Int) trivial
    rw [hg] at *
    generalize s.toList[i]=c at *
    simp only [hs,decide_true,cond_true]
    by_cases h1:97≤(c.toNat:Int)
    ·have q1:decide ((c.toNat:Int)≥97)=true:=decide_eq_true h1
     by_cases h2:(c.toNat:Int)≤122
     ·have q2:decide ((c.toNat:Int)≤122)=true:=decide_eq_true h2
      simp only [decide_true,decide_false,q1,q2,cond_true,Option.bind_some,Sum.elim_inl,h1,h2,and_self,if_true]
      exact hR'
     ·have q2:decide ((c.toNat:Int)≤122)=false:=decide_eq_false h2
      have h3:¬ ((c.toNat:Int)=45):=by omega
      have q3:((c.toNat:Int) != 45)=true:=bne_iff_ne.2 h3
      simp only [decide_true,decide_false,q1,q2,q3,cond_true,cond_false,Option.bind_some,Sum.elim_inl,Sum.elim_inr,h2,and_false,if_false,ne_eq,h3,not_false_iff,true_or,if_true,X4F,Bool.and_false]
    ·have q1:decide ((c.toNat:Int)≥97)=false:=decide_eq_false h1
     by_cases h3:(c.toNat:Int)=45
     ·have q3:((c.toNat:Int) != 45)=false:=by rw [h3];rfl
      by_cases h4:b=45
      ·have q4:(b==45)=true:=by rw [h4];rfl
       rw [q1,q3,q4,if_neg (fun hc=>h1 hc.1),if_pos (Or.inr h4)]
       simp [X4F]
      ·have q4:(b==45)=false:=beq_eq_false_iff_ne.2 h4
       simp only [decide_true,decide_false,q1,q3,q4,cond_true,cond_false,Option.bind_some,Sum.elim_inl,Sum.elim_inr,h1,false_and,if_false,h4,ne_eq,h3,not_true,or_self,if_true]
       rw [h3] at hR'
       exact hR'
     ·have q3:((c.toNat:Int) != 45)=true:=bne_iff_ne.2 h3
      simp only [decide_true,decide_false,q1,q3,cond_true,cond_false,Option.bind_some,Sum.elim_inl,Sum.elim_inr,h1,false_and,if_false,ne_eq,h3,not_false_iff,true_or,if_true,X4F,Bool.and_false]
   ·have h':=X8l s i h
    rw [hg] at h
    generalize s.toList[i]=c at *
    simp only [hs,decide_true,cond_true]
    generalize (Utf8.decode s i)=d at *
    have e1:((d.1:Nat):Int)≥97:=by omega
    have e2:¬ ((d.1:Nat):Int)≤122:=by omega
    have e3:¬ ((d.1:Nat):Int)=45:=by omega
    have e4:¬ ((c.toNat:Int)≤122):=by omega
    have e5:¬ ((c.toNat:Int)=45):=by omega
    have q1:decide (((d.1:Nat):Int)≥97)=true:=decide_eq_true e1
    have q2:decide (((d.1:Nat):Int)≤122)=false:=decide_eq_false e2
    have q3:(((d.1:Nat):Int) != 45)=true:=bne_iff_ne.2 e3
    simp only [decide_true,decide_false,q1,q2,q3,cond_true,cond_false,Option.bind_some,Sum.elim_inl,Sum.elim_inr,e4,and_false,if_false,ne_eq,e5,not_false_iff,true_or,if_true,X4F,Bool.and_false])
 exact (key 0 45 (by omega) trivial).trans (by simp [X5P])

theorem X7p (s:ByteArray):X4v s=some (X5P s):=by
 unfold X4v
 rw [X1y]
 simp only [Option.bind_some]
 by_cases hsz:1≤s.size∧s.size≤14
 ·have e1:inN (↑s.size) 1 14=true:=by simp [inN];omega
  rw [e1]
  simp only [Bool.not_true,cond_false]
  have hl:=X1V s
  have key:=X5 (WY s) (fun o0=>Sum.elim (fun y76:Bool=>some y76) (fun _:Unit=>some true) o0) s.toList.length (fun i (_:Int)=>(i:Int)) (fun i b=>b=if i=0 then 45 else ((s.toList.getD (i-1) 0).toNat:Int)) (fun i b=>some (if i<s.toList.length then X4F (X5O b (s.toList.drop i)) else true))
   (by
    intro b _ R
    simp [WY,X18,X1V])
   (by
    intro i b hi hP R hR
    have hs:i<s.size:=by rw [←X1V];exact hi
    simp only [WY,X18]
    rw [List.drop_eq_getElem_cons hi]
    have hR':=hR ((s.toList[i]).toNat:Int) (by simp [List.getD,hi])
    have hw:IntKind.wrap .i64 ((i:Int)+1)=((i+1:Nat):Int):=by rw [w64]<;>omega
    have hw1:IntKind.wrap .i64 ((i:Int)-1)=((i:Int)-1):=by rw [w64]<;>omega
    have hw2:IntKind.wrap .i64 ((s.size:Int)-1)=((s.size:Int)-1):=by rw [w64]<;>omega
    simp only [X5O,Int.toNat_natCast,X0 _ _ _ hi,hw,hw1,hw2]
    have d1:decide ((i:Int)<↑s.size)=true:=by simp [hs]
    have d2:decide ((0:Int)≤↑i)=true:=by simp
    simp only [d1,d2,Bool.and_self,cond_true,hi,if_true]
    generalize hc:s.toList[i]=c at *
    by_cases h1:97≤(c.toNat:Int)∧(c.toNat:Int)≤122
    ·have q1:decide ((c.toNat:Int)≥97)=true:=decide_eq_true h1.1
     have q2:decide ((c.toNat:Int)≤122)=true:=decide_eq_true h1.2
     simp only [decide_true,decide_false,q1,q2,cond_true,Option.bind_some,Sum.elim_inl,h1,and_self,if_true]
     have hne:¬ ((c.toNat:Int)=45):=by omega
     rw [hR']
     by_cases hi2:i+1<s.toList.length
     ·simp [hi2]
     ·have:s.toList.drop (i+1)=[]:=List.drop_eq_nil_of_le (by omega)
      simp [hi2,this,X5O,X4F,hne]
    ·have g:(bif decide ((c.toNat:Int)≥97) then bif decide ((c.toNat:Int)≤122) then true else false else false)=false:=by
      by_cases a1:(c.toNat:Int)≥97
      ·by_cases a2:(c.toNat:Int)≤122
       ·exact absurd ⟨a1,a2⟩ h1
       ·simp [a1,a2]
      ·simp [a1]
     have g2:∀ (Z:Type) (x y:Z),(bif decide ((c.toNat:Int)≥97) then bif decide ((c.toNat:Int)≤122) then x else y else y)=y:=by
      intro Z x y
      by_cases a1:(c.toNat:Int)≥97
      ·by_cases a2:(c.toNat:Int)≤122
       ·exact absurd ⟨a1,a2⟩ h1
       ·simp [a1,a2]
      ·simp [a1]
     rw [g2,if_neg h1]
     by_cases h2:(c.toNat:Int)=45
     ·simp only [h2,bne_self_eq_false,cond_false]
      by_cases h3:i=0
      ·subst h3
       simp [hP,X4F]
      ·by_cases h4:i+1=s.size
       ·have:s.toList.drop (i+1)=[]:=List.drop_eq_nil_of_le (by omega)
        have e5:(i:Int)=(s.size:Int)-1:=by omega
        have e6:((s.size:Int)-1==0)=false:=by simp;omega
        simp only [e5,e6,this,X5O]
        by_cases h5:b=45<;>simp [h5,X4F]
       ·have e5:((i:Int)==(s.size:Int)-1)=false:=by simp;omega
        have e6:((i:Int)==0)=false:=by simp;omega
        have e7:(0:Int)≤(i:Int)-1:=by omega
        have e8:(i:Int)-1<(s.size:Int):=by omega
        have e9:((i:Int)-1).toNat=i-1:=by omega
        simp only [e5,e6,e7,e8,e9,cond_false,decide_true,Bool.and_self,cond_true]
        simp only [h3,if_false] at hP
        rw [←hP]
        by_cases h5:b=45
        ·simp [h5,X4F]
        ·have q5:(b==45)=false:=beq_eq_false_iff_ne.2 h5
         rw [h2] at hR'
         rw [q5]
         simp only [cond_false,Option.bind_some,Sum.elim_inl,ne_eq,not_true,false_or,h5,if_false]
         rw [hR']
         simp [show i+1<s.toList.length by omega]
     ·have:((c.toNat:Int) != 45)=true:=by simp [h2]
      simp [this,h2,X4F])
  have:=key 0 45 (by omega) (by simp)
  refine this.trans ?_
  simp [X5P,show 0<s.toList.length by omega,hsz.2]
 ·have e1:inN (↑s.size) 1 14=false:=by
   simp [inN];omega
  rw [e1]
  simp only [Bool.not_false,cond_true,X5P]
  by_cases h:s.size≤14
  ·have h0:s.toList=[]:=by
    apply List.eq_nil_of_length_eq_zero;rw [X1V];omega
   simp [h0,X5O,X4F]
  ·simp [h]

end Nore
open Go Go.Ab
namespace Nore

def X3v (m:Int) (p:Zu):Bool:=X3 (-m) m [p.X,p.Y]
def X4G:Int→List Zk→Int
 | _,[]=>0
 | last,p::l=>if X3 0 40000 [p.Day]||X3 0 4 [p.Colour] then 7 else if p.Day≤last then 2 else X4G p.Day l
def X3n (l:List Zk):Int:=if X3 1 4 [(l.length:Int)] then 3 else X4G (-1) l
def X7x (b:ZB) (m w:Int):Int:=if X3 (-m) m [b.X.Lo,b.X.Hi,b.Y.Lo,b.Y.Hi] then 7 else if X3 0 w [b.X.Hi-b.X.Lo,b.Y.Hi-b.Y.Lo] then 2 else 0

theorem X1e (n lo hi:Int):inN n lo hi = !X3 lo hi [n]:=by
 simp only [inN,X4e,X6v,Bool.or_false,Bool.not_or]
 congr 1<;>rw [←decide_not,decide_eq_decide]<;>omega

theorem X59 (m:Int) (hm:0≤m∧m≤1000000) (l:List Zu) (hl:l.length<1000000):X4d m l=some (l.any (X3v m)):=by
 have hm1:IntKind.wrap .i64 (0-m) = -m:=by rw [w64]<;>omega
 have key:=X5 (X1l (↑l.length) l m) (fun o7=>Sum.elim (fun y8:Int×Zu×(List Int)=>some (decide (y8.fst≥0))) (fun _=>some (decide ((-1:Int)≥0))) o7) l.length (fun i (_:Unit)=>(i:Int)) (fun _ _=>True) (fun i _=>some ((l.drop i).any (X3v m)))
  (by
   intro b _ R
   simp [X1l,X1r])
  (by
   intro i b hi _ R hR
   have hR':=hR () trivial
   simp only [X1l,X1r]
   rw [List.drop_eq_getElem_cons hi]
   have hw:IntKind.wrap .i64 ((i:Int)+1)=((i+1:Nat):Int):=by rw [w64]<;>omega
   simp only [Int.toNat_natCast,X0 _ _ _ hi,List.any_cons,hm1,hw]
   rw [WT _ _ _ (by simp)]
   have h1:decide ((i:Int)<↑l.length)=true:=by simp [hi]
   have h2:decide ((0:Int)≤↑i)=true:=by simp
   simp only [h1,h2,Bool.and_self,cond_true,Option.bind_some]
   change Option.bind (bif X3v m l[i] then _ else _) _=_
   cases h3:X3v m l[i]
   ·simp;exact hR'
   ·simp)
 exact (key 0 () (by omega) trivial).trans (by simp)

theorem X5q (p:Zu) (m:Int) (hm:0≤m∧m≤1000000):X2x p m=some (!X3v m p):=by
 have hm1:IntKind.wrap .i64 (0-m) = -m:=by rw [w64]<;>omega
 unfold X2x
 rw [X1y,X1y,hm1,X1e,X1e]
 simp only [Option.bind_some,X3v,X4e,X6v,Bool.or_false]
 cases (decide (p.X < -m)||decide (p.X>m))<;>simp

theorem X6U (l:List Zk):X36 l=some (X3n l):=by
 unfold X36 X3n
 rw [WT _ _ _ (by simp)]
 simp only [Option.bind_some]
 cases hb:X3 1 4 [(l.length:Int)]
 ·simp only [cond_false,Bool.false_eq_true,if_false]
  have hl:1≤l.length∧l.length≤4:=by simp at hb;omega
  exact X5 (XU (↑l.length) l [↑l.length]) _ l.length (fun i (b:Int)=>(b,(i:Int))) (fun _ _=>True) (fun i b=>some (X4G b (l.drop i)))
   (by
    intro b _ R
    simp [XU,W7,X4G])
   (by
    intro i b hi _ R hR
    have hR':=hR (l[i].Day) trivial
    simp only [XU,W7]
    rw [List.drop_eq_getElem_cons hi]
    have hw:IntKind.wrap .i64 ((i:Int)+1)=((i+1:Nat):Int):=by rw [w64]<;>omega
    simp only [Int.toNat_natCast,X0 _ _ _ hi,X4G,hw]
    rw [WT _ _ _ (by simp),WT _ _ _ (by simp)]
    have h1:decide ((i:Int)<↑l.length)=true:=by simp [hi]
    have h2:decide ((0:Int)≤↑i)=true:=by simp
    simp only [h1,h2,Bool.and_self,cond_true,Option.bind_some]
    cases h3:X3 0 40000 [l[i].Day]
    ·cases h4:X3 0 4 [l[i].Colour]
     ·by_cases h5:l[i].Day≤b
      ·simp [h5]
      ·simp [h5];exact hR'
     ·simp
    ·simp) 0 (-1) (by omega) trivial
 ·simp

theorem X6W (l:List Zk):X2y l=some (X3n l):=by
 unfold X2y X3n
 rw [X1y,X1e]
 simp only [Option.bind_some]
 cases hb:X3 1 4 [(l.length:Int)]
 ·simp only [Bool.not_false,Bool.not_true,cond_false,Bool.false_eq_true,if_false]
  have hl:1≤l.length∧l.length≤4:=by simp at hb;omega
  exact X5 (W0 l) _ l.length (fun i (_:Int)=>(i:Int)) (fun i b=>b=if i=0 then -1 else (l.getD (i-1) ⟨0,0⟩).Day) (fun i b=>some (X4G b (l.drop i)))
   (by
    intro b _ R
    simp [W0,Wd,X4G])
   (by
    intro i b hi hP R hR
    have hR':=hR (l[i].Day) (by simp [List.getD,hi])
    simp only [W0,Wd]
    rw [List.drop_eq_getElem_cons hi]
    have hw:IntKind.wrap .i64 ((i:Int)+1)=((i+1:Nat):Int):=by rw [w64]<;>omega
    have hw1:IntKind.wrap .i64 ((i:Int)-1)=((i:Int)-1):=by rw [w64]<;>omega
    simp only [Int.toNat_natCast,X0 _ _ _ hi,X4G,hw,hw1]
    rw [X1y,X1y,X1e,X1e]
    have h1:decide ((i:Int)<↑l.length)=true:=by simp [hi]
    have h2:decide ((0:Int)≤↑i)=true:=by simp
    simp only [h1,h2,Bool.and_self,cond_true,Option.bind_some]
    cases h3:X3 0 40000 [l[i].Day]
    ·cases h4:X3 0 4 [l[i].Colour]
     ·by_cases h0:i=0
      ·subst h0
       simp at hP h3
       have h5:¬ l[0].Day≤b:=by omega
       simp [h5];simpa using hR'
      ·have e7:(0:Int)≤(i:Int)-1:=by omega
       have e8:(i:Int)-1<(l.length:Int):=by omega
       have e9:((i:Int)-1).toNat=i-1:=by omega
       have e10:(i:Int)>0:=by omega
       simp only [e7,e8,e9,e10,decide_true,Bool.and_self,cond_true]
       simp only [h0,if_false] at hP
       rw [←hP]
       by_cases h5:l[i].Day≤b
       ·simp [h5]
       ·simp [h5];exact hR'
     ·simp
    ·simp) 0 (-1) (by omega) (by simp)
 ·simp

theorem X7y (b:ZB) (m:Int) (hm:0≤m∧m≤1000000):X4T b m=some (X7x b m 40):=by
 have hm1:IntKind.wrap .i64 (0-m) = -m:=by rw [w64]<;>omega
 unfold X4T X7x
 rw [WT _ _ _ (by simp),hm1]
 simp only [Option.bind_some]
 cases hb:X3 (-m) m [b.X.Lo,b.X.Hi,b.Y.Lo,b.Y.Hi]
 ·simp at hb
  have h1:IntKind.wrap .i64 (b.X.Hi-b.X.Lo)=b.X.Hi-b.X.Lo:=by rw [w64]<;>omega
  have h2:IntKind.wrap .i64 (b.Y.Hi-b.Y.Lo)=b.Y.Hi-b.Y.Lo:=by rw [w64]<;>omega
  rw [h1,h2,WT _ _ _ (by simp)]
  simp only [Option.bind_some,cond_false,Bool.false_eq_true,if_false]
  cases X3 0 40 [b.X.Hi-b.X.Lo,b.Y.Hi-b.Y.Lo]<;>simp
 ·simp

def X2z (lo hi:Int):Int→List ZE→Int
 | e,[]=>e
 | e,s::l=>if X3 lo hi [s.Lo,s.Hi] then 7 else X2z lo hi (if s.Lo>s.Hi then 2 else e) l

theorem X2Q (l:List ZE) (lo hi:Int) (hl:l.length<1000000):X23 l lo hi=some (X2z lo hi 0 l):=by
 unfold X23
 exact X5 (XY lo l hi) _ l.length (fun i (b:Int)=>(b,(i:Int))) (fun _ _=>True) (fun i b=>some (X2z lo hi b (l.drop i)))
   (by
    intro b _ R
    simp [XY,Wb,X2z])
   (by
    intro i b hi' _ R hR
    simp only [XY,Wb]
    rw [List.drop_eq_getElem_cons hi']
    have hw:IntKind.wrap .i64 ((i:Int)+1)=((i+1:Nat):Int):=by rw [w64]<;>omega
    simp only [Int.toNat_natCast,X0 _ _ _ hi',X2z,hw]
    rw [X1y,X1y,X1e,X1e]
    have h1:decide ((i:Int)<↑l.length)=true:=by simp [hi']
    have h2:decide ((0:Int)≤↑i)=true:=by simp
    simp only [h1,h2,Bool.and_self,cond_true,Option.bind_some]
    have hsplit:X3 lo hi [l[i].Lo,l[i].Hi]=(X3 lo hi [l[i].Lo]||X3 lo hi [l[i].Hi]):=by simp
    rw [hsplit]
    cases h3:X3 lo hi [l[i].Lo]
    ·cases h4:X3 lo hi [l[i].Hi]
     ·by_cases h5:l[i].Lo>l[i].Hi
      ·have:=hR 2 trivial
       simp only [h5];simp;simpa using this
      ·have:=hR b trivial
       simp only [h5];simp;simpa using this
     ·simp
    ·simp) 0 0 (by omega) trivial

theorem X8c (b:ZB) (m w:Int) (hw:0≤w):(let e:=X2z (-m) m 0 [b.X,b.Y];if e=0 then (if b.X.Hi-b.X.Lo>w then 2 else if b.Y.Hi-b.Y.Lo>w then 2 else 0) else e)=X7x b m w:=by
 simp only [X2z,X7x,X4e,X6v,Bool.or_false]
 generalize b.X.Lo=x,b.X.Hi=X,b.Y.Lo=y,b.Y.Hi=Y
 by_cases a1:x < -m∨x>m∨X < -m∨X>m
 ·have e1:(decide (x < -m)||decide (x>m)||(decide (X < -m)||decide (X>m)))=true:=by simp;omega
  have e2:(decide (x < -m)||decide (x>m)||(decide (X < -m)||decide (X>m)||(decide (y < -m)||decide (y>m)||(decide (Y < -m)||decide (Y>m)))))=true:=by simp;omega
  rw [e1,e2];simp
 ·have e1:(decide (x < -m)||decide (x>m)||(decide (X < -m)||decide (X>m)))=false:=by simp;omega
  rw [e1]
  by_cases a2:y < -m∨y>m∨Y < -m∨Y>m
  ·have e2:(decide (y < -m)||decide (y>m)||(decide (Y < -m)||decide (Y>m)))=true:=by simp;omega
   have e3:(decide (x < -m)||decide (x>m)||(decide (X < -m)||decide (X>m)||(decide (y < -m)||decide (y>m)||(decide (Y < -m)||decide (Y>m)))))=true:=by simp;omega
   rw [e3,e2];simp
  ·have e2:(decide (y < -m)||decide (y>m)||(decide (Y < -m)||decide (Y>m)))=false:=by simp;omega
   have e3:(decide (x < -m)||decide (x>m)||(decide (X < -m)||decide (X>m)||(decide (y < -m)||decide (y>m)||(decide (Y < -m)||decide (Y>m)))))=false:=by simp;omega
   rw [e3,e2]
   simp only [Bool.false_eq_true,if_false]
   by_cases b1:Y<y
   ·have e4:(decide (X-x<0)||decide (X-x>w)||(decide (Y-y<0)||decide (Y-y>w)))=true:=by simp;omega
    rw [e4]
    simp [b1]
   ·by_cases b2:X<x
    ·have e4:(decide (X-x<0)||decide (X-x>w)||(decide (Y-y<0)||decide (Y-y>w)))=true:=by simp;omega
     rw [e4]
     simp [b1,b2]
    ·simp only [gt_iff_lt,b1,b2,if_false]
     by_cases b3:X-x>w
     ·have e4:(decide (X-x<0)||decide (w<X-x)||(decide (Y-y<0)||decide (w<Y-y)))=true:=by simp;omega
      rw [e4];simp;omega
     ·by_cases b4:Y-y>w
      ·have e4:(decide (X-x<0)||decide (w<X-x)||(decide (Y-y<0)||decide (w<Y-y)))=true:=by simp;omega
       rw [e4];simp;omega
      ·have e4:(decide (X-x<0)||decide (w<X-x)||(decide (Y-y<0)||decide (w<Y-y)))=false:=by simp;omega
       rw [e4];simp;omega

theorem X8t (lo hi:Int) (b:ZB) (h:X2z lo hi 0 [b.X,b.Y]=0):lo≤b.X.Lo∧b.X.Hi≤hi∧b.X.Lo≤b.X.Hi∧lo≤b.Y.Lo∧b.Y.Hi≤hi∧b.Y.Lo≤b.Y.Hi:=by
 simp only [X2z,X4e,X6v,Bool.or_false] at h
 split at h
 ·simp at h
 ·split at h
  ·simp at h
  ·rename_i h1 h2
   simp at h1 h2
   split at h
   ·simp at h
   ·split at h
    ·simp at h
    ·omega

theorem X7F (b:ZB) (m:Int) (hm:0≤m∧m≤1000000):X50 b (-m) m=some (X7x b m 40):=by
 unfold X50
 rw [X2Q _ _ _ (by simp)]
 rw [←X8c b m 40 (by omega)]
 simp only [Option.bind_some]
 by_cases h:X2z (-m) m 0 [b.X,b.Y]=0
 ·have hb:=X8t _ _ _ h
  have h1:IntKind.wrap .i64 (b.X.Hi-b.X.Lo)=b.X.Hi-b.X.Lo:=by rw [w64]<;>omega
  have h2:IntKind.wrap .i64 (b.Y.Hi-b.Y.Lo)=b.Y.Hi-b.Y.Lo:=by rw [w64]<;>omega
  rw [h1,h2,h]
  by_cases h3:b.X.Hi-b.X.Lo>40
  ·simp [h3]
  ·by_cases h4:b.Y.Hi-b.Y.Lo>40<;>simp [h3,h4]
 ·have h':(X2z (-m) m 0 [b.X,b.Y]==0)=false:=beq_eq_false_iff_ne.2 h
  rw [h',if_neg h];rfl

end Nore
open Go Go.Ab
namespace Nore

theorem X4O {a b:Int} (A B:Int) (h1 : -A≤a) (h2:a≤A) (h3 : -B≤b) (h4:b≤B) : -(A*B)≤a*b∧a*b≤A*B:=by
 have p1:=Int.mul_nonneg (show 0≤A-a by omega) (show 0≤B+b by omega)
 have p2:=Int.mul_nonneg (show 0≤A+a by omega) (show 0≤B-b by omega)
 have p3:=Int.mul_nonneg (show 0≤A-a by omega) (show 0≤B-b by omega)
 have p4:=Int.mul_nonneg (show 0≤A+a by omega) (show 0≤B+b by omega)
 constructor<;>grind

def X2t (p:Nat→Bool):Nat→Nat→Bool
 | _,0=>true
 | i,k+1=>p i&&X2t p (i+1) k

theorem X6G (p:Nat→Bool) (k i:Nat):X2t p i k=true↔∀ j,i≤j→j<i+k→p j=true:=by
 induction k generalizing i with
 | zero=>simp [X2t];intro j h1 h2;omega
 | succ k ih =>
  simp only [X2t,Bool.and_eq_true,ih]
  constructor
  ·rintro ⟨h1,h2⟩ j h3 h4
   by_cases h:j=i
   ·subst h;exact h1
   ·exact h2 j (by omega) (by omega)
  ·intro h
   exact ⟨h i (by omega) (by omega),fun j h1 h2=>h j (by omega) (by omega)⟩

def Xk (a b:Zu):Zu:=⟨a.X-b.X,a.Y-b.Y⟩
def X1O (a b:Zu):Int:=a.X*b.Y-a.Y*b.X
def P0:Zu:=⟨0,0⟩
def X7v (l:List Zu) (i:Nat):Bool :=
 X2t (fun m=>m==i||m==(i+1) % l.length||decide (0<X1O (Xk (l.getD ((i+1) % l.length) P0) (l.getD i P0)) (Xk (l.getD m P0) (l.getD i P0)))) 0 l.length
def X6E (l:List Zu):Bool:=X2t (X7v l) 0 l.length
def X6A (s:CtSand):Int :=
 if X3 3 8 [(s.Corners.length:Int)] then 3 else if s.Corners.any (X3v 10000) then 7 else if X7x s.Moves 500 40=0 then (if X6E s.Corners then 0 else 9) else X7x s.Moves 500 40

def Bd (A:Int) (p:Zu):Prop := -A≤p.X∧p.X≤A ∧ -A≤p.Y∧p.Y≤A
theorem X6o (A:Int) (p:Zu):X3v A p=false↔Bd A p:=by
 simp [X3v,Bd];omega
theorem X5Z {A:Int} {l:List Zu} (h:l.any (X3v A)=false) (i:Nat) (hi:i<l.length):Bd A l[i]:=by
 rw [List.any_eq_false] at h
 rw [←X6o]
 simpa using h l[i] (List.getElem_mem hi)

theorem X6S {a b:Int} (A:Int) (hA:A≤1000000) (h1 : -A≤a∧a≤A) (h2 : -A≤b∧b≤A):IntKind.wrap .i64 (a-b)=a-b:=by rw [w64]<;>omega
theorem X89 {a b c d:Int} (A:Int) (hA:A=2000000) (h1 : -A≤a∧a≤A) (h2 : -A≤b∧b≤A) (h3 : -A≤c∧c≤A) (h4 : -A≤d∧d≤A):IntKind.wrap .i64 (IntKind.wrap .i64 (a*b)-IntKind.wrap .i64 (c*d))=a*b-c*d:=by
 subst hA
 have p:=X4O _ _ h1.1 h1.2 h2.1 h2.2
 have q:=X4O _ _ h3.1 h3.2 h4.1 h4.2
 rw [w64 (x:=a*b),w64 (x:=c*d),w64]<;>omega

theorem X7t (l:List Zu) (hl:3≤l.length∧l.length≤8) (hf:l.any (X3v 10000)=false) (i:Nat) (hi:i<l.length) :
  X24 (i:Int) l (((i+1) % l.length:Nat):Int) 0=some (if X7v l i then .inr () else .inl false):=by
 have hk:(i+1) % l.length<l.length:=Nat.mod_lt _ (by omega)
 unfold X7v
 generalize hkk:(i+1) % l.length=k at *
 have key:=X64 (Wu (i:Int) l (k:Int)) l.length (fun j (_:Unit)=>(j:Int)) (fun _ _=>True) (fun j _=>some (if X2t (fun m=>m==i||m==k||decide (0<X1O (Xk (l.getD k P0) (l.getD i P0)) (Xk (l.getD m P0) (l.getD i P0)))) j (l.length-j) then .inr () else .inl false))
  (by
   intro b _ R
   simp [Wu,WO,X2t])
  (by
   intro m b hm _ R hR
   have hR':=hR () trivial
   rw [show l.length-m=(l.length-(m+1))+1 by omega]
   simp only [X2t]
   simp only [Wu,WO]
   have hw:IntKind.wrap .i64 ((m:Int)+1)=((m+1:Nat):Int):=by rw [w64]<;>omega
   simp only [Int.toNat_natCast,X0 _ _ _ hm,X0 _ _ _ hi,X0 _ _ _ hk,hw]
   have b1:=X5Z hf m hm
   have b2:=X5Z hf i hi
   have b3:=X5Z hf k hk
   unfold Bd at b1 b2 b3
   rw [X6S 10000 (by omega) ⟨b3.1,b3.2.1⟩ ⟨b2.1,b2.2.1⟩,X6S 10000 (by omega) b1.2.2 b2.2.2,X6S 10000 (by omega) b3.2.2 b2.2.2,X6S 10000 (by omega) ⟨b1.1,b1.2.1⟩ ⟨b2.1,b2.2.1⟩]
   rw [X89 2000000 rfl (by omega) (by omega) (by omega) (by omega)]
   have d1:decide ((m:Int)<↑l.length)=true:=by simp [hm]
   have d2:decide ((0:Int)≤↑m)=true:=by simp
   have d3:decide ((i:Int)<↑l.length)=true:=by simp [hi]
   have d4:decide ((0:Int)≤↑i)=true:=by simp
   have d5:decide ((k:Int)<↑l.length)=true:=by simp [hk]
   have d6:decide ((0:Int)≤↑k)=true:=by simp
   simp only [d1,d2,d3,d4,d5,d6,Bool.and_self,cond_true]
   change Option.bind (bif ((m:Int) != ↑i) then bif ((m:Int) != ↑k) then bif decide (X1O (Xk l[k] l[i]) (Xk l[m] l[i])≤0) then _ else _ else _ else _) _=_
   by_cases e1:m=i
   ·have:((m:Int) != (i:Int))=false:=by simp [e1]
    rw [this];simp [e1];simpa [e1,hi,hk] using hR'
   ·have t1:((m:Int) != (i:Int))=true:=by simp;omega
    by_cases e2:m=k
    ·have:((m:Int) != (k:Int))=false:=by simp [e2]
     rw [t1,this];simp [e2];simpa [e2,hi,hk] using hR'
    ·have t2:((m:Int) != (k:Int))=true:=by simp;omega
     rw [t1,t2]
     by_cases e3:X1O (Xk l[k] l[i]) (Xk l[m] l[i])≤0
     ·have t3:¬ 0<X1O (Xk l[k] l[i]) (Xk l[m] l[i]):=by omega
      simp [e1,e2,e3,t3]
     ·have t3:0<X1O (Xk l[k] l[i]) (Xk l[m] l[i]):=by omega
      simp [e1,e2,e3,t3];simpa [hi,hk] using hR')
 have:=key 0 () (by omega) trivial
 simpa [X24] using this

theorem X7f (l:List Zu) (hl:3≤l.length∧l.length≤8) (hf:l.any (X3v 10000)=false):X3P l=some (X6E l):=by
 unfold X3P X6E
 have key:=X5 (Wt l) (fun o103=>Sum.elim (fun y104:Bool=>some y104) (fun _:Unit=>some true) o103) l.length (fun i (_:Unit)=>(i:Int)) (fun _ _=>True) (fun i _=>some (X2t (X7v l) i (l.length-i)))
  (by
   intro b _ R
   simp [Wt,WN,X2t])
  (by
   intro i b hi _ R hR
   have hR':=hR () trivial
   rw [show l.length-i=(l.length-(i+1))+1 by omega]
   simp only [X2t]
   simp only [Wt,WN]
   have hw:IntKind.wrap .i64 ((i:Int)+1)=((i+1:Nat):Int):=by rw [w64]<;>omega
   have hm:Int.tmod ((i+1:Nat):Int) (l.length:Int)=(((i+1) % l.length:Nat):Int):=rfl
   have d1:decide ((i:Int)<↑l.length)=true:=by simp [hi]
   have d2:((l.length:Int)==0)=false:=by simp;intro h;simp [h] at hl
   simp only [hw,hm,d1,d2,cond_true,cond_false]
   rw [X7t l hl hf i hi]
   simp only [Option.bind_some]
   cases h:X7v l i
   ·simp
   ·simp;simpa using hR')
 exact (key 0 () (by omega) trivial).trans (by simp)

theorem X7q (s:CtSand):X4x s=some (X6A s):=by
 unfold X4x X6A
 rw [X1y,X1e]
 simp only [Option.bind_some]
 cases hb:X3 3 8 [(s.Corners.length:Int)]
 ·have hl:3≤s.Corners.length∧s.Corners.length≤8:=by simp at hb;omega
  simp only [Bool.not_false,Bool.not_true,cond_false,Bool.false_eq_true,if_false]
  have key:=X64 (W1 s) s.Corners.length (fun i (_:Unit)=>(i:Int)) (fun _ _=>True) (fun i _=>some (if (s.Corners.drop i).any (X3v 10000) then .inl 7 else .inr ()))
   (by
    intro b _ R
    simp [W1,X19])
   (by
    intro i b hi _ R hR
    have hR':=hR () trivial
    simp only [W1,X19]
    rw [List.drop_eq_getElem_cons hi]
    have hw:IntKind.wrap .i64 ((i:Int)+1)=((i+1:Nat):Int):=by rw [w64]<;>omega
    simp only [Int.toNat_natCast,X0 _ _ _ hi,List.any_cons,hw]
    rw [X5q _ _ (by omega)]
    have h1:decide ((i:Int)<↑s.Corners.length)=true:=by simp [hi]
    have h2:decide ((0:Int)≤↑i)=true:=by simp
    simp only [h1,h2,Bool.and_self,cond_true,Option.bind_some]
    by_cases h3:X3v 10000 s.Corners[i]=true
    ·simp [h3]
    ·simp [h3];simpa using hR')
  have k0:=key 0 () (by omega) trivial
  simp only [List.drop_zero,Int.natCast_zero] at k0
  unfold X3p
  have k0':Z8S (W1 s) 0=some (if s.Corners.any (X3v 10000) then .inl 7 else .inr ()):=k0
  rw [k0']
  simp only [Option.bind_some]
  cases hf:s.Corners.any (X3v 10000)
  ·simp only [Bool.false_eq_true,if_false,Sum.elim_inr]
   rw [X7F _ _ (by omega),X7f _ hl hf]
   simp only [Option.bind_some]
   by_cases h:X7x s.Moves 500 40=0
   ·rw [h]
    cases X6E s.Corners<;>simp
   ·simp [h,X5D h]
  ·simp
 ·simp

end Nore
open Go Go.Ab
namespace Nore

theorem X8R {α:Type} (P:α→Bool) (l:List α):l.countP P=0↔∀ m,(h:m<l.length)→P l[m]=false:=by
 rw [List.countP_eq_zero]
 constructor
 ·intro h m hm;simpa using h l[m] (List.getElem_mem hm)
 ·intro h a ha
  obtain ⟨m,hm,rfl⟩:=List.getElem_of_mem ha
  simp [h m hm]

theorem X8L {α:Type} (P:α→Bool) (l:List α):∀ i,(hi:i<l.length)→P l[i]=true→(l.countP P=1↔∀ m,(h:m<l.length)→m≠i→P l[m]=false):=by
 induction l with
 | nil=>intro i hi;simp at hi
 | cons a t ih =>
  intro i hi hP
  cases i with
  | zero =>
   simp only [List.getElem_cons_zero] at hP
   rw [List.countP_cons_of_pos hP]
   rw [show (t.countP P+1=1)↔t.countP P=0 by omega,X8R]
   constructor
   ·intro h m hm hne
    cases m with
    | zero=>exact absurd rfl hne
    | succ m=>simpa using h m (by simpa using hm)
   ·intro h m hm
    exact h (m+1) (by simpa using hm) (by omega)
  | succ i =>
   simp only [List.getElem_cons_succ] at hP
   have hi':i<t.length:=by simpa using hi
   have hpos:0<t.countP P:=by
    rw [List.countP_pos_iff];exact ⟨t[i],List.getElem_mem hi',hP⟩
   have ih':=ih i hi' hP
   cases ha:P a
   ·rw [List.countP_cons_of_neg (by simp [ha]),ih']
    constructor
    ·intro h m hm hne
     cases m with
     | zero=>simpa using ha
     | succ m=>simpa using h m (by simpa using hm) (by omega)
    ·intro h m hm hne
     exact h (m+1) (by simpa using hm) (by omega)
   ·rw [List.countP_cons_of_pos ha]
    constructor
    ·intro h;omega
    ·intro h
     have:=h 0 (by simp) (by omega)
     simp [ha] at this

theorem X8M {α:Type} (P:α→Bool) (l:List α):∀ i k,(hi:i<l.length)→(hk:k<l.length)→i<k→P l[i]=true→P l[k]=true→(l.countP P=2↔∀ m,(h:m<l.length)→m≠i→m≠k→P l[m]=false):=by
 induction l with
 | nil=>intro i k hi;simp at hi
 | cons a t ih =>
  intro i k hi hk hik hP hQ
  cases k with
  | zero=>omega
  | succ k =>
   simp only [List.getElem_cons_succ] at hQ
   have hk':k<t.length:=by simpa using hk
   cases i with
   | zero =>
    simp only [List.getElem_cons_zero] at hP
    rw [List.countP_cons_of_pos hP]
    rw [show (t.countP P+1=2)↔t.countP P=1 by omega,X8L P t k hk' hQ]
    constructor
    ·intro h m hm hne hne2
     cases m with
     | zero=>exact absurd rfl hne
     | succ m=>simpa using h m (by simpa using hm) (by omega)
    ·intro h m hm hne
     exact h (m+1) (by simpa using hm) (by omega) (by omega)
   | succ i =>
    simp only [List.getElem_cons_succ] at hP
    have hi':i<t.length:=by simpa using hi
    have ih':=ih i k hi' hk' (by omega) hP hQ
    cases ha:P a
    ·rw [List.countP_cons_of_neg (by simp [ha]),ih']
     constructor
     ·intro h m hm hne hne2
      cases m with
      | zero=>simpa using ha
      | succ m=>simpa using h m (by simpa using hm) (by omega) (by omega)
     ·intro h m hm hne hne2
      exact h (m+1) (by simpa using hm) (by omega) (by omega)
    ·have hpos:2≤t.countP P:=by
      have h1:=X8L P t i hi' hP
      have:0<t.countP P:=by
       rw [List.countP_pos_iff];exact ⟨t[i],List.getElem_mem hi',hP⟩
      by_cases e:t.countP P=1
      ·have:=h1.1 e k hk' (by omega)
       simp [hQ] at this
      ·omega
     rw [List.countP_cons_of_pos ha]
     constructor
     ·intro h;omega
     ·intro h
      have:=h 0 (by simp) (by omega) (by omega)
      simp [ha] at this

def X4n (l:List Zu) (a b:Zu):Bool :=
 (l.countP fun p=>decide (X1O (Xk b a) (Xk p a)≤0))==2 && !((b.X-a.X==0)&&(b.Y-a.Y==0))
def X4R (l:List Zu):Zu→List Zu→Bool
 | _,[]=>true
 | last,p::r=>X4n l last p&&X4R l p r

theorem X8n (a b:Zu):X1O (Xk b a) (Xk b a)=0:=by simp [X1O,Int.mul_comm]
theorem X8o (a b:Zu):X1O (Xk b a) (Xk a a)=0:=by simp [X1O,Xk]

theorem X7B (l:List Zu) (hl:3≤l.length) (i k:Nat) (hi:i<l.length) (hk:k<l.length) (hne:i≠k) :
  X4n l l[i] l[k]=X2t (fun m=>m==i||m==k||decide (0<X1O (Xk (l.getD k P0) (l.getD i P0)) (Xk (l.getD m P0) (l.getD i P0)))) 0 l.length:=by
 rw [Bool.eq_iff_iff,X6G]
 have hPi:decide (X1O (Xk l[k] l[i]) (Xk l[i] l[i])≤0)=true:=by rw [X8o];rfl
 have hPk:decide (X1O (Xk l[k] l[i]) (Xk l[k] l[i])≤0)=true:=by rw [X8n];rfl
 have hc:(l.countP fun p=>decide (X1O (Xk l[k] l[i]) (Xk p l[i])≤0))=2↔∀ m,(h:m<l.length)→m≠i→m≠k→decide (X1O (Xk l[k] l[i]) (Xk l[m] l[i])≤0)=false:=by
  by_cases hik:i<k
  ·exact X8M (fun p=>decide (X1O (Xk l[k] l[i]) (Xk p l[i])≤0)) l i k hi hk hik hPi hPk
  ·have:=X8M (fun p=>decide (X1O (Xk l[k] l[i]) (Xk p l[i])≤0)) l k i hk hi (by omega) hPk hPi
   rw [this]
   constructor
   ·intro h m hm h1 h2;exact h m hm h2 h1
   ·intro h m hm h1 h2;exact h m hm h2 h1
 simp only [X4n,Bool.and_eq_true,beq_iff_eq,hc]
 constructor
 ·rintro ⟨h,_⟩ m _ hm
  have hm':m<l.length:=by omega
  by_cases e1:m=i
  ·simp [e1]
  ·by_cases e2:m=k
   ·simp [e2]
   ·have:=h m hm' e1 e2
    simp only [X0 _ _ _ hm',X0 _ _ _ hi,X0 _ _ _ hk]
    simp at this
    simp [this]
 ·intro h
  have h':∀ m,(hm:m<l.length)→m≠i→m≠k→0<X1O (Xk l[k] l[i]) (Xk l[m] l[i]):=fun m hm e1 e2=>by
   have:=h m (by omega) (by omega)
   simp only [X0 _ _ _ hm,X0 _ _ _ hi,X0 _ _ _ hk] at this
   simpa [e1,e2] using this
  refine ⟨fun m hm e1 e2 => ?_,?_⟩
  ·have:=h' m hm e1 e2
   simp;omega
  ·have:∃ m,m<l.length∧m≠i∧m≠k:=by
    by_cases a0:0≠i∧0≠k
    ·exact ⟨0,by omega,a0⟩
    ·by_cases a1:1≠i∧1≠k
     ·exact ⟨1,by omega,a1⟩
     ·exact ⟨2,by omega,by omega,by omega⟩
   obtain ⟨m,hm,e1,e2⟩:=this
   have:=h' m hm e1 e2
   rw [Bool.not_eq_true',Bool.eq_false_iff]
   intro hz
   simp only [Bool.and_eq_true,beq_iff_eq] at hz
   simp [X1O,Xk,hz.1,hz.2] at this

theorem X8b (l:List Zu):∀ k i,i+k=l.length→1≤i→(hi:i-1<l.length)→(X4R l l[i-1] (l.drop i)=true↔∀ j,(h1:i≤j)→(h2:j<l.length)→X4n l l[j-1] l[j]=true):=by
 intro k
 induction k with
 | zero =>
  intro i hk h1 hi
  rw [List.drop_eq_nil_of_le (by omega)]
  simp [X4R]
  intro j h1 h2;omega
 | succ k ih =>
  intro i hk h1 hi
  have hi2:i<l.length:=by omega
  rw [List.drop_eq_getElem_cons hi2]
  simp only [X4R,Bool.and_eq_true]
  have:=ih (i+1) (by omega) (by omega) (by omega)
  simp only [Nat.add_sub_cancel] at this
  rw [this]
  constructor
  ·rintro ⟨g,h⟩ j a b
   by_cases e:j=i
   ·subst e;exact g
   ·exact h j (by omega) b
  ·intro h
   exact ⟨h i (by omega) hi2,fun j a b=>h j (by omega) b⟩

theorem X82 (l:List Zu) (hl:3≤l.length):X4R l (l.getD (l.length-1) P0) l=X6E l:=by
 rw [Bool.eq_iff_iff]
 have e:X4R l (l.getD (l.length-1) P0) l=(X4n l l[l.length-1] l[0]&&X4R l l[1-1] (l.drop 1)):=by
  conv=>lhs;rw [show l=l[0]::l.drop 1 by rw [←List.drop_eq_getElem_cons (by omega)];rfl]
  rw [←show l=l[0]::l.drop 1 by rw [←List.drop_eq_getElem_cons (by omega)];rfl]
  rw [X0 _ _ _ (by omega)]
  conv=>lhs;arg 3;rw [show l=l[0]::l.drop 1 by rw [←List.drop_eq_getElem_cons (by omega)];rfl]
  rfl
 rw [e]
 simp only [Bool.and_eq_true]
 rw [X8b l (l.length-1) 1 (by omega) (by omega) (by omega)]
 unfold X6E
 rw [X6G]
 have hside:∀ i,(hi:i<l.length)→X7v l i=X4n l l[i] (l[(i+1) % l.length]'(Nat.mod_lt _ (by omega))):=fun i hi=>by
  have hk:(i+1) % l.length<l.length:=Nat.mod_lt _ (by omega)
  have hne:i≠(i+1) % l.length:=by
   by_cases h:i+1<l.length
   ·rw [Nat.mod_eq_of_lt h];omega
   ·have:i+1=l.length:=by omega
    rw [this,Nat.mod_self];omega
  rw [X7B l hl i _ hi hk hne]
  rfl
 constructor
 ·rintro ⟨h0,h⟩ i _ hi
  have hi':i<l.length:=by omega
  rw [hside i hi']
  by_cases hh:i+1<l.length
  ·have:=h (i+1) (by omega) hh
   simp only [Nat.mod_eq_of_lt hh]
   simpa using this
  ·have e1:i=l.length-1:=by omega
   subst e1
   simp only [show l.length-1+1=l.length by omega,Nat.mod_self]
   exact h0
 ·intro h
  constructor
  ·have:=h (l.length-1) (by omega) (by omega)
   rw [hside _ (by omega)] at this
   simpa only [show l.length-1+1=l.length by omega,Nat.mod_self] using this
  ·intro j h1 h2
   have:=h (j-1) (by omega) (by omega)
   rw [hside _ (by omega)] at this
   simpa only [show j-1+1=j by omega,Nat.mod_eq_of_lt h2] using this

theorem X6T (l:List Zu) (hl:l.length≤8) (hf:l.any (X3v 10000)=false) (x4:Z8) (x5:Bool) (x6:Int) (x7:Bool) (x8:Z8) (x9:Bool) (x10:Int) (x11:Z8) (s:Z6) (a b:Zu) (ha:Bd 10000 a) (hb:Bd 10000 b) (hs:s=⟨a,Xk b a⟩) :
  Wj (↑l.length) l x4 x5 x6 x7 x8 x9 x10 x11 s (0,0)=some ((l.countP fun p=>decide (X1O (Xk b a) (Xk p a)≤0):Nat):Int):=by
 subst hs
 unfold Bd at ha hb
 have key:=X64 (Xg (↑l.length) l x4 x5 x6 x7 x8 x9 x10 x11 ⟨a,Xk b a⟩) l.length (fun i (c:Nat)=>((c:Int),(i:Int))) (fun i c=>c≤i) (fun i c=>some (((c+(l.drop i).countP fun p=>decide (X1O (Xk b a) (Xk p a)≤0):Nat)):Int))
  (by
   intro b _ R
   simp [Xg,Xo])
  (by
   intro i c hi hc R hR
   simp only [Xg,Xo]
   rw [List.drop_eq_getElem_cons hi]
   have hw:IntKind.wrap .i64 ((i:Int)+1)=((i+1:Nat):Int):=by rw [w64]<;>omega
   have hw2:IntKind.wrap .i64 ((c:Int)+1)=((c+1:Nat):Int):=by rw [w64]<;>omega
   have bp:=X5Z hf i hi
   unfold Bd at bp
   simp only [Int.toNat_natCast,X0 _ _ _ hi,hw,hw2,Xk]
   rw [X6S 10000 (by omega) bp.2.2 ha.2.2,X6S 10000 (by omega) ⟨bp.1,bp.2.1⟩ ⟨ha.1,ha.2.1⟩]
   rw [X89 2000000 rfl (by omega) (by omega) (by omega) (by omega)]
   have h1:decide ((i:Int)<↑l.length)=true:=by simp [hi]
   have h2:decide ((0:Int)≤↑i)=true:=by simp
   simp only [h1,h2,Bool.and_self,cond_true]
   change Option.bind (bif decide (X1O (Xk b a) (Xk l[i] a)≤0) then _ else _) _=_
   change _=some (((c+List.countP (fun p=>decide (X1O (Xk b a) (Xk p a)≤0)) (l[i]::List.drop (i+1) l):Nat)):Int)
   by_cases h:X1O (Xk b a) (Xk l[i] a)≤0
   ·rw [List.countP_cons_of_pos (by simpa using h)]
    simp only [h,decide_true,cond_true,Option.bind_some,Sum.elim_inl]
    rw [hR (c+1) (by omega)]
    congr 1
    show ((_:Nat):Int)=((_:Nat):Int)
    congr 1
    show c+1+_=c+(_+1)
    simp only [Xk]
    omega
   ·rw [List.countP_cons_of_neg (by simpa using h)]
    simp only [h,decide_false,cond_false,Option.bind_some,Sum.elim_inl]
    rw [hR c (by omega)])
 have:=key 0 0 (by omega) (by omega)
 simpa [Wj] using this

theorem X65 (s:Z8):X1I s=some (X6A s.CtSand):=by
 obtain ⟨s⟩:=s
 unfold X1I X6A
 rw [WT _ _ _ (by simp)]
 simp only [Option.bind_some]
 cases hb:X3 3 8 [(s.Corners.length:Int)]
 ·have hl:3≤s.Corners.length∧s.Corners.length≤8:=by simp at hb;omega
  simp only [cond_false,Bool.false_eq_true,if_false]
  rw [X59 _ (by omega) _ (by omega)]
  simp only [Option.bind_some]
  cases hf:s.Corners.any (X3v 10000)
  ·simp only [cond_false,Bool.false_eq_true,if_false]
   rw [X7y _ _ (by omega)]
   simp only [Option.bind_some]
   by_cases h:X7x s.Moves 500 40=0
   ·have hw:IntKind.wrap .i64 ((s.Corners.length:Int)-1)=(s.Corners.length:Int)-1:=by rw [w64]<;>omega
    have ht:((s.Corners.length:Int)-1).toNat=s.Corners.length-1:=by omega
    have h1:decide ((0:Int)≤(s.Corners.length:Int)-1)=true:=by simp;omega
    have h2:decide ((s.Corners.length:Int)-1<(s.Corners.length:Int))=true:=by simp;omega
    simp only [h,hw,ht,h1,h2,bne_self_eq_false,cond_false,Bool.and_self,cond_true,if_true]
    rw [←X82 _ hl.1]
    have hlast:Bd 10000 (s.Corners.getD (s.Corners.length-1) P0):=by
     rw [X0 _ _ _ (by omega)];exact X5Z hf _ (by omega)
    refine (X5 (Xf (↑s.Corners.length) s.Corners ⟨s⟩ false 0 false ⟨s⟩ false 0 ⟨s⟩ [(↑s.Corners.length:Int)]) _ s.Corners.length (fun i (b:Zu)=>((i:Int),b)) (fun _ b=>Bd 10000 b) (fun i b=>some (if X4R s.Corners b (s.Corners.drop i) then 0 else 9)) ?_ ?_ 0 _ (by omega) hlast).trans (by simp)
    ·intro b _ R
     simp [Xf,Xn,X4R]
    ·intro i b hi hP R hR
     have bp:=X5Z hf i hi
     have hR':=hR s.Corners[i] bp
     simp only [Xf,Xn]
     rw [List.drop_eq_getElem_cons hi]
     have hw:IntKind.wrap .i64 ((i:Int)+1)=((i+1:Nat):Int):=by rw [w64]<;>omega
     simp only [Int.toNat_natCast,X0 _ _ _ hi,hw,X4R]
     have bp':=bp
     have hP':=hP
     unfold Bd at bp' hP'
     rw [X6S 10000 (by omega) bp'.2.2 hP'.2.2,X6S 10000 (by omega) ⟨bp'.1,bp'.2.1⟩ ⟨hP'.1,hP'.2.1⟩]
     rw [X6T s.Corners hl.2 hf _ _ _ _ _ _ _ _ ⟨⟨b.X,b.Y⟩,⟨s.Corners[i].X-b.X,s.Corners[i].Y-b.Y⟩⟩ b s.Corners[i] hP bp rfl]
     have h1:decide ((i:Int)<↑s.Corners.length)=true:=by simp [hi]
     have h2:decide ((0:Int)≤↑i)=true:=by simp
     simp only [h1,h2,Bool.and_self,cond_true,Option.bind_some]
     have hg:X4n s.Corners b s.Corners[i]=((s.Corners.countP fun p=>decide (X1O (Xk s.Corners[i] b) (Xk p b)≤0))==2 && !((s.Corners[i].X-b.X==0)&&(s.Corners[i].Y-b.Y==0))):=rfl
     generalize (s.Corners.countP fun p=>decide (X1O (Xk s.Corners[i] b) (Xk p b)≤0))=c at hg ⊢
     by_cases h3:c=2
     ·subst h3
      cases h4:(s.Corners[i].X-b.X==0)
      ·simp only [h4,Bool.false_and,Bool.not_false,Bool.and_true,beq_self_eq_true] at hg
       simp [hg];simpa using hR'
      ·cases h5:(s.Corners[i].Y-b.Y==0)
       ·simp only [h4,h5,Bool.and_false,Bool.not_false,Bool.and_true,beq_self_eq_true] at hg
        simp [hg];simpa using hR'
       ·simp only [h4,h5,Bool.and_self,Bool.not_true,Bool.and_false] at hg
        simp [hg]
     ·have h3':(((c:Nat):Int) != 2)=true:=by simp;omega
      have h3'':(c==2)=false:=by simp [h3]
      rw [h3'',Bool.false_and] at hg
      simp [h3',hg]
   ·rw [WW h,if_neg h];rfl
  ·simp
 ·simp

end Nore
open Go Go.Ab
namespace Nore

theorem Z7X (a b:ByteArray):(a==b)=(a.data==b.data):=by cases a;cases b;rfl
instance:LawfulBEq ByteArray where
 rfl:=by intro a;rw [Z7X];simp
 eq_of_beq:=by
  intro a b h
  rw [Z7X] at h
  have:=eq_of_beq h
  cases a;cases b
  simp only at this
  rw [this]
instance:DecidableEq ByteArray:=fun a b=>if h:(a==b)=true then isTrue (eq_of_beq h) else isFalse (fun e=>h (by rw [e];simp))

theorem X6k {v:Int} (s k:ByteArray):∀ m:List (ByteArray×Int),Z8z (fun a b=>a==b) s (Zgh (fun a b=>a==b) k v m)=if s=k then some v else Z8z (fun a b=>a==b) s m
 | []=>by
  by_cases h:s=k
  ·simp [Zgh,Z8z,h]
  ·have h':(s==k)=false:=beq_eq_false_iff_ne.2 h
   simp [Zgh,Z8z,h,h']
 | (k',v')::m=>by
  have ih:=X6k s k m (v:=v)
  simp only [Zgh]
  by_cases h1:k=k'
  ·subst h1
   simp only [beq_self_eq_true,cond_true,Z8z]
   by_cases h:s=k
   ·simp [h]
   ·have h':(s==k)=false:=beq_eq_false_iff_ne.2 h
    simp [h,h']
  ·have:(k==k')=false:=by simp [h1]
   simp only [this,cond_false,Z8z]
   by_cases h2:s=k'
   ·subst h2
    have h3:s≠k:=fun h=>h1 h.symm
    simp [h3]
   ·have:(s==k')=false:=by simp [h2]
    simp only [this,cond_false,ih]

def X17 (s:ByteArray) (names:List ByteArray):Int:=if X5P s then (if s∈names then 5 else 0) else 6

theorem X6m {a b:ByteArray} (h:a.toList=b.toList):a=b:=by
 cases a;cases b
 simp only [ByteArray.toList_eq] at h
 congr 1
 exact Array.ext' h

theorem X4u (s:ByteArray) (names:List ByteArray) (hl:names.length<1000000):X2o s names=some (X17 s names):=by
 unfold X2o X17
 rw [X7p]
 simp only [Option.bind_some]
 cases X5P s
 ·simp
 ·simp only [Bool.not_true,cond_false,if_true]
  unfold X4I
  have key:=X5 (XH s names) (fun o78=>Option.bind (Sum.elim (fun y79:Int=>some y79) (fun _:Unit=>some (-1)) o78) fun r82=>bif decide (r82≥0) then some (5:Int) else some 0) names.length (fun i (_:Unit)=>(i:Int)) (fun _ _=>True) (fun i _=>some (if s∈names.drop i then 5 else 0))
   (by
    intro b _ R
    simp [XH,WM])
   (by
    intro i b hi _ R hR
    have hR':=hR () trivial
    simp only [XH,WM]
    rw [List.drop_eq_getElem_cons hi]
    have hw:IntKind.wrap .i64 ((i:Int)+1)=((i+1:Nat):Int):=by rw [w64]<;>omega
    simp only [Int.toNat_natCast,X0 _ _ _ hi,hw]
    have h1:decide ((i:Int)<↑names.length)=true:=by simp [hi]
    have h2:decide ((0:Int)≤↑i)=true:=by simp
    simp only [h1,h2,Bool.and_self,cond_true]
    by_cases h:names[i]=s
    ·simp [h]
    ·have h':(names[i].toList==s.toList)=false:=by
      simp only [beq_eq_false_iff_ne];intro hh;exact h (X6m hh)
     have h'':¬ s=names[i]:=fun hh=>h hh.symm
     simp only [h',cond_false,Option.bind_some,Sum.elim_inl,List.mem_cons,h'',false_or]
     exact hR')
  have:=key 0 () (by omega) trivial
  simp only [List.drop_zero] at this
  rw [←this]
  show Option.bind (Option.bind _ _) _=Option.bind _ _
  unfold X2V
  simp only [Int.natCast_zero]
  cases Z8S (XH s names) 0<;>rfl

def X3z (m:Zw) (names:List ByteArray):Int:=if X17 m.Name names=0 then (if X3v 30000 m.At then 7 else X3n m.Paints) else X17 m.Name names
def X5B (s:CtSand) (names:List ByteArray):Int:=if X17 s.Name names=0 then X6A s else X17 s.Name names
def X4Q:Nat→List ByteArray→List CtSand→Int×Int×Int
 | _,_,[]=>(0,0,0)
 | i,names,s::l=>if X5B s names=0 then X4Q (i+1) (names++[s.Name]) l else (2,(i:Int),X5B s names)
def X4N (sands:List CtSand):Nat→List ByteArray→List Zw→Int×Int×Int
 | _,names,[]=>if 4<sands.length then (2,0,3) else X4Q 0 names sands
 | i,names,m::l=>if X3z m names=0 then X4N sands (i+1) (names++[m.Name]) l else (1,(i:Int),X3z m names)
def X3U (c:Zl):Int×Int×Int:=if 8<c.Marks.length then (1,0,3) else X4N c.Sands 0 [] c.Marks

def Z2P (m:List (ByteArray×Int)) (names:List ByteArray):Prop:=∀ s,Option.getD (Z8z (fun a b=>a==b) s m) 0=if s∈names then 1 else 0

theorem X7T {m:List (ByteArray×Int)} {names:List ByteArray} (h:Z2P m names) (s:ByteArray) (hs:s∉names):Z2P (Zgh (fun a b=>a==b) s (IntKind.wrap .i64 (Option.getD (Z8z (fun a b=>a==b) s m) 0+1)) m) (names++[s]):=by
 intro t
 rw [X6k,h s,if_neg hs]
 by_cases e:t=s
 ·simp [e];rfl
 ·simp [e];simpa using h t

theorem X79 {m:List (ByteArray×Int)} {names:List ByteArray} (h:Z2P m names) (s:ByteArray):decide (Option.getD (Z8z (fun a b=>a==b) s (Zgh (fun a b=>a==b) s (IntKind.wrap .i64 (Option.getD (Z8z (fun a b=>a==b) s m) 0+1)) m)) 0>1)=decide (s∈names):=by
 rw [X6k,h s]
 simp only [if_true,Option.getD_some]
 by_cases e:s∈names
 ·simp only [e,if_true];rfl
 ·simp only [e,if_false];rfl

theorem X7P (c:Zl) (hl:c.Sands.length≤4) (m:List (ByteArray×Int)) (names:List ByteArray) (hm:Z2P m names) (k:_→Option (Int×Int×Int))
  (hk:k=fun o56=>Sum.elim (fun (y57:Int×Int×Int×(List (ByteArray×Int))×CtSand)=>some (y57.snd.snd.fst,y57.fst,y57.snd.fst)) (fun y58=>Sum.elim (fun (y59:Int×Int×Int×(List (ByteArray×Int))×CtSand)=>some (y59.snd.snd.fst,y59.fst,y59.snd.fst)) (fun y60=>Sum.elim (fun (y61:Int×Int×Int×(List (ByteArray×Int))×CtSand)=>some (y61.snd.snd.fst,y61.fst,y61.snd.fst)) (fun (_:List (ByteArray×Int))=>some (0,0,0)) y60) y58) o56) :
  Option.bind (X1X (↑c.Sands.length) c.Sands c (0,m)) k=some (X4Q 0 names c.Sands):=by
 subst hk
 unfold X1X
 exact X5 (Wi (↑c.Sands.length) c.Sands c) _ c.Sands.length (fun i (b:List (ByteArray×Int)×List ByteArray)=>((i:Int),b.1)) (fun _ b=>Z2P b.1 b.2) (fun i b=>some (X4Q i b.2 (c.Sands.drop i)))
  (by
   intro b _ R
   simp [Wi,WD,X4Q])
  (by
   intro i b hi hP R hR
   simp only [Wi,WD]
   rw [List.drop_eq_getElem_cons hi]
   have hw:IntKind.wrap .i64 ((i:Int)+1)=((i+1:Nat):Int):=by rw [w64]<;>omega
   simp only [Int.toNat_natCast,X0 _ _ _ hi,hw,X4Q]
   rw [X4M,X65,X79 hP]
   have h1:decide ((i:Int)<↑c.Sands.length)=true:=by simp [hi]
   have h2:decide ((0:Int)≤↑i)=true:=by simp
   simp only [h1,h2,Bool.and_self,cond_true,Option.bind_some]
   by_cases hn:X5P c.Sands[i].Name=true
   ·by_cases he:c.Sands[i].Name∈b.2
    ·have hE:X5B c.Sands[i] b.2=5:=by simp [X5B,X17,hn,he]
     simp [hn,he,hE]
    ·have e0:(⟨c.Sands[i].Name,c.Sands[i].Corners,c.Sands[i].Moves⟩:CtSand)=c.Sands[i]:=rfl
     have hE:X5B c.Sands[i] b.2=X6A c.Sands[i]:=by simp [X5B,X17,hn,he]
     rw [e0]
     simp only [hn,he,Bool.not_true,decide_false,cond_false,hE]
     by_cases hs:X6A c.Sands[i]=0
     ·simp only [hs,bne_self_eq_false,cond_false,if_true,Option.bind_some,Sum.elim_inl]
      exact hR (_,b.2++[c.Sands[i].Name]) (X7T hP _ he)
     ·simp [hs,WW hs]
   ·have hE:X5B c.Sands[i] b.2=6:=by simp [X5B,X17,hn]
    simp [hn,hE]) 0 (m,names) (by omega) hm

theorem X5E (c:Zl):X30 c=some (X3U c):=by
 unfold X30 X3U
 by_cases h8:8<c.Marks.length
 ·have:decide ((c.Marks.length:Int)>8)=true:=by simp;omega
  rw [this];simp [h8]
 ·have:decide ((c.Marks.length:Int)>8)=false:=by simp;omega
  rw [this]
  simp only [cond_false,h8,if_false]
  exact X5 (Wh (↑c.Marks.length) c.Marks c) _ c.Marks.length (fun i (b:List (ByteArray×Int)×List ByteArray)=>((i:Int),b.1)) (fun _ b=>Z2P b.1 b.2) (fun i b=>some (X4N c.Sands i b.2 (c.Marks.drop i)))
   (by
    intro b hP R
    simp only [Wh,WC]
    have h1:decide ((c.Marks.length:Int)<↑c.Marks.length)=false:=by simp
    simp only [h1,cond_false,Option.bind_some,Sum.elim_inr,List.drop_length,X4N]
    by_cases h4:4<c.Sands.length
    ·have:decide ((c.Sands.length:Int)>4)=true:=by simp;omega
     rw [this];simp [h4]
    ·have:decide ((c.Sands.length:Int)>4)=false:=by simp;omega
     rw [this]
     simp only [cond_false,h4,if_false]
     exact X7P c (by omega) _ _ hP _ rfl)
   (by
    intro i b hi hP R hR
    simp only [Wh,WC]
    rw [List.drop_eq_getElem_cons hi]
    have hw:IntKind.wrap .i64 ((i:Int)+1)=((i+1:Nat):Int):=by rw [w64]<;>omega
    simp only [Int.toNat_natCast,X0 _ _ _ hi,hw,X4N]
    rw [X4M,X6U,X79 hP,X59 _ (by omega) _ (by simp)]
    have h1:decide ((i:Int)<↑c.Marks.length)=true:=by simp [hi]
    have h2:decide ((0:Int)≤↑i)=true:=by simp
    simp only [h1,h2,Bool.and_self,cond_true,Option.bind_some,List.any_cons,List.any_nil,Bool.or_false]
    by_cases hn:X5P c.Marks[i].Name=true
    ·by_cases he:c.Marks[i].Name∈b.2
     ·have hE:X3z c.Marks[i] b.2=5:=by simp [X3z,X17,hn,he]
      simp [hn,he,hE]
     ·by_cases hfar:X3v 30000 c.Marks[i].At=true
      ·have hE:X3z c.Marks[i] b.2=7:=by simp [X3z,X17,hn,he,hfar]
       simp [hn,he,hfar,hE]
      ·have hE:X3z c.Marks[i] b.2=X3n c.Marks[i].Paints:=by simp [X3z,X17,hn,he,hfar]
       simp only [hn,he,hfar,Bool.not_true,decide_false,cond_false,hE]
       by_cases hs:X3n c.Marks[i].Paints=0
       ·simp only [hs,bne_self_eq_false,cond_false,if_true,Option.bind_some,Sum.elim_inl]
        exact hR (_,b.2++[c.Marks[i].Name]) (X7T hP _ he)
       ·simp [hs,WW hs]
    ·have hE:X3z c.Marks[i] b.2=6:=by simp [X3z,X17,hn]
     simp [hn,hE]) 0 ([],[]) (by omega) (by intro s;simp [Z8z])

theorem X81 (c:Zl) (hl:c.Sands.length≤4) (names:List ByteArray) (hm:names.length≤8) (k:_→Option (Int×Int×Int))
  (hk:k=fun o134=>Sum.elim (fun (y135:Int×Int×Int×(List ByteArray)×(List ByteArray))=>some (y135.snd.snd.fst,y135.fst,y135.snd.fst)) (fun y136=>Sum.elim (fun (y137:Int×Int×Int×(List ByteArray)×(List ByteArray))=>some (y137.snd.snd.fst,y137.fst,y137.snd.fst)) (fun (_:List ByteArray)=>some (0,0,0)) y136) o134) :
  Option.bind (X22 c (0,names)) k=some (X4Q 0 names c.Sands):=by
 subst hk
 unfold X22
 exact X5 (Ws c) _ c.Sands.length (fun i (b:List ByteArray)=>((i:Int),b)) (fun i b=>b.length≤8+i) (fun i b=>some (X4Q i b (c.Sands.drop i)))
  (by
   intro b _ R
   simp [Ws,WL,X4Q])
  (by
   intro i b hi hP R hR
   simp only [Ws,WL]
   rw [List.drop_eq_getElem_cons hi]
   have hw:IntKind.wrap .i64 ((i:Int)+1)=((i+1:Nat):Int):=by rw [w64]<;>omega
   simp only [Int.toNat_natCast,X0 _ _ _ hi,hw,X4Q]
   rw [X4u _ _ (by omega),X7q]
   have h1:decide ((i:Int)<↑c.Sands.length)=true:=by simp [hi]
   have h2:decide ((0:Int)≤↑i)=true:=by simp
   have h3:Nat.ble ((b.length+[c.Sands[i].Name].length)*(16+1)) 200000000000000=true:=by
    rw [Nat.ble_eq];simp;omega
   simp only [h1,h2,h3,Bool.and_self,cond_true,Option.bind_some]
   by_cases hf:X17 c.Sands[i].Name b=0
   ·have hE:X5B c.Sands[i] b=X6A c.Sands[i]:=by simp [X5B,hf]
    simp only [hf,hE,beq_self_eq_true,cond_true]
    by_cases hs:X6A c.Sands[i]=0
    ·simp only [hs,bne_self_eq_false,cond_false,if_true,Option.bind_some,Sum.elim_inl]
     exact hR (b++[c.Sands[i].Name]) (by simp;omega)
    ·simp [hs,WW hs]
   ·have hE:X5B c.Sands[i] b=X17 c.Sands[i].Name b:=by simp [X5B,hf]
    simp [hE,hf,X5D hf,WW hf]) 0 names (by omega) (by omega)

theorem X7c (c:Zl):X3N c=some (X3U c):=by
 unfold X3N X3U
 by_cases h8:8<c.Marks.length
 ·have:decide ((c.Marks.length:Int)>8)=true:=by simp;omega
  rw [this];simp [h8]
 ·have:decide ((c.Marks.length:Int)>8)=false:=by simp;omega
  rw [this]
  simp only [cond_false,h8,if_false]
  exact X5 (Wr c) _ c.Marks.length (fun i (b:List ByteArray)=>((i:Int),b)) (fun i b=>b.length≤i) (fun i b=>some (X4N c.Sands i b (c.Marks.drop i)))
   (by
    intro b hP R
    simp only [Wr,WK]
    have h1:decide ((c.Marks.length:Int)<↑c.Marks.length)=false:=by simp
    simp only [h1,cond_false,Option.bind_some,Sum.elim_inr,List.drop_length,X4N]
    by_cases h4:4<c.Sands.length
    ·have:decide ((c.Sands.length:Int)>4)=true:=by simp;omega
     rw [this];simp [h4]
    ·have:decide ((c.Sands.length:Int)>4)=false:=by simp;omega
     rw [this]
     simp only [cond_false,h4,if_false]
     exact X81 c (by omega) _ (by omega) _ rfl)
   (by
    intro i b hi hP R hR
    simp only [Wr,WK]
    rw [List.drop_eq_getElem_cons hi]
    have hw:IntKind.wrap .i64 ((i:Int)+1)=((i+1:Nat):Int):=by rw [w64]<;>omega
    simp only [Int.toNat_natCast,X0 _ _ _ hi,hw,X4N]
    rw [X4u _ _ (by omega),X6W,X5q _ _ (by omega)]
    have h1:decide ((i:Int)<↑c.Marks.length)=true:=by simp [hi]
    have h2:decide ((0:Int)≤↑i)=true:=by simp
    have h3:Nat.ble ((b.length+[c.Marks[i].Name].length)*(16+1)) 200000000000000=true:=by
     rw [Nat.ble_eq];simp;omega
    simp only [h1,h2,h3,Bool.and_self,cond_true,Option.bind_some]
    by_cases hf:X17 c.Marks[i].Name b=0
    ·by_cases hfar:X3v 30000 c.Marks[i].At=true
     ·have hE:X3z c.Marks[i] b=7:=by simp [X3z,hf,hfar]
      simp [hf,hfar,hE]
     ·have hE:X3z c.Marks[i] b=X3n c.Marks[i].Paints:=by simp [X3z,hf,hfar]
      simp only [hf,hfar,hE,Bool.not_false,Bool.not_true,cond_false,beq_self_eq_true,cond_true]
      by_cases hs:X3n c.Marks[i].Paints=0
      ·simp only [hs,bne_self_eq_false,cond_false,if_true,Option.bind_some,Sum.elim_inl]
       exact hR (b++[c.Marks[i].Name]) (by simp;omega)
      ·simp [hs,WW hs]
    ·have hE:X3z c.Marks[i] b=X17 c.Marks[i].Name b:=by simp [X3z,hf]
     simp [hE,hf,X5D hf,WW hf]) 0 [] (by omega) (by simp)

end Nore
open Go Go.Ab
namespace Nore

theorem X1 (lo up:Int) (l:List Int) (hl:l.length<1000000):X2 lo up l=some (X3 lo up l):=by
 rw [X5L];unfold X28
 have key:=X5 (Wq (↑l.length) l up lo) (fun o3=>Sum.elim (fun y4:Int=>some (decide (y4≥0))) (fun _=>some (decide ((-1:Int)≥0))) o3) l.length (fun i (_:Unit)=>(i:Int)) (fun _ _=>True) (fun i _=>some (X3 lo up (l.drop i)))
  (by
   intro b _ R
   simp [Wq,WI])
  (by
   intro i b hi _ R hR
   have hR':=hR () trivial
   simp only [Wq,WI]
   rw [List.drop_eq_getElem_cons hi]
   simp only [Int.toNat_natCast,X0 _ _ _ hi,X4e]
   have hw:IntKind.wrap .i64 ((i:Int)+1)=((i+1:Nat):Int):=by rw [w64]<;>omega
   rw [hw]
   have h1:decide ((i:Int)<↑l.length)=true:=by simp [hi]
   have h2:decide ((0:Int)≤↑i)=true:=by simp
   simp only [h1,h2,Bool.and_self,cond_true]
   by_cases h3:l[i]<lo
   ·simp [h3]
   ·by_cases h4:l[i]>up
    ·simp [h3,h4]
    ·simp [h3,h4];exact hR')
 exact (key 0 () (by omega) trivial).trans (by simp)

theorem Xq (n lo hi:Int):WS n lo hi=some (inN n lo hi):=by
 rw [X6P];unfold X3s inN
 by_cases h:lo≤n<;>simp [h]

def X3D (x:Z5):Int:=if x.Lead then 20 else 4
theorem X7r (x:Z5):X53 x=some (X3D x):=by
 rw [X6y];unfold X2N X3D
 cases x.Lead<;>rfl

def X6K (x:Z5) (names:List ByteArray):Int :=
 if X17 x.Name names≠0 then X17 x.Name names else if X3 (-X3D x) (X3D x) [x.Off.Lo,x.Off.Hi] then 7 else if x.Off.Lo>x.Off.Hi then 2 else 0

theorem X86 (x:Z5) (l:List Z5) (hl:l.length<1000000) (k:(Int×Z5)⊕Unit→Option Int) (r1 r2:Option Int) (h1:∀ (i:Nat) y,k (.inl ((i:Int),y))=r1) (h2:k (.inr ())=r2) :
  Option.bind (X2c (↑l.length) l x 0) k=if x.Name∈l.map (·.Name) then r1 else r2:=by
 have key:=X5 (Xz (↑l.length) l x) k l.length (fun i (_:Unit)=>(i:Int)) (fun _ _=>True) (fun i _=>if x.Name∈(l.drop i).map (·.Name) then r1 else r2)
  (by
   intro b _ R
   simp [Xz,XE,h2])
  (by
   intro i b hi _ R hR
   have hR':=hR () trivial
   simp only [Xz,XE]
   rw [List.drop_eq_getElem_cons hi]
   simp only [Int.toNat_natCast,X0 _ _ _ hi,List.map_cons,List.mem_cons]
   have hw:IntKind.wrap .i64 ((i:Int)+1)=((i+1:Nat):Int):=by rw [w64]<;>omega
   rw [hw]
   have e1:decide ((i:Int)<↑l.length)=true:=by simp [hi]
   have e2:decide ((0:Int)≤↑i)=true:=by simp
   simp only [e1,e2,Bool.and_self,cond_true]
   by_cases h3:l[i].Name.toList=x.Name.toList
   ·have h4:x.Name=l[i].Name:=X6m h3.symm
    simp [h3,h4,h1]
   ·have h4:¬ x.Name=l[i].Name:=fun e=>h3 (by rw [e])
    have h5:(l[i].Name.toList==x.Name.toList)=false:=beq_eq_false_iff_ne.2 h3
    simp only [h5,cond_false,h4,false_or]
    exact hR')
 exact (key 0 () (by omega) trivial).trans (by simp)

theorem X87 (x:Z5) (l:List Z5) (hl:l.length<1000000) (k:(Int×Z5)⊕Unit→Option Int) (r1 r2:Option Int) (h1:∀ (i:Nat) y,k (.inl ((i:Int),y))=r1) (h2:k (.inr ())=r2) :
  Option.bind (X2d (↑l.length) l x 0) k=if x.Name∈l.map (·.Name) then r1 else r2:=by
 have key:=X5 (XA (↑l.length) l x) k l.length (fun i (_:Unit)=>(i:Int)) (fun _ _=>True) (fun i _=>if x.Name∈(l.drop i).map (·.Name) then r1 else r2)
  (by
   intro b _ R
   simp [XA,XF,h2])
  (by
   intro i b hi _ R hR
   have hR':=hR () trivial
   simp only [XA,XF]
   rw [List.drop_eq_getElem_cons hi]
   simp only [Int.toNat_natCast,X0 _ _ _ hi,List.map_cons,List.mem_cons]
   have hw:IntKind.wrap .i64 ((i:Int)+1)=((i+1:Nat):Int):=by rw [w64]<;>omega
   rw [hw]
   have e1:decide ((i:Int)<↑l.length)=true:=by simp [hi]
   have e2:decide ((0:Int)≤↑i)=true:=by simp
   simp only [e1,e2,Bool.and_self,cond_true]
   by_cases h3:l[i].Name.toList=x.Name.toList
   ·have h4:x.Name=l[i].Name:=X6m h3.symm
    simp [h3,h4,h1]
   ·have h4:¬ x.Name=l[i].Name:=fun e=>h3 (by rw [e])
    have h5:(l[i].Name.toList==x.Name.toList)=false:=beq_eq_false_iff_ne.2 h3
    simp only [h5,cond_false,h4,false_or]
    exact hR')
 exact (key 0 () (by omega) trivial).trans (by simp)

theorem X6j (x:Z5) (l:List Z5) (hl:l.length<1000000):X3l x l=some (X6K x (l.map (·.Name))):=by
 rw [X4C];unfold X16 X6K X17 X3D
 have hw20:IntKind.wrap .i64 (0-20) = -20:=by rw [w64]<;>omega
 have hw4:IntKind.wrap .i64 (0-4) = -4:=by rw [w64]<;>omega
 rw [X4M]
 simp only [Option.bind_some,hw20,hw4]
 cases hb:x.Lead
 ·simp only [cond_false,Bool.false_eq_true,if_false]
  cases hn:X5P x.Name
  ·simp
  ·simp only [Bool.not_true,cond_false,if_true]
   rw [X87 x l hl _ (some 5) (if X3 (-4) 4 [x.Off.Lo,x.Off.Hi] then some 7 else if x.Off.Lo>x.Off.Hi then some 2 else some 0) (fun i y=>by simp) (by
    simp only [Sum.elim_inr]
    rw [X1 _ _ _ (by simp)]
    simp only [Option.bind_some]
    cases X3 (-4) 4 [x.Off.Lo,x.Off.Hi]
    ·by_cases h:x.Off.Lo>x.Off.Hi<;>simp [h]
    ·simp)]
   by_cases hm:x.Name∈l.map (·.Name)
   ·simp [hm]
   ·simp only [hm,if_false,ne_eq,not_true]
    cases X3 (-4) 4 [x.Off.Lo,x.Off.Hi]
    ·by_cases h:x.Off.Lo>x.Off.Hi<;>simp [h]
    ·simp
 ·simp only [cond_true,if_true]
  cases hn:X5P x.Name
  ·simp
  ·simp only [Bool.not_true,cond_false,if_true]
   rw [X86 x l hl _ (some 5) (if X3 (-20) 20 [x.Off.Lo,x.Off.Hi] then some 7 else if x.Off.Lo>x.Off.Hi then some 2 else some 0) (fun i y=>by simp) (by
    simp only [Sum.elim_inr]
    rw [X1 _ _ _ (by simp)]
    simp only [Option.bind_some]
    cases X3 (-20) 20 [x.Off.Lo,x.Off.Hi]
    ·by_cases h:x.Off.Lo>x.Off.Hi<;>simp [h]
    ·simp)]
   by_cases hm:x.Name∈l.map (·.Name)
   ·simp [hm]
   ·simp only [hm,if_false,ne_eq,not_true]
    cases X3 (-20) 20 [x.Off.Lo,x.Off.Hi]
    ·by_cases h:x.Off.Lo>x.Off.Hi<;>simp [h]
    ·simp

def X4y (a:Zt):Int:=if X3 (-30000) 30000 [a.X.Lo,a.X.Hi,a.Y.Lo,a.Y.Hi]||X3 0 1000 [a.Depth.Lo,a.Depth.Hi]||X3 1 4 [a.Ground] then 7 else if a.X.Lo>a.X.Hi∨a.Y.Lo>a.Y.Hi∨a.Depth.Lo>a.Depth.Hi then 2 else 0

theorem X7A (a:Zt):X6t a=some (X4y a):=by
 rw [X6I];unfold X38 X4y
 rw [X1 _ _ _ (by simp),X1 _ _ _ (by simp),X1 _ _ _ (by simp)]
 simp only [Option.bind_some]
 cases X3 (-30000) 30000 [a.X.Lo,a.X.Hi,a.Y.Lo,a.Y.Hi]
 ·cases X3 0 1000 [a.Depth.Lo,a.Depth.Hi]
  ·cases X3 1 4 [a.Ground]
   ·by_cases h1:a.X.Lo>a.X.Hi
    ·simp [h1]
    ·by_cases h2:a.Y.Lo>a.Y.Hi
     ·simp [h1,h2]
     ·by_cases h3:a.Depth.Lo>a.Depth.Hi<;>simp [h1,h2,h3]
   ·simp
  ·simp
 ·simp

theorem X6V (i:Int) (a:Zt):X3K i a=some (X4y a):=by
 rw [X5F];unfold X26
 rw [X7A];rfl

theorem X8S (lo hi a b c d:Int):X3 lo hi [a,b,c,d]=(X3 lo hi [a,b]||X3 lo hi [c,d]):=by simp [Bool.or_assoc]

theorem X7g (a:Zt):X5g a=some (X4y a):=by
 rw [X6d];unfold X2q X4y X34
 rw [X2Q _ _ _ (by simp),X2Q _ _ _ (by simp),Xq,X1e,X8S]
 simp only [Option.bind_some,X2z]
 cases X3 (-30000) 30000 [a.X.Lo,a.X.Hi]
 ·cases X3 (-30000) 30000 [a.Y.Lo,a.Y.Hi]
  ·cases X3 0 1000 [a.Depth.Lo,a.Depth.Hi]
   ·cases X3 1 4 [a.Ground]
    ·by_cases h1:a.X.Lo>a.X.Hi<;>by_cases h2:a.Y.Lo>a.Y.Hi<;>by_cases h3:a.Depth.Lo>a.Depth.Hi<;>simp [h1,h2,h3]
    ·by_cases h1:a.X.Lo>a.X.Hi<;>by_cases h2:a.Y.Lo>a.Y.Hi<;>by_cases h3:a.Depth.Lo>a.Depth.Hi<;>simp [h1,h2,h3]
   ·by_cases h1:a.X.Lo>a.X.Hi<;>by_cases h2:a.Y.Lo>a.Y.Hi<;>simp [h1,h2]
  ·simp
 ·simp

def X1N:Nat→List ByteArray→List Z5→Int×Int×Int
 | _,_,[]=>(0,0,0)
 | i,names,x::l=>if X6K x names=0 then X1N (i+1) (names++[x.Name]) l else (3,(i:Int),X6K x names)
def X2R:Nat→List Zt→Int×Int×Int
 | _,[]=>(0,0,0)
 | i,a::l=>if X4y a=0 then X2R (i+1) l else (4,(i:Int),X4y a)
def X2O (f:ZJ):Int×Int×Int :=
 if (X3U f.Chart).2.2≠0 then (1,0,(X3U f.Chart).2.2) else
 if X3 0 40000 [f.Day]||X3 1 500 [f.Step]||X3 0 8 [f.Half] then (2,0,7) else
 if X3 1 4 [(f.Instruments.length:Int)] then (3,0,3) else
 if (X1N 0 [] f.Instruments).2.2≠0 then X1N 0 [] f.Instruments else
 if 6<f.Areas.length then (4,0,3) else X2R 0 f.Areas

theorem X7M (l:List Zt) (hl:l.length≤6) (k:(Int×Int×Zt)⊕Unit→Option (Int×Int×Int)) (h1:∀ (i e:Int) y,e≠0→k (.inl (e,i,y))=some (4,i,e)) (h2:k (.inr ())=some (0,0,0)) :
  Option.bind (X3F l (↑l.length) 0) k=some (X2R 0 l):=by
 have key:=X5 (X1p l (↑l.length)) k l.length (fun i (_:Unit)=>(i:Int)) (fun _ _=>True) (fun i _=>some (X2R i (l.drop i)))
  (by
   intro b _ R
   simp [X1p,X1u,h2,X2R])
  (by
   intro i b hi _ R hR
   have hR':=hR () trivial
   simp only [X1p,X1u]
   rw [List.drop_eq_getElem_cons hi]
   simp only [Int.toNat_natCast,X0 _ _ _ hi,X2R]
   have hw:IntKind.wrap .i64 ((i:Int)+1)=((i+1:Nat):Int):=by rw [w64]<;>omega
   rw [hw,X6V]
   have e1:decide ((i:Int)<↑l.length)=true:=by simp [hi]
   have e2:decide ((0:Int)≤↑i)=true:=by simp
   simp only [e1,e2,Bool.and_self,cond_true,Option.bind_some]
   by_cases h3:X4y l[i]=0
   ·simp only [h3,bne_self_eq_false,cond_false,Option.bind_some,Sum.elim_inl,if_true]
    exact hR'
   ·simp [h3,WW h3,h1])
 exact (key 0 () (by omega) trivial).trans (by simp)
theorem X7N (l:List Zt) (hl:l.length≤6) (k:(Int×Int×Zt)⊕Unit→Option (Int×Int×Int)) (h1:∀ (i e:Int) y,e≠0→k (.inl (e,i,y))=some (4,i,e)) (h2:k (.inr ())=some (0,0,0)) :
  Option.bind (X2u l (↑l.length) 0) k=some (X2R 0 l):=X7M l hl k h1 h2

theorem X88 (f:ZJ) (hl:f.Instruments.length≤4) (k:(Int×Int×Z5×Z5)⊕Unit→Option (Int×Int×Int)) (r:Option (Int×Int×Int)) (h1:∀ (i e:Int) y y',e≠0→k (.inl (e,i,y,y'))=some (3,i,e)) (h2:k (.inr ())=r) :
  Option.bind (X3E f.Instruments (↑f.Instruments.length) f 0) k=if (X1N 0 [] f.Instruments).2.2≠0 then some (X1N 0 [] f.Instruments) else r:=by
 have key:=X5 (X1o f.Instruments (↑f.Instruments.length) f) k f.Instruments.length (fun i (_:Unit)=>(i:Int)) (fun _ _=>True) (fun i _=>if (X1N i ((f.Instruments.take i).map (·.Name)) (f.Instruments.drop i)).2.2≠0 then some (X1N i ((f.Instruments.take i).map (·.Name)) (f.Instruments.drop i)) else r)
  (by
   intro b _ R
   simp [X1o,X1t,h2,X1N])
  (by
   intro i b hi _ R hR
   have hR':=hR () trivial
   simp only [X1o,X1t]
   rw [List.drop_eq_getElem_cons hi]
   rw [←List.take_concat_get hi] at hR'
   simp only [List.concat_eq_append,List.map_append,List.map_cons,List.map_nil] at hR'
   simp only [Int.toNat_natCast,X0 _ _ _ hi,X1N,List.drop_zero]
   have hw:IntKind.wrap .i64 ((i:Int)+1)=((i+1:Nat):Int):=by rw [w64]<;>omega
   rw [hw,X6j _ _ (by simp;omega)]
   have e1:decide ((i:Int)<↑f.Instruments.length)=true:=by simp [hi]
   have e2:decide ((0:Int)≤↑i)=true:=by simp
   have e3:decide ((i:Int)≤↑f.Instruments.length)=true:=by simp;omega
   simp only [e1,e2,e3,Bool.and_self,cond_true,Option.bind_some]
   by_cases h3:X6K f.Instruments[i] ((f.Instruments.take i).map (·.Name))=0
   ·simp only [h3,bne_self_eq_false,cond_false,Option.bind_some,Sum.elim_inl,if_true]
    exact hR'
   ·simp only [WW h3,cond_true,Option.bind_some,Sum.elim_inr,h1 _ _ _ _ h3,if_neg h3]
    rw [if_pos h3])
 exact (key 0 () (by omega) trivial).trans (by simp)

theorem X7n (f:ZJ):X61 f=some (X2O f):=by
 rw [X6p];unfold X2J X2O
 rw [X5E,X1 _ _ _ (by simp),X1 _ _ _ (by simp),X1 _ _ _ (by simp),X1 _ _ _ (by simp)]
 simp only [Option.bind_some]
 by_cases h1:(X3U f.Chart).2.2=0
 ·simp only [h1,bne_self_eq_false,cond_false,ne_eq,not_true,if_false]
  cases X3 0 40000 [f.Day]
  ·cases X3 1 500 [f.Step]
   ·cases X3 0 8 [f.Half]
    ·cases hi:X3 1 4 [(f.Instruments.length:Int)]
     ·have hl:f.Instruments.length≤4:=by simp at hi;omega
      simp only [cond_false,Bool.or_self,Bool.false_eq_true,if_false]
      have ha:(bif decide ((f.Areas.length:Int)>6) then some (4,0,3) else Option.bind (X2u f.Areas (↑f.Areas.length) 0) fun o257↦Sum.elim (fun y258↦bif y258.fst != 0 then some (4,y258.snd.fst,y258.fst) else some ((0:Int),(0:Int),(0:Int))) (fun y259↦some (0,0,0)) o257)=(some (if 6<f.Areas.length then (4,0,3) else X2R 0 f.Areas):Option (Int×Int×Int)):=by
       by_cases h6:6<f.Areas.length
       ·have:decide ((f.Areas.length:Int)>6)=true:=by simp;omega
        rw [this];simp [h6]
       ·have:decide ((f.Areas.length:Int)>6)=false:=by simp;omega
        rw [this]
        simp only [cond_false,h6,if_false]
        exact X7N _ (by omega) _ (fun i e y he=>by simp [WW he]) rfl
      rw [X88 f hl _ _ (fun i e y y' he=>by simp [WW he]) (by simp only [Sum.elim_inr];exact ha)]
      by_cases h3:(X1N 0 [] f.Instruments).2.2=0<;>simp [h3]
     ·simp
    ·simp
   ·simp
  ·simp
 ·simp [h1,WW h1]

theorem X7k (f:ZJ) (hl:f.Instruments.length≤4) (k:(Int×Int×Int×List ByteArray×List ByteArray×Z5)⊕((Int×Int×Int×List ByteArray×List ByteArray×Z5)⊕List ByteArray)→Option (Int×Int×Int)) (r:Option (Int×Int×Int))
  (h1:∀ (i e:Int) y y' z,k (.inl (i,e,3,y,y',z))=some (3,i,e)) (h1':∀ (i e:Int) y y' z,k (.inr (.inl (i,e,3,y,y',z)))=some (3,i,e)) (h2:∀ l,k (.inr (.inr l))=r) :
  Option.bind (X2W f (0,[])) k=if (X1N 0 [] f.Instruments).2.2≠0 then some (X1N 0 [] f.Instruments) else r:=by
 have key:=X5 (Wv f) k f.Instruments.length (fun i (b:List ByteArray)=>((i:Int),b)) (fun i b=>b=(f.Instruments.take i).map (·.Name)) (fun i b=>if (X1N i b (f.Instruments.drop i)).2.2≠0 then some (X1N i b (f.Instruments.drop i)) else r)
  (by
   intro b _ R
   simp [Wv,WP,h2,X1N])
  (by
   intro i b hi hb R hR
   have hR':=hR (b++[f.Instruments[i].Name]) (by rw [hb,←List.take_concat_get hi,List.concat_eq_append,List.map_append];rfl)
   have hbl:b.length≤4:=by rw [hb];simp;omega
   simp only [Wv,WP]
   rw [List.drop_eq_getElem_cons hi]
   simp only [Int.toNat_natCast,X0 _ _ _ hi,X1N]
   have hw:IntKind.wrap .i64 ((i:Int)+1)=((i+1:Nat):Int):=by rw [w64]<;>omega
   rw [hw,X4u _ _ (by omega),X7r]
   have e1:decide ((i:Int)<↑f.Instruments.length)=true:=by simp [hi]
   have e2:decide ((0:Int)≤↑i)=true:=by simp
   have e3:Nat.ble ((b.length+[f.Instruments[i].Name].length)*(16+1)) 200000000000000=true:=by
    apply Nat.ble_eq_true_of_le;simp;omega
   have hf:IntKind.wrap .i64 (0-X3D f.Instruments[i]) = -X3D f.Instruments[i]:=by unfold X3D;split<;>(rw [w64]<;>omega)
   simp only [e1,e2,e3,Bool.and_self,cond_true,Option.bind_some,hf,X34]
   rw [X2Q _ _ _ (by simp)]
   unfold X6K
   by_cases h3:X17 f.Instruments[i].Name b=0
   ·simp only [h3,beq_self_eq_true,cond_true,ne_eq,not_true,if_false,Option.bind_some,X2z]
    cases ho:X3 (-X3D f.Instruments[i]) (X3D f.Instruments[i]) [f.Instruments[i].Off.Lo,f.Instruments[i].Off.Hi]
    ·by_cases h4:f.Instruments[i].Off.Lo>f.Instruments[i].Off.Hi
     ·simp [h4,h1]
     ·simp only [h4,Bool.false_eq_true,if_false,bne_self_eq_false,cond_false,Option.bind_some,Sum.elim_inl,if_true]
      exact hR'
    ·simp [h1]
   ·have h5:=WW h3
    simp [h3,X5D h3,h5,h1'])
 exact (key 0 [] (by omega) (by simp)).trans (by simp)

theorem X7j (f:ZJ) (hl:f.Areas.length≤6) (k:(Int×Int×Int)⊕Unit→Option (Int×Int×Int)) (h1:∀ (i e:Int),k (.inl (i,e,4))=some (4,i,e)) (h2:k (.inr ())=some (0,0,0)) :
  Option.bind (X2X f 0) k=some (X2R 0 f.Areas):=by
 have key:=X5 (Ww f) k f.Areas.length (fun i (_:Unit)=>(i:Int)) (fun _ _=>True) (fun i _=>some (X2R i (f.Areas.drop i)))
  (by
   intro b _ R
   simp [Ww,WQ,h2,X2R])
  (by
   intro i b hi _ R hR
   have hR':=hR () trivial
   simp only [Ww,WQ]
   rw [List.drop_eq_getElem_cons hi]
   simp only [Int.toNat_natCast,X0 _ _ _ hi,X2R]
   have hw:IntKind.wrap .i64 ((i:Int)+1)=((i+1:Nat):Int):=by rw [w64]<;>omega
   rw [hw,X7g]
   have e1:decide ((i:Int)<↑f.Areas.length)=true:=by simp [hi]
   have e2:decide ((0:Int)≤↑i)=true:=by simp
   simp only [e1,e2,Bool.and_self,cond_true,Option.bind_some]
   by_cases h3:X4y f.Areas[i]=0
   ·simp only [h3,bne_self_eq_false,cond_false,Option.bind_some,Sum.elim_inl,if_true]
    exact hR'
   ·simp [h3,WW h3,h1])
 exact (key 0 () (by omega) trivial).trans (by simp)

theorem X6X (f:ZJ):X4J f=some (X2O f):=by
 rw [X5R];unfold X29 X2O
 rw [X7c,Xq,Xq,Xq,Xq,X1e,X1e,X1e,X1e]
 simp only [Option.bind_some,Bool.not_not]
 by_cases h1:(X3U f.Chart).2.2=0
 ·simp only [h1,bne_self_eq_false,cond_false,ne_eq,not_true,if_false]
  cases X3 0 40000 [f.Day]
  ·cases X3 1 500 [f.Step]
   ·cases X3 0 8 [f.Half]
    ·cases hi:X3 1 4 [(f.Instruments.length:Int)]
     ·have hl:f.Instruments.length≤4:=by simp at hi;omega
      simp only [cond_false,Bool.or_self,Bool.false_eq_true,if_false]
      rw [X7k f hl _ (some (if 6<f.Areas.length then (4,0,3) else X2R 0 f.Areas)) (fun i e y y' z=>rfl) (fun i e y y' z=>rfl) (fun l=>by
       simp only [Sum.elim_inr]
       by_cases h6:6<f.Areas.length
       ·have:decide ((f.Areas.length:Int)>6)=true:=by simp;omega
        rw [this];simp [h6]
       ·have:decide ((f.Areas.length:Int)>6)=false:=by simp;omega
        rw [this]
        simp only [cond_false,h6,if_false]
        exact X7j f (by omega) _ (fun i e=>rfl) rfl)]
      by_cases h3:(X1N 0 [] f.Instruments).2.2=0<;>simp [h3]
     ·simp
    ·simp
   ·simp
  ·simp
 ·simp [h1,WW h1]
end Nore
open Go Go.Ab
namespace Nore

def X4q (d:Int):Int→List Zk→Int
 | c,[]=>c
 | c,p::l=>X4q d (if p.Day≤d then p.Colour else c) l
def X4Z (m:Zw) (d:Int):Int:=X4q d 0 m.Paints

theorem X6O (d:Int) (p:Zk):∀ (l:List Zk) (c:Int),X4q d c (l++[p])=if p.Day≤d then p.Colour else X4q d c l
 | [],c=>rfl
 | q::l,c=>by simp only [List.cons_append,X4q,X6O d p l]

theorem X6w (m:Zw) (d:Int) (hl:m.Paints.length<1000000):X3I m d=some (X4Z m d):=by
 rw [X51];unfold X1x X4Z
 have key:=X5 (XM d m) (fun o=>some o) m.Paints.length (fun i (b:Int)=>(b,(i:Int))) (fun _ _=>True) (fun i b=>some (X4q d b (m.Paints.drop i)))
  (by
   intro b _ R
   simp [XM,XP,X4q])
  (by
   intro i b hi _ R hR
   simp only [XM,XP]
   rw [List.drop_eq_getElem_cons hi]
   simp only [Int.toNat_natCast,X0 _ _ _ hi,X4q]
   have hw:IntKind.wrap .i64 ((i:Int)+1)=((i+1:Nat):Int):=by rw [w64]<;>omega
   rw [hw]
   have e1:decide ((i:Int)<↑m.Paints.length)=true:=by simp [hi]
   have e2:decide ((0:Int)≤↑i)=true:=by simp
   simp only [e1,e2,Bool.and_self,cond_true]
   by_cases h3:m.Paints[i].Day≤d
   ·simp only [h3,decide_true,cond_true,Option.bind_some,Sum.elim_inl,if_true]
    exact hR _ trivial
   ·simp only [h3,decide_false,cond_false,Option.bind_some,Sum.elim_inl,if_false]
    exact hR _ trivial)
 exact key 0 0 (by omega) trivial

theorem X7U (d:Int) (l:List Zk) (hl:l.length<1000000) (k:(Zk×Int×Int)⊕Unit→Option (Zw×Int×Int)) (mk:Zw) (h1:∀ p c e,k (.inl (p,c,e))=some (mk,c,e)) (h2:k (.inr ())=some (mk,0,0)) :
  Option.bind (X1D d l ((l.length:Int)-1)) k=some (mk,X4q d 0 l,0):=by
 have key:=X5 (XT d l) k l.length (fun i (_:Unit)=>(l.length:Int)-1-i) (fun _ _=>True) (fun i _=>some (mk,X4q d 0 (l.take (l.length-i)),0))
  (by
   intro b _ R
   have:decide ((l.length:Int)-1-l.length≥0)=false:=by simp;omega
   simp only [XT,W6,this,cond_false,Option.bind_some,Sum.elim_inr,h2]
   simp [X4q])
  (by
   intro i b hi _ R hR
   have hR':=hR () trivial
   have ht:((l.length:Int)-1-i).toNat=l.length-1-i:=by omega
   have hj:l.length-1-i<l.length:=by omega
   simp only [XT,W6,ht,X0 _ _ _ hj]
   have e1:decide ((l.length:Int)-1-i≥0)=true:=by simp;omega
   have e2:decide ((0:Int)≤(l.length:Int)-1-i)=true:=by simp;omega
   have e3:decide ((l.length:Int)-1-i<l.length)=true:=by simp;omega
   have hw:IntKind.wrap .i64 ((l.length:Int)-1-i-1)=(l.length:Int)-1-((i+1:Nat):Int):=by rw [w64]<;>omega
   simp only [e1,e2,e3,Bool.and_self,cond_true,hw]
   have hs:l.take (l.length-i)=l.take (l.length-(i+1))++[l[l.length-1-i]]:=by
    have:=List.take_concat_get hj
    rw [show l.length-i=l.length-1-i+1 by omega,←this,List.concat_eq_append,show l.length-(i+1)=l.length-1-i by omega]
   rw [hs,X6O]
   by_cases h3:l[l.length-1-i].Day≤d
   ·simp [h3,h1]
   ·simp only [h3,decide_false,cond_false,Option.bind_some,Sum.elim_inl,if_false]
    exact hR')
 have:=key 0 () (by omega) trivial
 unfold X1D
 simpa using this

theorem X8a (l:List Zk) (h:X3n l=0):l.length≤4:=by
 unfold X3n at h
 cases ho:X3 1 4 [(l.length:Int)]
 ·simp at ho;omega
 ·rw [ho] at h;simp at h

theorem X7V (sands:List CtSand):∀ (l:List Zw) (i:Nat) (names:List ByteArray),(X4N sands i names l).2.2=0→∀ m∈l,X3v 30000 m.At=false∧m.Paints.length≤4
 | [],_,_,_,m,hm=>by cases hm
 | x::l,i,names,h,m,hm=>by
  simp only [X4N] at h
  by_cases h0:X3z x names=0
  ·simp only [h0,if_true] at h
   rcases List.mem_cons.1 hm with e|e
   ·subst e
    unfold X3z at h0
    by_cases h1:X17 m.Name names=0
    ·simp only [h1,if_true] at h0
     cases hf:X3v 30000 m.At
     ·rw [hf] at h0
      exact ⟨rfl,X8a _ (by simpa using h0)⟩
     ·rw [hf] at h0;simp at h0
    ·simp only [h1,if_false] at h0
   ·exact X7V sands l _ _ h m e
  ·simp only [h0,if_false] at h

structure X25 (f:ZJ):Prop where
 chart:(X3U f.Chart).2.2=0
 marks:f.Chart.Marks.length≤8
 mark:∀ m∈f.Chart.Marks,X3v 30000 m.At=false∧m.Paints.length≤4
 day:0≤f.Day∧f.Day≤40000
 step:1≤f.Step∧f.Step≤500
 half:0≤f.Half∧f.Half≤8
 inst:1≤f.Instruments.length∧f.Instruments.length≤4
 off:∀ x∈f.Instruments,-X3D x≤x.Off.Lo∧x.Off.Lo≤x.Off.Hi∧x.Off.Hi≤X3D x
 areas:f.Areas.length≤6
 area:∀ a∈f.Areas,X4y a=0

theorem X7S:∀ (l:List Z5) (i:Nat) (names:List ByteArray),(X1N i names l).2.2=0→∀ x∈l,-X3D x≤x.Off.Lo∧x.Off.Lo≤x.Off.Hi∧x.Off.Hi≤X3D x
 | [],_,_,_,m,hm=>by cases hm
 | x::l,i,names,h,m,hm=>by
  simp only [X1N] at h
  by_cases h0:X6K x names=0
  ·simp only [h0,if_true] at h
   rcases List.mem_cons.1 hm with e|e
   ·subst e
    unfold X6K at h0
    by_cases h1:X17 m.Name names=0
    ·simp only [h1,ne_eq,not_true,if_false] at h0
     cases ho:X3 (-X3D m) (X3D m) [m.Off.Lo,m.Off.Hi]
     ·rw [ho] at h0
      simp at ho h0
      omega
     ·rw [ho] at h0;simp at h0
    ·simp only [ne_eq,h1,not_false_eq_true,if_true] at h0
   ·exact X7S l _ _ h m e
  ·simp only [h0,if_false] at h
theorem X7O:∀ (l:List Zt) (i:Nat),(X2R i l).2.2=0→∀ x∈l,X4y x=0
 | [],_,_,m,hm=>by cases hm
 | x::l,i,h,m,hm=>by
  simp only [X2R] at h
  by_cases h0:X4y x=0
  ·simp only [h0,if_true] at h
   rcases List.mem_cons.1 hm with e|e
   ·subst e;exact h0
   ·exact X7O l _ h m e
  ·simp only [h0,if_false] at h

theorem X78 {f:ZJ} (h:(X2O f).2.2=0):X25 f:=by
 unfold X2O at h
 by_cases h1:(X3U f.Chart).2.2=0
 ·simp only [h1,ne_eq,not_true,if_false] at h
  cases h2:(X3 0 40000 [f.Day]||X3 1 500 [f.Step]||X3 0 8 [f.Half])
  ·rw [h2] at h
   cases h3:X3 1 4 [(f.Instruments.length:Int)]
   ·rw [h3] at h
    simp only [Bool.false_eq_true,if_false] at h
    by_cases h4:(X1N 0 [] f.Instruments).2.2=0
    ·simp only [h4,ne_eq,not_true,if_false] at h
     by_cases h5:6<f.Areas.length
     ·rw [if_pos h5] at h;simp at h
     ·rw [if_neg h5] at h
      simp at h2 h3
      have hm:¬ 8<f.Chart.Marks.length:=fun q=>by unfold X3U at h1;rw [if_pos q] at h1;simp at h1
      have h1':=h1
      unfold X3U at h1'
      rw [if_neg hm] at h1'
      exact ⟨h1,by omega,X7V _ _ _ _ h1',by omega,by omega,by omega,by omega,X7S _ _ _ h4,by omega,X7O _ _ h⟩
    ·exfalso
     rw [if_pos h4] at h;exact h4 h
   ·rw [h3] at h;simp at h
  ·rw [h2] at h;simp at h
 ·rw [if_pos h1] at h;exact absurd h h1

theorem X4V {f:ZJ} (hg:X25 f) (mark:Int) (h0:0≤mark) (h1:mark<f.Chart.Marks.length) :
  X35 f.Chart f.Day mark=some (f.Chart.Marks.getD mark.toNat ⟨ByteArray.empty,⟨0,0⟩,[]⟩,X4Z (f.Chart.Marks.getD mark.toNat ⟨ByteArray.empty,⟨0,0⟩,[]⟩) f.Day,0):=by
 rw [X5k];unfold X1H
 have hm:=hg.marks
 have hd:=hg.day
 have hj:mark.toNat<f.Chart.Marks.length:=by omega
 have hp:=(hg.mark _ (List.getElem_mem hj)).2
 have hw:IntKind.wrap .i64 ((f.Chart.Marks.length:Int)-1)=(f.Chart.Marks.length:Int)-1:=by rw [w64]<;>omega
 rw [X5E,WT _ _ _ (by simp),WT _ _ _ (by simp),hw]
 have o1:X3 0 40000 [f.Day]=false:=by simp;omega
 have o2:X3 0 ((f.Chart.Marks.length:Int)-1) [mark]=false:=by simp;omega
 have e1:decide (0≤mark)=true:=by simp [h0]
 have e2:decide (mark<(f.Chart.Marks.length:Int))=true:=by simp [h1]
 simp only [Option.bind_some,hg.chart,bne_self_eq_false,cond_false,o1,o2,e1,e2,Bool.and_self,cond_true,X0 _ _ _ hj]
 have hw2:IntKind.wrap .i64 ((f.Chart.Marks[mark.toNat].Paints.length:Int)-1)=(f.Chart.Marks[mark.toNat].Paints.length:Int)-1:=by rw [w64]<;>omega
 rw [hw2]
 exact X7U f.Day _ (by omega) _ _ (fun p c e=>rfl) rfl

def Z8y (f:ZJ) (mark:Int):Zw:=f.Chart.Marks.getD mark.toNat ⟨ByteArray.empty,⟨0,0⟩,[]⟩
def X4c (f:ZJ) (mark:Int):Bool:=X4Z (Z8y f mark) f.Day != 0

theorem X8d {f:ZJ} (hg:X25 f) (mark:Int) (h0:0≤mark) (h1:mark<f.Chart.Marks.length) (l:List Zn) (kit:Nat→Nat) (m:List (Zh×Int)) :
  XJ (mark,f,l,kit,m)=some (X4c f mark,f,l,kit,m):=by
 rw [X3d];unfold Xw
 rw [X5i];unfold X1G
 rw [X4V hg mark h0 h1]
 rfl

def Kit (f:ZJ) (kit:Nat→Nat):Prop:=∀ i,(h:i<f.Instruments.length)→kit i=if f.Instruments[i].Lead then 2 else 1
def X1j (f:ZJ) (i:Int):Z5:=f.Instruments.getD i.toNat ⟨ByteArray.empty,false,⟨0,0⟩⟩

def X1k (f:ZJ) (x:Zn):Int :=
 if X3 0 ((f.Instruments.length:Int)-1) [x.Instrument] then 4 else
 if (X1j f x.Instrument).Lead then (if X3 0 1000 [x.Shown]||X3 0 4 [x.Ground] then 7 else if x.Mark≠0 then 2 else 0)
 else if X3 0 ((f.Chart.Marks.length:Int)-1) [x.Mark] then 4 else if X4c f x.Mark=false then 9 else if X3 0 31 [x.Shown] then 7 else if x.Ground≠0 then 7 else 0

theorem X8r {f:ZJ} (hg:X25 f) (x:Zn) (l:List Zn) {kit:Nat→Nat} (hk:Kit f kit) (m:List (Zh×Int)) :
  X13 (x,f,l,kit,m)=some (X1k f x,f,l,kit,m):=by
 rw [X3x];unfold XD X1k
 have hm:=hg.marks
 have hi:=hg.inst
 have hw:IntKind.wrap .i64 ((f.Chart.Marks.length:Int)-1)=(f.Chart.Marks.length:Int)-1:=by rw [w64]<;>omega
 have hw2:IntKind.wrap .i64 ((f.Instruments.length:Int)-1)=(f.Instruments.length:Int)-1:=by rw [w64]<;>omega
 simp only [hw,hw2]
 rw [X1 _ _ _ (by simp),X1 _ _ _ (by simp),X1 _ _ _ (by simp),X1 _ _ _ (by simp),X1 _ _ _ (by simp)]
 simp only [Option.bind_some]
 cases ho:X3 0 ((f.Instruments.length:Int)-1) [x.Instrument]
 ·simp at ho
  have hj:x.Instrument.toNat<f.Instruments.length:=by omega
  have e1:decide (0≤x.Instrument)=true:=by simp;omega
  have e2:decide (x.Instrument<((4:Nat):Int))=true:=by simp;omega
  have e3:Nat.blt x.Instrument.toNat 4=true:=by rw [Tr.blt_dec];simp;omega
  have hkk:=hk _ hj
  have hio:X1j f x.Instrument=f.Instruments[x.Instrument.toNat]:=X0 _ _ _ hj
  rw [hio]
  have e2':decide (x.Instrument<(4:Int))=true:=by simp;omega
  simp only [cond_false,Bool.false_eq_true,if_false,e1,e2,e2',e3,Bool.and_self,cond_true]
  cases hL:f.Instruments[x.Instrument.toNat].Lead
  ·rw [hL] at hkk
   simp only [Bool.false_eq_true,if_false] at hkk
   simp only [hkk,show Nat.beq 1 0=false from rfl,show Nat.beq 1 1=true from rfl,cond_false,cond_true,Bool.false_eq_true,if_false]
   cases hmk:X3 0 ((f.Chart.Marks.length:Int)-1) [x.Mark]
   ·simp at hmk
    simp only [cond_false,Bool.false_eq_true,if_false]
    rw [X8d hg x.Mark (by omega) (by omega)]
    simp only [Option.bind_some]
    cases X4c f x.Mark
    ·simp
    ·cases X3 0 31 [x.Shown]
     ·by_cases h5:x.Ground=0<;>simp [h5,WW]
     ·simp
   ·simp
  ·rw [hL] at hkk
   simp only [if_true] at hkk
   simp only [hkk,show Nat.beq 2 0=false from rfl,show Nat.beq 2 1=false from rfl,show Nat.beq 2 (1+1)=true from rfl,cond_false,cond_true,if_true]
   cases X3 0 1000 [x.Shown]
   ·cases X3 0 4 [x.Ground]
    ·by_cases h5:x.Mark=0<;>simp [h5,WW]
    ·simp
   ·simp
 ·simp

theorem X6Y {f:ZJ} (hg:X25 f) (x:Zn):X4L f x=some (X1k f x):=by
 rw [X5V];unfold X2b X1k
 have hm:=hg.marks
 have hi:=hg.inst
 have hw:IntKind.wrap .i64 ((f.Chart.Marks.length:Int)-1)=(f.Chart.Marks.length:Int)-1:=by rw [w64]<;>omega
 have hw2:IntKind.wrap .i64 ((f.Instruments.length:Int)-1)=(f.Instruments.length:Int)-1:=by rw [w64]<;>omega
 simp only [hw,hw2]
 rw [Xq,Xq,Xq,Xq,Xq,X1e,X1e,X1e,X1e,X1e]
 simp only [Option.bind_some,Bool.not_not]
 cases ho:X3 0 ((f.Instruments.length:Int)-1) [x.Instrument]
 ·simp at ho
  have hj:x.Instrument.toNat<f.Instruments.length:=by omega
  have e1:decide (0≤x.Instrument)=true:=by simp;omega
  have e2:decide (x.Instrument<(f.Instruments.length:Int))=true:=by simp;omega
  have hio:X1j f x.Instrument=f.Instruments[x.Instrument.toNat]:=X0 _ _ _ hj
  rw [hio]
  simp only [cond_false,Bool.false_eq_true,if_false,e1,e2,Bool.and_self,cond_true,X0 _ _ _ hj]
  cases hL:f.Instruments[x.Instrument.toNat].Lead
  ·simp only [cond_false,Bool.false_eq_true,if_false]
   cases hmk:X3 0 ((f.Chart.Marks.length:Int)-1) [x.Mark]
   ·simp at hmk
    have hj2:x.Mark.toNat<f.Chart.Marks.length:=by omega
    have e3:decide (0≤x.Mark)=true:=by simp;omega
    have e4:decide (x.Mark<(f.Chart.Marks.length:Int))=true:=by simp;omega
    have hp:=(hg.mark _ (List.getElem_mem hj2)).2
    simp only [cond_false,Bool.false_eq_true,if_false,e3,e4,Bool.and_self,cond_true,X0 _ _ _ hj2]
    rw [X6w _ _ (by omega)]
    unfold X4c Z8y
    rw [X0 _ _ _ hj2]
    simp only [Option.bind_some]
    by_cases h0:X4Z f.Chart.Marks[x.Mark.toNat] f.Day=0
    ·simp [h0]
    ·simp only [X5D h0,WW h0,cond_false,Bool.true_eq_false,if_false]
     cases X3 0 31 [x.Shown]
     ·by_cases h5:x.Ground=0<;>simp [h5,WW]
     ·simp
   ·simp
  ·simp only [cond_true,if_true]
   cases X3 0 1000 [x.Shown]
   ·cases X3 0 4 [x.Ground]
    ·by_cases h5:x.Mark=0<;>simp [h5,WW]
    ·simp
   ·simp
 ·simp

def Wy (f:ZJ):Nat→List Zn→Int×Int
 | _,[]=>(0,0)
 | i,x::l=>if X1k f x=0 then Wy f (i+1) l else ((i:Int),X1k f x)
def Wk (f:ZJ) (l:List Zn):Int×Int:=if (X2O f).2.2≠0 then (0,(X2O f).2.2) else if 8<l.length then (0,3) else Wy f 0 l

theorem X3A (f:ZJ) (l:List Zn):X1z f l=some (Wk f l):=by
 rw [X3Q];unfold XQ Wk
 rw [X6X]
 simp only [Option.bind_some]
 by_cases h:(X2O f).2.2=0
 ·have hg:=X78 h
  simp only [h,beq_self_eq_true,cond_true,bne_self_eq_false,cond_false,ne_eq,not_true,if_false]
  by_cases h8:8<l.length
  ·have:decide ((l.length:Int)>8)=true:=by simp;omega
   rw [this];simp [h8]
  ·have:decide ((l.length:Int)>8)=false:=by simp;omega
   rw [this]
   simp only [cond_false,h8,if_false]
   exact X5 (Xe l f) _ l.length (fun i (_:Unit)=>(i:Int)) (fun _ _=>True) (fun i _=>some (Wy f i (l.drop i)))
    (by
     intro b _ R
     simp [Xe,Xi,Wy])
    (by
     intro i b hi _ R hR
     have hR':=hR () trivial
     simp only [Xe,Xi]
     rw [List.drop_eq_getElem_cons hi]
     have hw:IntKind.wrap .i64 ((i:Int)+1)=((i+1:Nat):Int):=by rw [w64]<;>omega
     simp only [Int.toNat_natCast,X0 _ _ _ hi,hw,Wy]
     rw [X6Y hg]
     have h1:decide ((i:Int)<↑l.length)=true:=by simp [hi]
     have h2:decide ((0:Int)≤↑i)=true:=by simp
     simp only [h1,h2,Bool.and_self,cond_true,Option.bind_some]
     by_cases he:X1k f l[i]=0
     ·simp only [he,bne_self_eq_false,cond_false,Option.bind_some,Sum.elim_inl,if_true]
      exact hR'
     ·simp [he,WW he]) 0 () (by omega) trivial
 ·simp [h,WW h,X5D h]

theorem X8w (f:ZJ) (hi:f.Instruments.length≤4):∃ kit,X2T f.Instruments (↑f.Instruments.length) (0,fun _=>0)=some kit∧Kit f kit:=by
 have key:∀ j i (b:Nat→Nat),f.Instruments.length-i=j→i≤f.Instruments.length→(∀ q,(h:q<f.Instruments.length)→q<i→b q=if f.Instruments[q].Lead then 2 else 1) →
   ∃ kit,Z8S (Wo f.Instruments (↑f.Instruments.length)) ((i:Int),b)=some kit∧Kit f kit:=fun j=>by
  induction j with
  | zero =>
   intro i b hj hil hb
   have:i=f.Instruments.length:=by omega
   subst this
   refine ⟨b,?_,fun q hq=>hb q hq hq⟩
   rw [←X2j (Z8S _ _),X3T]
   simp [Wo,WG]
  | succ j ih =>
   intro i b hj hil hb
   have hlt:i<f.Instruments.length:=by omega
   have hw:IntKind.wrap .i64 ((i:Int)+1)=((i+1:Nat):Int):=by rw [w64]<;>omega
   have e1:decide ((i:Int)<↑f.Instruments.length)=true:=by simp [hlt]
   have e2:decide ((0:Int)≤↑i)=true:=by simp
   have e3:decide ((i:Int)<((4:Nat):Int))=true:=by simp;omega
   have e3':decide ((i:Int)<(4:Int))=true:=by simp;omega
   have e4:Nat.blt i 4=true:=by rw [Tr.blt_dec];simp;omega
   obtain ⟨kit,h1,h2⟩:=ih (i+1) (fun q=>if q=i then (if f.Instruments[i].Lead then 2 else 1) else b q) (by omega) (by omega) (fun q hq hq2=>by
    by_cases e:q=i
    ·subst e;simp
    ·simp only [e,if_false];exact hb q hq (by omega))
   refine ⟨kit,?_,h2⟩
   rw [←X2j (Z8S _ _),X3T]
   simp only [Wo,WG,Int.toNat_natCast,X0 _ _ _ hlt,hw,e1,e2,e3,e3',e4,Bool.and_self,cond_true]
   have hfun:(fun j=>bif Nat.beq j i then 1+1 else bif Nat.beq j i then 1 else b j)=fun q=>if q=i then 2 else b q:=by
    funext q;rw [Tr.beq_dec];by_cases e:q=i<;>simp [e]
   have hfun2:(fun j=>bif Nat.beq j i then 1 else b j)=fun q=>if q=i then 1 else b q:=by
    funext q;rw [Tr.beq_dec];by_cases e:q=i<;>simp [e]
   rw [hfun,hfun2]
   cases hL:f.Instruments[i].Lead
   ·rw [hL] at h1
    simp only [Bool.false_eq_true,if_false] at h1
    simp only [cond_false,Option.bind_some,Sum.elim_inl]
    rw [X2j];exact h1
   ·rw [hL] at h1
    simp only [if_true] at h1
    simp only [cond_true,Option.bind_some,Sum.elim_inl]
    rw [X2j];exact h1
 exact key _ 0 _ rfl (by omega) (fun q _ h=>by omega)

theorem X8p {f:ZJ} (hg:X25 f) (l:List Zn) (h8:l.length≤8) {kit:Nat→Nat} (hk:Kit f kit) {γ:Type} (k:_→Option γ) :
  Option.bind (X2U l (↑l.length) (0,f,l,kit,[])) k=if (Wy f 0 l).2=0 then k (.inr (f,l,kit,[])) else k (.inl ((Wy f 0 l).2,(Wy f 0 l).1,f,l,kit,l.getD (Wy f 0 l).1.toNat ⟨0,0,0,0⟩,l.getD (Wy f 0 l).1.toNat ⟨0,0,0,0⟩,[])):=by
 refine (X5 (Wp l (↑l.length)) k l.length (fun i (_:Unit)=>((i:Int),f,l,kit,[])) (fun _ _=>True) (fun i _=>if (Wy f i (l.drop i)).2=0 then k (.inr (f,l,kit,[])) else k (.inl ((Wy f i (l.drop i)).2,(Wy f i (l.drop i)).1,f,l,kit,l.getD (Wy f i (l.drop i)).1.toNat ⟨0,0,0,0⟩,l.getD (Wy f i (l.drop i)).1.toNat ⟨0,0,0,0⟩,[])))
  (by
   intro b _ R
   simp [Wp,WH,Wy])
  (by
   intro i b hi _ R hR
   have hR':=hR () trivial
   simp only [Wp,WH]
   rw [List.drop_eq_getElem_cons hi]
   have hw:IntKind.wrap .i64 ((i:Int)+1)=((i+1:Nat):Int):=by rw [w64]<;>omega
   simp only [Int.toNat_natCast,X0 _ _ _ hi,hw,Wy]
   rw [X8r hg _ _ hk]
   have h1:decide ((i:Int)<↑l.length)=true:=by simp [hi]
   have h2:decide ((0:Int)≤↑i)=true:=by simp
   simp only [h1,h2,Bool.and_self,cond_true,Option.bind_some]
   by_cases he:X1k f l[i]=0
   ·simp only [he,bne_self_eq_false,cond_false,Option.bind_some,Sum.elim_inl,if_true]
    exact hR'
   ·simp only [WW he,cond_true,Option.bind_some,Sum.elim_inr,if_neg he]
    rw [show ((i:Int)).toNat=i from rfl,X0 _ _ _ hi]) 0 () (by omega) trivial).trans (by simp)

theorem X7u (f:ZJ) (l:List Zn):((X2O f).2.2≠0∨8<l.length)∧X21 (l,f)=some (.inl (Wk f l).2)∧(Wk f l).2≠0 ∨
  ∃ kit,X25 f∧l.length≤8∧Kit f kit∧X21 (l,f)=some (.inr ((Wk f l).2,f,l,kit,[])):=by
 rw [X5o];unfold X1M
 rw [X5J];unfold X27
 rw [X7n]
 unfold Wk
 simp only [Option.bind_some]
 by_cases h:(X2O f).2.2=0
 ·have hg:=X78 h
  simp only [h,bne_self_eq_false,cond_false,ne_eq,not_true,if_false]
  by_cases h8:8<l.length
  ·have:decide ((l.length:Int)>8)=true:=by simp;omega
   rw [this];simp [h8]
  ·have:decide ((l.length:Int)>8)=false:=by simp;omega
   rw [this]
   simp only [cond_false,h8,if_false]
   obtain ⟨kit,hk1,hk2⟩:=X8w f hg.inst.2
   refine .inr ⟨kit,hg,by omega,hk2,?_⟩
   rw [hk1,Option.bind_some]
   rw [X8p hg l (by omega) hk2]
   by_cases he:(Wy f 0 l).2=0<;>simp [he]
 ·left
  simp [h,WW h]
end Nore
open Go Go.Ab
namespace Nore

theorem X6F {β σ ω γ:Type} (st:σ→Option (σ⊕ω)) (k:ω→Option γ) (n:Nat) (emb:Nat→β→σ) (P:Nat→β→Prop) (Q:Nat→β→Option γ→Prop)
  (hd:∀ b,P n b→∀ R:σ→Option γ,Q n b (Option.bind (st (emb n b)) (Sum.elim R k)))
  (hn:∀ i b,i<n→P i b→∀ R:σ→Option γ,(∀ b',P (i+1) b'→Q (i+1) b' (R (emb (i+1) b')))→Q i b (Option.bind (st (emb i b)) (Sum.elim R k))) :
  ∀ i b,i≤n→P i b→Q i b (Option.bind (Z8S st (emb i b)) k):=by
 intro i b hi hP
 induction hj:n-i generalizing i b with
 | zero =>
  have:i=n:=by omega
  subst this
  rw [X3T];exact hd b hP _
 | succ j ih =>
  rw [X3T]
  exact hn i b (by omega) hP _ fun b' hb'=>ih (i+1) b' (by omega) hb' (by omega)

instance decPoint:DecidableEq Zu:=fun a b=>decidable_of_iff (a.X=b.X∧a.Y=b.Y) ⟨fun h=>Zu.ext h.1 h.2,fun h=>by subst h;exact ⟨rfl,rfl⟩⟩

def X4s (v:Zu):Int×Zu :=
 if 0≤v.X∧0<v.Y then (0,v) else if 0<v.X∧v.Y≤0 then (8,⟨-v.Y,v.X⟩) else if v.X≤0∧v.Y<0 then (16,⟨-v.X,-v.Y⟩) else (24,⟨v.Y,-v.X⟩)
def X6:List Zu:=[⟨0,1000⟩,⟨195,981⟩,⟨383,924⟩,⟨556,831⟩,⟨707,707⟩,⟨831,556⟩,⟨924,383⟩,⟨981,195⟩]
def X6h (v:Zu) (l:List Zu):Nat:=l.countP fun q=>decide (q.X*v.Y-q.Y*v.X≤0)
def X4r (v:Zu):Int:=(X4s v).1+(X6h (X4s v).2 X6:Nat)-1

theorem X8h {v:Zu} (hb : -60000≤v.X∧v.X≤60000 ∧ -60000≤v.Y∧v.Y≤60000) (h0:¬ (v.X=0∧v.Y=0)):0≤(X4s v).1∧(X4s v).1≤24∧0≤(X4s v).2.X∧(X4s v).2.X≤60000∧0<(X4s v).2.Y∧(X4s v).2.Y≤60000:=by
 unfold X4s
 split
 ·simp only;omega
 ·split
  ·simp only;omega
  ·split<;>simp only<;>omega

theorem X7H {γ:Type} (v:Zu) (hb : -60000≤v.X∧v.X≤60000 ∧ -60000≤v.Y∧v.Y≤60000) (h0:¬ (v.X=0∧v.Y=0)) (k:Int×Zu→Option γ) :
  Option.bind (X1E (0,v)) k=k (X4s v):=by
 obtain ⟨x,y⟩:=v
 simp only at hb h0
 have stop:∀ (n:Int) (x y:Int),0≤x→0<y→Option.bind (Z8S Xb (n,⟨x,y⟩)) k=k (n,⟨x,y⟩):=fun n x y hx hy=>by
  rw [X3T]
  have e1:decide (x<0)=false:=by simp;omega
  have e2:decide (y≤0)=false:=by simp;omega
  simp only [Xb,Xs,e1,e2,cond_false,Option.bind_some,Sum.elim_inr]
 have go:∀ (n:Int) (x y:Int),0≤n→n≤24 → -60000≤x→x≤60000 → -60000≤y→y≤60000→(x<0∨y≤0)→Option.bind (Z8S Xb (n,⟨x,y⟩)) k=Option.bind (Z8S Xb (n+8,⟨-y,x⟩)) k:=fun n x y h1 h2 h3 h4 h5 h6 h7=>by
  rw [X3T]
  have w1:IntKind.wrap .i64 (n+8)=n+8:=by rw [w64]<;>omega
  have w2:IntKind.wrap .i64 (0-y) = -y:=by rw [w64]<;>omega
  by_cases e1:x<0
  ·simp only [Xb,Xs,e1,decide_true,cond_true,Option.bind_some,Sum.elim_inl,w1,w2]
  ·have e2:y≤0:=by omega
   simp only [Xb,Xs,e1,e2,decide_true,decide_false,cond_true,cond_false,Option.bind_some,Sum.elim_inl,w1,w2]
 unfold X1E X4s
 simp only
 by_cases c1:0≤x∧0<y
 ·rw [if_pos c1];exact stop _ _ _ c1.1 c1.2
 ·rw [if_neg c1]
  by_cases c2:0<x∧y≤0
  ·rw [if_pos c2,go 0 x y (by omega) (by omega) (by omega) (by omega) (by omega) (by omega) (by omega)]
   exact stop _ _ _ (by omega) (by omega)
  ·rw [if_neg c2]
   by_cases c3:x≤0∧y<0
   ·rw [if_pos c3,go 0 x y (by omega) (by omega) (by omega) (by omega) (by omega) (by omega) (by omega),go _ _ _ (by omega) (by omega) (by omega) (by omega) (by omega) (by omega) (by omega)]
    exact stop _ _ _ (by omega) (by omega)
   ·rw [if_neg c3,go 0 x y (by omega) (by omega) (by omega) (by omega) (by omega) (by omega) (by omega),go _ _ _ (by omega) (by omega) (by omega) (by omega) (by omega) (by omega) (by omega),go _ _ _ (by omega) (by omega) (by omega) (by omega) (by omega) (by omega) (by omega)]
    rw [show (- - y:Int)=y by omega]
    exact stop _ _ _ (by omega) (by omega)

theorem X7I {γ:Type} (q:Nat→Zu) (hq:∀ i,(h:i<8)→q i=X6[i]) (v:Zu) (hb:0≤v.X∧v.X≤60000∧0≤v.Y∧v.Y≤60000) (n:Int) (hn:0≤n∧n≤24) (k:Int→Option γ) :
  Option.bind (X2C q v (n,0)) k=k (n+(X6h v X6:Nat)):=by
 refine (X5 (XV q v) k 8 (fun i (b:Int)=>(b,(i:Int))) (fun i b=>0≤b∧b≤24+i) (fun i b=>k (b+(X6h v (X6.drop i):Nat))) ?_ ?_ 0 n (by omega) (by omega)).trans (by simp)
 ·intro b _ R
  simp [XV,W8,X6h,X6]
 ·intro i b hi hP R hR
  simp only [XV,W8]
  rw [List.drop_eq_getElem_cons (show i<X6.length from hi)]
  have hw:IntKind.wrap .i64 ((i:Int)+1)=((i+1:Nat):Int):=by rw [w64]<;>omega
  have hwb:IntKind.wrap .i64 (b+1)=b+1:=by rw [w64]<;>omega
  have e1:decide ((i:Int)<8)=true:=by simp;omega
  have e2:decide ((0:Int)≤↑i)=true:=by simp
  have e3:decide ((i:Int)<((8:Nat):Int))=true:=by simp;omega
  have hqb:0≤(X6[i]'hi).X∧(X6[i]'hi).X≤1000∧0≤(X6[i]'hi).Y∧(X6[i]'hi).Y≤1000:=by
   have:i=0∨i=1∨i=2∨i=3∨i=4∨i=5∨i=6∨i=7:=by omega
   rcases this with rfl|rfl|rfl|rfl|rfl|rfl|rfl|rfl<;>simp [X6]
  have b1:=X4O (a:=(X6[i]'hi).X) (b:=v.Y) 1000 60000 (by omega) (by omega) (by omega) (by omega)
  have b2:=X4O (a:=(X6[i]'hi).Y) (b:=v.X) 1000 60000 (by omega) (by omega) (by omega) (by omega)
  simp only [Int.toNat_natCast,hq i hi,hw,hwb]
  rw [w64 (x:=(X6[i]'hi).X*v.Y) (by omega) (by omega),w64 (x:=(X6[i]'hi).Y*v.X) (by omega) (by omega),w64 (x:=(X6[i]'hi).X*v.Y-_) (by omega) (by omega)]
  simp only [e1,e2,e3,Bool.and_self,cond_true]
  unfold X6h at hR ⊢
  generalize X6[i]'hi=Q at *
  by_cases h:Q.X*v.Y-Q.Y*v.X≤0
  ·rw [List.countP_cons_of_pos (by simpa using h)]
   simp only [h,decide_true,cond_true,Option.bind_some,Sum.elim_inl]
   rw [hR (b+1) (by omega)]
   congr 1
   push_cast
   omega
  ·rw [List.countP_cons_of_neg (by simpa using h)]
   simp only [h,decide_false,cond_false,Option.bind_some,Sum.elim_inl]
   exact hR b (by omega)

theorem X6B (v:Zu) (hb : -60000≤v.X∧v.X≤60000 ∧ -60000≤v.Y∧v.Y≤60000) (h0:¬ (v.X=0∧v.Y=0)):X48 v=some (X4r v):=by
 rw [X5m];unfold X1J
 have hq:=X8h hb h0
 rw [X7H v hb h0,X7I _ (fun i hi=>by
   have:i=0∨i=1∨i=2∨i=3∨i=4∨i=5∨i=6∨i=7:=by omega
   rcases this with rfl|rfl|rfl|rfl|rfl|rfl|rfl|rfl<;>rfl) _ (by omega) _ (by omega)]
 have hc:X6h (X4s v).2 X6≤8:=List.countP_le_length (l:=X6)
 unfold X4r
 rw [w64 (by omega) (by omega)]

theorem X7Z {v:Zu} (hb : -60000≤v.X∧v.X≤60000 ∧ -60000≤v.Y∧v.Y≤60000) (h0:¬ (v.X=0∧v.Y=0)):0≤X4r v∧X4r v≤31:=by
 have hq:=X8h hb h0
 have hc:X6h (X4s v).2 X6≤8:=List.countP_le_length (l:=X6)
 have h1:1≤X6h (X4s v).2 X6:=by
  unfold X6h X6
  rw [List.countP_cons_of_pos (by simp;omega)]
  omega
 unfold X4r
 omega

def X6R (f:ZJ) (mark:Int) (p:Zu):Int×Int :=
 if X4c f mark=false then (0,9) else if X3v 30000 p then (0,7) else if (Z8y f mark).At=p then (0,8) else (X4r (Xk (Z8y f mark).At p),0)
def X46 (f:ZJ) (mark:Int) (p:Zu):Int:=if (X6R f mark p).2≠0 then -1 else (X6R f mark p).1

theorem X7C {f:ZJ} (hg:X25 f) {mark:Int} (h0:0≤mark) (h1:mark<f.Chart.Marks.length):Bd 30000 (Z8y f mark).At:=by
 have hj:mark.toNat<f.Chart.Marks.length:=by omega
 have:=(hg.mark _ (List.getElem_mem hj)).1
 rw [X6o] at this
 unfold Z8y
 rw [X0 _ _ _ hj];exact this

theorem X73 {f:ZJ} (hg:X25 f) (mark:Int) (h0:0≤mark) (h1:mark<f.Chart.Marks.length) (p:Zu):X58 f.Chart f.Day mark p=some (X6R f mark p):=by
 rw [X66];unfold X2k X6R
 rw [X4A];unfold X12
 rw [X4V hg mark h0 h1]
 have hb:=X7C hg h0 h1
 unfold X4c Z8y at *
 generalize hM:f.Chart.Marks.getD mark.toNat ⟨ByteArray.empty,⟨0,0⟩,[]⟩=M at *
 simp only [Option.bind_some,beq_self_eq_true,cond_true]
 by_cases hp:X4Z M f.Day=0
 ·simp [hp]
 ·simp only [X5D hp,cond_false,Option.bind_some,bne_self_eq_false,WW hp,Bool.true_eq_false,if_false]
  rw [X59 _ (by omega) _ (by simp)]
  simp only [Option.bind_some,List.any_cons,List.any_nil,Bool.or_false]
  cases hf:X3v 30000 p
  ·rw [X6o] at hf
   unfold Bd at hb hf
   simp only [cond_false,Bool.false_eq_true,if_false,Bool.and_true]
   by_cases he:M.At=p
   ·subst he;simp
   ·have:(M.At.X==p.X&&M.At.Y==p.Y)=false:=by
     cases hc:(M.At.X==p.X&&M.At.Y==p.Y)
     ·rfl
     ·exfalso;simp at hc;exact he (Zu.ext hc.1 hc.2)
    rw [this,if_neg he]
    simp only [cond_false]
    rw [w64 (x:=M.At.X-p.X) (by omega) (by omega),w64 (x:=M.At.Y-p.Y) (by omega) (by omega)]
    have h00:¬ (M.At.X-p.X=0∧M.At.Y-p.Y=0):=fun q=>he (Zu.ext (by omega) (by omega))
    rw [X6B _ (by simp only;omega) h00]
    rfl
  ·simp

theorem X8G {f:ZJ} (hg:X25 f) {mark:Int} (h0:0≤mark) (h1:mark<f.Chart.Marks.length) (p:Zu) : -1≤X46 f mark p∧X46 f mark p≤31:=by
 have hb:=X7C hg h0 h1
 unfold X46 X6R
 by_cases h:X4c f mark=false
 ·simp [h]
 ·rw [if_neg h]
  by_cases h3:X3v 30000 p=true
  ·simp [h3]
  ·rw [if_neg h3]
   by_cases h4:(Z8y f mark).At=p
   ·simp [h4]
   ·rw [if_neg h4]
    simp only [Bool.not_eq_true] at h3
    rw [X6o] at h3
    unfold Bd at hb h3
    have:=X7Z (v:=Xk (Z8y f mark).At p) (by unfold Xk;simp only;omega) (fun q=>h4 (by unfold Xk at q;simp only at q;exact Zu.ext (by omega) (by omega)))
    simp only [ne_eq,not_true,if_false]
    omega

theorem X5h (a b:Zh):Zh.eqb a b=true↔a=b:=by
 obtain ⟨m,⟨x,y⟩⟩:=a
 obtain ⟨m',⟨x',y'⟩⟩:=b
 simp [Zh.eqb]
theorem X6N {v:Int} (s k:Zh):∀ m:List (Zh×Int),Z8z Zh.eqb s (Zgh Zh.eqb k v m)=bif Zh.eqb s k then some v else Z8z Zh.eqb s m
 | []=>by
  simp only [Zgh,Z8z]
 | (a,b)::m=>by
  have ih:=X6N (v:=v) s k m
  simp only [Zgh]
  have sym:∀ x y,Zh.eqb x y=Zh.eqb y x:=fun x y=>by
   cases h:Zh.eqb y x with
   | true=>rw [(X5h _ _).1 h,(X5h x x).2 rfl]
   | false=>cases h2:Zh.eqb x y with
    | false=>rfl
    | true=>rw [(X5h _ _).1 h2,(X5h y y).2 rfl] at h;cases h
  cases e:Zh.eqb a k with
  | true =>
   have:=(X5h _ _).1 e
   subst this
   simp only [e,cond_true,Z8z]
   cases Zh.eqb s a<;>rfl
  | false =>
   have e6:Zh.eqb k a=false:=by rw [sym];exact e
   simp only [e,e6,cond_false,Z8z,ih]
   cases h:Zh.eqb s k with
   | true =>
    have:=(X5h _ _).1 h
    subst this
    simp [e,e6]
   | false=>rfl

def X1W (f:ZJ) (m:List (Zh×Int)):Prop:=∀ (mark:Int) p n,0≤mark→mark<f.Chart.Marks.length→Z8z Zh.eqb ⟨mark,p⟩ m=some n→n=X46 f mark p
theorem X72 (f:ZJ):X1W f []:=fun _ _ _ _ _ h=>by cases h

theorem X8e {f:ZJ} (hg:X25 f) {mark:Int} (h0:0≤mark) (h1:mark<f.Chart.Marks.length) (p:Zu) (l:List Zn) (kit:Nat→Nat) {m:List (Zh×Int)} (hm:X1W f m) :
  ∃ m',X1W f m'∧XK (mark,p,f,l,kit,m)=some (X46 f mark p,f,l,kit,m'):=by
 rw [X3h];unfold Xx
 cases hf:Z8z Zh.eqb ⟨mark,p⟩ m with
 | some n=>exact ⟨m,hm,by simp only [hf,Option.isSome_some,Bool.not_true,cond_false,Option.getD_some];rw [hm _ _ _ h0 h1 hf]⟩
 | none =>
  simp only [hf,Option.isSome_none,Bool.not_false,cond_true]
  rw [X73 hg mark h0 h1]
  have put:∀ v,v=X46 f mark p→X1W f (Zgh Zh.eqb ⟨mark,p⟩ v m):=fun v hv mk q n k0 k1 hq=>by
   rw [X6N] at hq
   cases e:Zh.eqb ⟨mk,q⟩ ⟨mark,p⟩ with
   | true =>
    rw [e] at hq
    cases (X5h _ _).1 e;cases hq;exact hv
   | false =>
    rw [e] at hq
    exact hm _ _ _ k0 k1 hq
  simp only [Option.bind_some]
  by_cases he:(X6R f mark p).2=0
  ·have hs:X46 f mark p=(X6R f mark p).1:=by unfold X46;rw [if_neg (by simp [he])]
   refine ⟨_,put _ hs.symm,?_⟩
   simp only [he,bne_self_eq_false,cond_false,hs]
  ·have hs:X46 f mark p = -1:=by unfold X46;rw [if_pos he]
   refine ⟨_,put _ hs.symm,?_⟩
   simp only [WW he,cond_true,hs]

def X8k (shown Z5R:Int):Int:=if (shown-Z5R+32) % 32>16 then (shown-Z5R+32) % 32-32 else (shown-Z5R+32) % 32
def X3Y (a:Zt) (p:Zu):Bool := !X3 a.X.Lo a.X.Hi [p.X] && !X3 a.Y.Lo a.Y.Hi [p.Y]
def X6g (f:ZJ) (p:Zu):Option Zt:=f.Areas.find? fun a=>X3Y a p
def X2v (f:ZJ) (p:Zu) (x:Zn):ZE×Bool :=
 if (X1j f x.Instrument).Lead then (match X6g f p with
  | none=>(⟨-20,20⟩,true)
  | some a=>(⟨x.Shown-a.Depth.Hi,x.Shown-a.Depth.Lo⟩,x.Ground==0||x.Ground==a.Ground))
 else (⟨X8k x.Shown (X46 f x.Mark p),X8k x.Shown (X46 f x.Mark p)⟩,decide (X46 f x.Mark p≥0))

theorem X56 {f:ZJ} {x:Zn} (h:X1k f x=0):(0≤x.Instrument∧x.Instrument<f.Instruments.length)∧((X1j f x.Instrument).Lead=true→0≤x.Shown∧x.Shown≤1000∧0≤x.Ground∧x.Ground≤4∧x.Mark=0) ∧
  ((X1j f x.Instrument).Lead=false→0≤x.Mark∧x.Mark<f.Chart.Marks.length∧X4c f x.Mark=true∧0≤x.Shown∧x.Shown≤31∧x.Ground=0):=by
 unfold X1k at h
 cases h1:X3 0 ((f.Instruments.length:Int)-1) [x.Instrument]
 ·rw [h1] at h
  simp only [Bool.false_eq_true,if_false] at h
  simp at h1
  refine ⟨by omega,fun hL => ?_,fun hL => ?_⟩
  ·rw [if_pos hL] at h
   cases h2:X3 0 1000 [x.Shown]
   ·cases h3:X3 0 4 [x.Ground]
    ·rw [h2,h3] at h
     simp at h h2 h3
     omega
    ·rw [h2,h3] at h;simp at h
   ·rw [h2] at h;simp at h
  ·rw [if_neg (by simp [hL])] at h
   cases h2:X3 0 ((f.Chart.Marks.length:Int)-1) [x.Mark]
   ·rw [h2] at h
    cases h3:X4c f x.Mark
    ·rw [h3] at h;simp at h
    ·cases h4:X3 0 31 [x.Shown]
     ·rw [h3,h4] at h
      simp at h h2 h4
      exact ⟨by omega,by omega,rfl,by omega,by omega,by omega⟩
     ·rw [h3,h4] at h;simp at h
   ·rw [h2] at h;simp at h
 ·rw [h1] at h;simp at h

theorem X7Q {f:ZJ} (hg:X25 f) {x:Zn} (hx:X1k f x=0) (hL:(X1j f x.Instrument).Lead=false) (p:Zu) (l:List Zn) (kit:Nat→Nat) {m:List (Zh×Int)} (hm:X1W f m) :
  ∃ m',X1W f m'∧Xj (p,x,f,l,kit,m)=some ((X2v f p x).1,(X2v f p x).2,f,l,kit,m'):=by
 obtain ⟨h1,_,h3⟩:=X56 hx
 have h3:=h3 hL
 obtain ⟨m',hm',ht⟩:=X8e hg h3.1 h3.2.1 p l kit hm
 refine ⟨m',hm',?_⟩
 rw [X3j];unfold Xy X2v X8k
 rw [ht,if_neg (by simp [hL])]
 have hs:=X8G hg h3.1 h3.2.1 p
 generalize X46 f x.Mark p=s at *
 simp only [Option.bind_some]
 rw [w64 (x:=x.Shown-s) (by omega) (by omega),w64 (x:=x.Shown-s+32) (by omega) (by omega)]
 have ht:(x.Shown-s+32).tmod 32=(x.Shown-s+32) % 32:=Int.tmod_eq_emod_of_nonneg (by omega)
 rw [ht]
 by_cases hc:(x.Shown-s+32) % 32>16
 ·have hw:IntKind.wrap .i64 ((x.Shown-s+32) % 32-32)=(x.Shown-s+32) % 32-32:=by rw [w64]<;>omega
  simp only [hc,decide_true,cond_true,if_true,hw]
 ·simp only [hc,decide_false,cond_false,if_false]

theorem X8g {a:Zt} (h:X4y a=0):0≤a.Depth.Lo∧a.Depth.Lo≤a.Depth.Hi∧a.Depth.Hi≤1000∧a.X.Lo≤a.X.Hi∧a.Y.Lo≤a.Y.Hi∧1≤a.Ground∧a.Ground≤4:=by
 unfold X4y at h
 cases h1:(X3 (-30000) 30000 [a.X.Lo,a.X.Hi,a.Y.Lo,a.Y.Hi]||X3 0 1000 [a.Depth.Lo,a.Depth.Hi]||X3 1 4 [a.Ground])
 ·rw [h1] at h
  simp at h h1
  omega
 ·rw [h1] at h;simp at h

theorem X8x {f:ZJ} (hg:X25 f) {x:Zn} (hx:X1k f x=0) (hL:(X1j f x.Instrument).Lead=true) (p:Zu) (l:List Zn) (kit:Nat→Nat) (m:List (Zh×Int)) :
  XW (p,x,f,l,kit,m)=some ((X2v f p x).1,(X2v f p x).2,f,l,kit,m):=by
 obtain ⟨h1,h2,_⟩:=X56 hx
 have h2:=h2 hL
 rw [X40];unfold W9 X2v
 rw [if_pos hL]
 have ha:=hg.areas
 refine (X5 (Xh (↑f.Areas.length) f.Areas p) _ f.Areas.length (fun i (_:Unit)=>(i:Int)) (fun _ _=>True) (fun i _=>match (f.Areas.drop i).find? fun a=>X3Y a p with
   | none=>some (⟨-20,20⟩,true,f,l,kit,m)
   | some a=>some (⟨x.Shown-a.Depth.Hi,x.Shown-a.Depth.Lo⟩,x.Ground==0||x.Ground==a.Ground,f,l,kit,m)) ?_ ?_ 0 () (by omega) trivial).trans ?_
 ·intro b _ R
  simp [Xh,Xp]
 ·intro i b hi _ R hR
  have hR':=hR () trivial
  have hab:=X8g (hg.area _ (List.getElem_mem hi))
  simp only [Xh,Xp]
  rw [List.drop_eq_getElem_cons hi,List.find?_cons]
  have hw:IntKind.wrap .i64 ((i:Int)+1)=((i+1:Nat):Int):=by rw [w64]<;>omega
  simp only [Int.toNat_natCast,X0 _ _ _ hi,hw]
  rw [X1 _ _ _ (by simp),X1 _ _ _ (by simp)]
  have e1:decide ((i:Int)<↑f.Areas.length)=true:=by simp [hi]
  have e2:decide ((0:Int)≤↑i)=true:=by simp
  have e3:decide ((i:Int)<0)=false:=by simp
  simp only [e1,e2,Bool.and_self,cond_true,Option.bind_some]
  have w1:IntKind.wrap .i64 (x.Shown-f.Areas[i].Depth.Hi)=x.Shown-f.Areas[i].Depth.Hi:=by rw [w64]<;>omega
  have w2:IntKind.wrap .i64 (x.Shown-f.Areas[i].Depth.Lo)=x.Shown-f.Areas[i].Depth.Lo:=by rw [w64]<;>omega
  cases o1:X3 f.Areas[i].X.Lo f.Areas[i].X.Hi [p.X]
  ·cases o2:X3 f.Areas[i].Y.Lo f.Areas[i].Y.Hi [p.Y]
   ·have:X3Y f.Areas[i] p=true:=by unfold X3Y;rw [o1,o2];rfl
    simp only [this,Bool.not_false,cond_true,Option.bind_some,Sum.elim_inr,Sum.elim_inl,e3,cond_false,e1,e2,Bool.and_self,Int.toNat_natCast,X0 _ _ _ hi,w1,w2]
    by_cases hG:x.Ground=0
    ·simp [hG]
    ·simp [X5D hG]
   ·have:X3Y f.Areas[i] p=false:=by unfold X3Y;rw [o1,o2];rfl
    simp only [this,Bool.not_false,Bool.not_true,cond_true,cond_false,Option.bind_some,Sum.elim_inl]
    exact hR'
  ·have:X3Y f.Areas[i] p=false:=by unfold X3Y;rw [o1];rfl
   simp only [this,Bool.not_true,cond_false,Option.bind_some,Sum.elim_inl]
   exact hR'
 ·simp only [List.drop_zero,X6g]
  cases f.Areas.find? fun a=>X3Y a p<;>rfl
end Nore
open Go Go.Ab
namespace Nore

def X7m (x k:Int):Bool:=IntKind.wrap IntKind.i64 (↑(BitVec.toNat (BitVec.ofInt (IntKind.bits IntKind.i64) (Int.fdiv x (2 ^ min (Int.toNat k) (IntKind.bits IntKind.i64))) &&& BitVec.ofInt (IntKind.bits IntKind.i64) 1)):Int)==1
theorem X8j (k:Int):X7m 0 k=false:=by
 unfold X7m
 rw [show Int.fdiv 0 (2 ^ min (Int.toNat k) (IntKind.bits IntKind.i64))=0 from Int.zero_fdiv _]
 decide

def X3B (f:ZJ) (ib mb:Int) (x:Zn):Bool:=X7m ib x.Instrument||(!(X1j f x.Instrument).Lead&&X7m mb x.Mark)
def X5a (n a:ZE):ZE:=⟨if a.Lo>n.Lo then a.Lo else n.Lo,if a.Hi<n.Hi then a.Hi else n.Hi⟩
def atL (f:ZJ) (p:Zu) (ib mb:Int):(Nat→ZE)→List Zn→(Nat→ZE)×Bool
 | s,[]=>(s,true)
 | s,x::l=>if X3B f ib mb x then atL f p ib mb s l else
  if (X2v f p x).2=false∨(X5a (X2v f p x).1 (s x.Instrument.toNat)).Lo>(X5a (X2v f p x).1 (s x.Instrument.toNat)).Hi then (s,false) else
  atL f p ib mb (fun j=>if j=x.Instrument.toNat then X5a (X2v f p x).1 (s x.Instrument.toNat) else s j) l
def X7 (f:ZJ) (i:Nat):ZE:=if h:i<f.Instruments.length then f.Instruments[i].Off else ⟨0,0⟩
def atN (f:ZJ) (l:List Zn) (p:Zu) (ib mb:Int):(Nat→ZE)×Bool:=atL f p ib mb (X7 f) l

theorem X8u {γ:Type} (f:ZJ) (hi4:f.Instruments.length≤4) (x0 x2:Int) (l:List Zn) (kit:Nat→Nat) (m:List (Zh×Int)) (p:Zu) (k:(Nat→ZE)→Option γ) :
  Option.bind (X1Z (↑f.Instruments.length) x0 x2 f.Instruments f l kit m p (0,fun _=>⟨0,0⟩)) k=k (X7 f):=by
 refine (X5 (Xl (↑f.Instruments.length) x0 x2 f.Instruments f l kit m p) k f.Instruments.length (fun i (b:Nat→ZE)=>((i:Int),b)) (fun i b=>∀ j,b j=if j<i then X7 f j else ⟨0,0⟩) (fun _ _=>k (X7 f)) ?_ ?_ 0 _ (by omega) (fun j=>by simp))
 ·intro b hb R
  have:b=X7 f:=by
   funext j
   rw [hb]
   by_cases h:j<f.Instruments.length
   ·simp [h]
   ·simp [h,X7]
  simp [Xl,Xt,this]
 ·intro i b hi hb R hR
  have hw:IntKind.wrap .i64 ((i:Int)+1)=((i+1:Nat):Int):=by rw [w64]<;>omega
  have e1:decide ((i:Int)<↑f.Instruments.length)=true:=by simp [hi]
  have e2:decide ((0:Int)≤↑i)=true:=by simp
  have e3:decide ((i:Int)<((4:Nat):Int))=true:=by simp;omega
  have e3':decide ((i:Int)<(4:Int))=true:=by simp;omega
  have e4:Nat.blt i 4=true:=by rw [Tr.blt_dec];simp;omega
  simp only [Xl,Xt,Int.toNat_natCast,X0 _ _ _ hi,hw,e1,e2,e3,e3',e4,Bool.and_self,cond_true,Option.bind_some,Sum.elim_inl]
  refine hR _ fun j => ?_
  rw [Tr.beq_dec]
  by_cases e:j=i
  ·subst e;simp [X7,hi]
  ·simp only [e,decide_false,cond_false,hb j]
   by_cases h:j<i
   ·simp [h,show j<i+1 by omega]
   ·simp [h,show ¬ j<i+1 by omega]

theorem X8H {f:ZJ} (hg:X25 f) {l:List Zn} (hl:∀ x∈l,X1k f x=0) (hll:l.length≤8) {kit:Nat→Nat} (hk:Kit f kit) {m:List (Zh×Int)} (hm:X1W f m) (p:Zu) (ib mb:Int) :
  ∃ m',X1W f m'∧Wz (ib,p,mb,f,l,kit,m)=some ((atN f l p ib mb).1,(atN f l p ib mb).2,f,l,kit,m'):=by
 rw [X4j];unfold WE atN
 rw [X8u f hg.inst.2]
 have main:=X6F (Xm ib l mb (↑l.length) p) (fun o=>Sum.elim (fun (y:Bool×(Nat→ZE)×ZJ×List Zn×(Nat→Nat)×ZE×List (Zh×Int)×Zn)=>some (y.snd.fst,y.fst,y.snd.snd.fst,y.snd.snd.snd.fst,y.snd.snd.snd.snd.fst,y.snd.snd.snd.snd.snd.snd.fst)) (fun y=>Sum.elim (fun (y:Bool×(Nat→ZE)×ZJ×List Zn×(Nat→Nat)×ZE×List (Zh×Int)×Zn)=>some (y.snd.fst,y.fst,y.snd.snd.fst,y.snd.snd.snd.fst,y.snd.snd.snd.snd.fst,y.snd.snd.snd.snd.snd.snd.fst)) (fun (y:(Nat→ZE)×ZJ×List Zn×(Nat→Nat)×List (Zh×Int))=>some (y.fst,true,y.snd.fst,y.snd.snd.fst,y.snd.snd.snd.fst,y.snd.snd.snd.snd)) y) o) l.length
  (fun i (b:(Nat→ZE)×List (Zh×Int))=>((i:Int),b.1,f,l,kit,b.2)) (fun _ b=>X1W f b.2) (fun i b r=>∃ m',X1W f m'∧r=some ((atL f p ib mb b.1 (l.drop i)).1,(atL f p ib mb b.1 (l.drop i)).2,f,l,kit,m'))
  (by
   intro b hb R
   refine ⟨b.2,hb,?_⟩
   simp [Xm,Xu,atL])
  (by
   intro i b hi hb R hR
   have hx:=hl _ (List.getElem_mem hi)
   obtain ⟨x,hxd⟩:∃ x,l[i]=x:=⟨_,rfl⟩
   rw [hxd] at hx
   have hgd:l.getD i ⟨0,0,0,0⟩=x:=(X0 _ _ _ hi).trans hxd
   obtain ⟨h1,h2,h3⟩:=X56 hx
   have hi4:=hg.inst.2
   have hw:IntKind.wrap .i64 ((i:Int)+1)=((i+1:Nat):Int):=by rw [w64]<;>omega
   have e1:decide ((i:Int)<↑l.length)=true:=by simp [hi]
   have e2:decide ((0:Int)≤↑i)=true:=by simp
   simp only [Xm,Xu,Int.toNat_natCast,hgd,hw,e1,e2,Bool.and_self,cond_true]
   rw [List.drop_eq_getElem_cons hi,hxd]
   have hj:x.Instrument.toNat<f.Instruments.length:=by omega
   have i1:decide (0≤x.Instrument)=true:=by simp;omega
   have i2:decide (x.Instrument<((4:Nat):Int))=true:=by simp;omega
   have i2':decide (x.Instrument<(4:Int))=true:=by simp;omega
   have i3:Nat.blt x.Instrument.toNat 4=true:=by rw [Tr.blt_dec];simp;omega
   have i4:decide (x.Instrument<0)=false:=by simp;omega
   have hkk:=hk _ hj
   have hio:X1j f x.Instrument=f.Instruments[x.Instrument.toNat]:=X0 _ _ _ hj
   have hcut:∀ (n a:ZE),(⟨bif decide (a.Lo>n.Lo) then a.Lo else n.Lo,bif decide (a.Hi<n.Hi) then a.Hi else n.Hi⟩:ZE)=X5a n a:=fun n a=>by
    unfold X5a
    by_cases c1:a.Lo>n.Lo<;>by_cases c2:a.Hi<n.Hi<;>simp [c1,c2]
   have hcut1:∀ (n a:ZE),(bif decide (a.Lo>n.Lo) then a.Lo else n.Lo)=(X5a n a).Lo:=fun n a=>by rw [←hcut]
   have hcut2:∀ (n a:ZE),(bif decide (a.Hi<n.Hi) then a.Hi else n.Hi)=(X5a n a).Hi:=fun n a=>by rw [←hcut]
   have hfun:∀ (c:ZE) (s:Nat→ZE),(fun j=>bif Nat.beq j x.Instrument.toNat then c else s j)=fun j=>if j=x.Instrument.toNat then c else s j:=fun c s=>by
    funext j;rw [Tr.beq_dec];by_cases e:j=x.Instrument.toNat<;>simp [e]
   simp only [i1,i2,i2',i3,i4,Bool.and_self,cond_true,cond_false,atL]
   rcases Bool.eq_false_or_eq_true (X1j f x.Instrument).Lead with hL|hL
   rotate_left
   ·rw [←hio,hL] at hkk
    simp only [Bool.false_eq_true,if_false] at hkk
    have h3:=h3 hL
    have i5:decide (x.Mark<0)=false:=by simp;omega
    simp only [hkk,show Nat.beq 1 0=false from rfl,show Nat.beq 1 1=true from rfl,cond_false,cond_true,i5]
    have hib:(IntKind.wrap IntKind.i64 (↑(BitVec.toNat (BitVec.ofInt (IntKind.bits IntKind.i64) (Int.fdiv ib (2 ^ min (Int.toNat x.Instrument) (IntKind.bits IntKind.i64))) &&& BitVec.ofInt (IntKind.bits IntKind.i64) 1)):Int)==1)=X7m ib x.Instrument:=rfl
    have hmb:(IntKind.wrap IntKind.i64 (↑(BitVec.toNat (BitVec.ofInt (IntKind.bits IntKind.i64) (Int.fdiv mb (2 ^ min (Int.toNat x.Mark) (IntKind.bits IntKind.i64))) &&& BitVec.ofInt (IntKind.bits IntKind.i64) 1)):Int)==1)=X7m mb x.Mark:=rfl
    rw [hib,hmb]
    rcases Bool.eq_false_or_eq_true (X7m ib x.Instrument) with hb1|hb1
    rotate_left
    ·rcases Bool.eq_false_or_eq_true (X7m mb x.Mark) with hb2|hb2
     rotate_left
     ·have hsk:X3B f ib mb x=false:=by unfold X3B;rw [hL,hb1,hb2];rfl
      simp only [hb1,hb2,cond_false,hsk,Bool.false_eq_true,if_false]
      obtain ⟨m',hm',hc⟩:=X7Q hg hx hL p l kit hb
      rw [hc]
      simp only [Option.bind_some,hcut,hcut1,hcut2,hfun]
      cases ho:(X2v f p x).2
      ·exact ⟨m',hm',by simp⟩
      ·by_cases hc:(X5a (X2v f p x).1 (b.1 x.Instrument.toNat)).Lo>(X5a (X2v f p x).1 (b.1 x.Instrument.toNat)).Hi
       ·exact ⟨m',hm',by simp [hc]⟩
       ·simp only [Bool.not_true,cond_false,hc,decide_false,Option.bind_some,Sum.elim_inl,Bool.true_eq_false,or_self,if_false]
        exact hR (_,m') hm'
     ·have hsk:X3B f ib mb x=true:=by unfold X3B;rw [hL,hb1,hb2];rfl
      simp only [hb1,hb2,cond_true,cond_false,Option.bind_some,Sum.elim_inl,hsk,if_true]
      exact hR b hb
    ·have hsk:X3B f ib mb x=true:=by unfold X3B;rw [hb1];rfl
     simp only [hb1,cond_true,Option.bind_some,Sum.elim_inl,hsk,if_true]
     exact hR b hb
   ·rw [←hio,hL] at hkk
    simp only [if_true] at hkk
    have h2:=h2 hL
    simp only [hkk,show Nat.beq 2 0=false from rfl,show Nat.beq 2 1=false from rfl,show Nat.beq 2 (1+1)=true from rfl,cond_false,cond_true]
    have hib:(IntKind.wrap IntKind.i64 (↑(BitVec.toNat (BitVec.ofInt (IntKind.bits IntKind.i64) (Int.fdiv ib (2 ^ min (Int.toNat x.Instrument) (IntKind.bits IntKind.i64))) &&& BitVec.ofInt (IntKind.bits IntKind.i64) 1)):Int)==1)=X7m ib x.Instrument:=rfl
    rw [hib]
    rcases Bool.eq_false_or_eq_true (X7m ib x.Instrument) with hb1|hb1
    rotate_left
    ·have hsk:X3B f ib mb x=false:=by unfold X3B;rw [hL,hb1];rfl
     simp only [hb1,cond_false,hsk,Bool.false_eq_true,if_false]
     rw [X8x hg hx hL p l kit]
     simp only [Option.bind_some,hcut,hcut1,hcut2,hfun]
     cases ho:(X2v f p x).2
     ·exact ⟨b.2,hb,by simp⟩
     ·by_cases hc:(X5a (X2v f p x).1 (b.1 x.Instrument.toNat)).Lo>(X5a (X2v f p x).1 (b.1 x.Instrument.toNat)).Hi
      ·exact ⟨b.2,hb,by simp [hc]⟩
      ·simp only [Bool.not_true,cond_false,hc,decide_false,Option.bind_some,Sum.elim_inl,Bool.true_eq_false,or_self,if_false]
       exact hR (_,b.2) hb
    ·have hsk:X3B f ib mb x=true:=by unfold X3B;rw [hb1];rfl
     simp only [hb1,cond_true,Option.bind_some,Sum.elim_inl,hsk,if_true]
     exact hR b hb)
 have:=main 0 (X7 f,m) (by omega) hm
 unfold X20
 simpa using this
end Nore
open Go Go.Ab
namespace Nore

def Xr (f:ZJ) (x y:Int):Nat→List Zu
 | 0=>[]
 | n+1=>⟨x*f.Step,y*f.Step⟩::Xr f x (y+1) n
def X4 (f:ZJ):Nat:=(2*f.Half+1).toNat
def XG (f:ZJ) (x:Int):Nat→List Zu
 | 0=>[]
 | n+1=>Xr f x (-f.Half) (X4 f)++XG f (x+1) n
def X42 (f:ZJ):List Zu:=XG f (-f.Half) (X4 f)
def X1f (f:ZJ) (l:List Zn):List Zu:=(X42 f).filter fun p=>(atN f l p 0 0).2

theorem X3S (f:ZJ) (x:Int):∀ (n:Nat) (y:Int),(Xr f x y n).length=n
 | 0,_=>rfl
 | n+1,y=>by simp [Xr,X3S f x n]
theorem X6M (f:ZJ) (x:Int) (p:Zu):∀ (n:Nat) (y:Int),p∈Xr f x y n↔∃ j:Int,y≤j∧j<y+n∧p=⟨x*f.Step,j*f.Step⟩
 | 0,y=>by simp [Xr];intro j h1 h2;omega
 | n+1,y=>by
  simp only [Xr,List.mem_cons,X6M f x p n]
  constructor
  ·rintro (h|⟨j,h1,h2,h3⟩)
   ·exact ⟨y,by omega,by push_cast;omega,h⟩
   ·exact ⟨j,by omega,by push_cast;omega,h3⟩
  ·rintro ⟨j,h1,h2,h3⟩
   by_cases e:j=y
   ·subst e;exact .inl h3
   ·exact .inr ⟨j,by omega,by push_cast at h2;omega,h3⟩
theorem X6u (f:ZJ) (p:Zu):∀ (n:Nat) (x:Int),p∈XG f x n↔∃ i j:Int,x≤i∧i<x+n ∧ -f.Half≤j∧j < -f.Half+X4 f∧p=⟨i*f.Step,j*f.Step⟩
 | 0,x=>by simp [XG];intro i h1 h2;omega
 | n+1,x=>by
  simp only [XG,List.mem_append,X6M,X6u f p n]
  constructor
  ·rintro (⟨j,h1,h2,h3⟩|⟨i,j,h1,h2,h3,h4,h5⟩)
   ·exact ⟨x,j,by omega,by push_cast;omega,h1,h2,h3⟩
   ·exact ⟨i,j,by omega,by push_cast;omega,h3,h4,h5⟩
  ·rintro ⟨i,j,h1,h2,h3,h4,h5⟩
   by_cases e:i=x
   ·subst e;exact .inl ⟨j,h3,h4,h5⟩
   ·exact .inr ⟨i,j,by omega,by push_cast at h2;omega,h3,h4,h5⟩
theorem X8A {f:ZJ} (hh:0≤f.Half) (p:Zu):p∈X42 f↔∃ i j:Int,-f.Half≤i∧i≤f.Half ∧ -f.Half≤j∧j≤f.Half∧p=⟨i*f.Step,j*f.Step⟩:=by
 unfold X42
 rw [X6u]
 have:(X4 f:Int)=2*f.Half+1:=by unfold X4;omega
 constructor
 ·rintro ⟨i,j,h1,h2,h3,h4,h5⟩;exact ⟨i,j,by omega,by omega,by omega,by omega,h5⟩
 ·rintro ⟨i,j,h1,h2,h3,h4,h5⟩;exact ⟨i,j,by omega,by omega,by omega,by omega,h5⟩
theorem X8E {f:ZJ} (hg:X25 f) {p:Zu} (h:p∈X42 f):Bd 4000 p:=by
 obtain ⟨i,j,h1,h2,h3,h4,rfl⟩:=(X8A hg.half.1 p).1 h
 have:=hg.half
 have:=hg.step
 have b1:=X4O (a:=i) (b:=f.Step) 8 500 (by omega) (by omega) (by omega) (by omega)
 have b2:=X4O (a:=j) (b:=f.Step) 8 500 (by omega) (by omega) (by omega) (by omega)
 unfold Bd;simp only;omega

structure X7K (f:ZJ) (l:List Zn):Prop where
 fix:X25 f
 len:l.length≤8
 each:∀ x∈l,X1k f x=0
theorem X7w (f:ZJ):∀ (l:List Zn) (i:Nat),(Wy f i l).2=0→∀ x∈l,X1k f x=0
 | [],_,_,m,hm=>by cases hm
 | x::l,i,h,m,hm=>by
  simp only [Wy] at h
  by_cases h0:X1k f x=0
  ·simp only [h0,if_true] at h
   rcases List.mem_cons.1 hm with e|e
   ·subst e;exact h0
   ·exact X7w f l _ h m e
  ·simp only [h0,if_false] at h
theorem X3M {f:ZJ} {l:List Zn} (h:(Wk f l).2=0):X7K f l:=by
 unfold Wk at h
 by_cases h1:(X2O f).2.2=0
 ·simp only [h1,ne_eq,not_true,if_false] at h
  by_cases h8:8<l.length
  ·rw [if_pos h8] at h;simp at h
  ·rw [if_neg h8] at h
   exact ⟨X78 h1,by omega,X7w f l 0 h⟩
 ·rw [if_pos h1] at h;exact absurd h h1
theorem X7E {f:ZJ} {l:List Zn} (hg:X7K f l) {kit:Nat→Nat} (hk:Kit f kit) (x:Int) (hx : -8≤x∧x≤8) {m:List (Zh×Int)} (hm:X1W f m) (acc:List Zu) (ha:acc.length≤1000000) {γ:Type} (k:_→Option γ) (Q:Option γ→Prop)
  (hQ:∀ m',X1W f m'→Q (k (f,l,kit,m',acc++(Xr f x (-f.Half) (X4 f)).filter fun p=>(atN f l p 0 0).2))) :
  Q (Option.bind (XC x (-f.Half,f,l,kit,m,acc)) k):=by
 have hh:=hg.fix.half
 have hs:=hg.fix.step
 have hw0:(X4 f:Int)=2*f.Half+1:=by unfold X4;omega
 refine (X6F (Xa x) k (X4 f) (fun i (b:List (Zh×Int)×List Zu)=>(-f.Half+i,f,l,kit,b.1,b.2)) (fun i b=>X1W f b.1∧b.2.length≤1000000+i∧b.2++((Xr f x (-f.Half+i) (X4 f-i)).filter fun p=>(atN f l p 0 0).2)=acc++(Xr f x (-f.Half) (X4 f)).filter fun p=>(atN f l p 0 0).2) (fun _ _ r=>Q r) ?_ ?_ 0 (m,acc) (by omega) ⟨hm,by simpa using ha,by simp⟩) |> fun h=>by simpa [XC] using h
 ·intro b hb R
  have e1:decide (-f.Half+(X4 f:Int)≤f.Half)=false:=by simp;omega
  simp only [Xa,Xd,e1,cond_false,Option.bind_some,Sum.elim_inr]
  have h3:=hb.2.2
  simp only [Nat.sub_self,Xr,List.filter_nil,List.append_nil] at h3
  rw [h3]
  exact hQ _ hb.1
 ·intro i b hi hb R hR
  obtain ⟨hb1,hb2,hb3⟩:=hb
  have e1:decide (-f.Half+(i:Int)≤f.Half)=true:=by simp;omega
  have hw:IntKind.wrap .i64 (-f.Half+(i:Int)+1) = -f.Half+((i+1:Nat):Int):=by rw [w64]<;>omega
  have m1:=X4O (a:=x) (b:=f.Step) 8 500 (by omega) (by omega) (by omega) (by omega)
  have m2:=X4O (a := -f.Half+(i:Int)) (b:=f.Step) 8 500 (by omega) (by omega) (by omega) (by omega)
  simp only [Xa,Xd,e1,cond_true]
  rw [w64 (x:=x*f.Step) (by omega) (by omega),w64 (x:=(-f.Half+(i:Int))*f.Step) (by omega) (by omega),hw]
  obtain ⟨m',hm',hc⟩:=X8H hg.fix hg.each hg.len hk hb1 ⟨x*f.Step,(-f.Half+(i:Int))*f.Step⟩ 0 0
  rw [hc]
  simp only [Option.bind_some]
  have hrow:Xr f x (-f.Half+(i:Int)) (X4 f-i)=⟨x*f.Step,(-f.Half+(i:Int))*f.Step⟩::Xr f x (-f.Half+((i+1:Nat):Int)) (X4 f-(i+1)):=by
   rw [show X4 f-i=(X4 f-(i+1))+1 by omega,Xr,show -f.Half+(i:Int)+1 = -f.Half+((i+1:Nat):Int) by push_cast;omega]
  rw [hrow] at hb3
  cases hat:(atN f l ⟨x*f.Step,(-f.Half+(i:Int))*f.Step⟩ 0 0).2
  ·simp only [cond_false,Option.bind_some,Sum.elim_inl]
   refine hR (m',b.2) ⟨hm',by simp only;omega,?_⟩
   rw [List.filter_cons_of_neg (by simp [hat])] at hb3
   exact hb3
  ·have e3:Nat.ble ((b.2.length+[(⟨x*f.Step,(-f.Half+(i:Int))*f.Step⟩:Zu)].length)*(16+1)) 200000000000000=true:=by
    apply Nat.ble_eq_true_of_le;simp only [List.length_cons,List.length_nil];have:=hh.2;omega
   simp only [cond_true,e3,Option.bind_some,Sum.elim_inl]
   refine hR (m',b.2++[⟨x*f.Step,(-f.Half+(i:Int))*f.Step⟩]) ⟨hm',by simp;omega,?_⟩
   rw [List.filter_cons_of_pos (by simp [hat])] at hb3
   rw [←hb3]
   simp

theorem X7D {f:ZJ} {l:List Zn} (hg:X7K f l) {kit:Nat→Nat} (hk:Kit f kit) {m:List (Zh×Int)} (hm:X1W f m) {γ:Type} (k:_→Option γ) (Q:Option γ→Prop)
  (hQ:∀ m',X1W f m'→Q (k (X1f f l,f,l,kit,m'))) :
  Q (Option.bind (XB (-f.Half,[],f,l,kit,m)) k):=by
 have hh:=hg.fix.half
 have hw0:(X4 f:Int)=2*f.Half+1:=by unfold X4;omega
 refine (X6F X9 k (X4 f) (fun i (b:List (Zh×Int)×List Zu)=>(-f.Half+i,b.2,f,l,kit,b.1)) (fun i b=>X1W f b.1∧b.2.length≤i*100∧b.2++((XG f (-f.Half+i) (X4 f-i)).filter fun p=>(atN f l p 0 0).2)=X1f f l) (fun _ _ r=>Q r) ?_ ?_ 0 (m,[]) (by omega) ⟨hm,by simp,by simp [X1f,X42]⟩) |> fun h=>by simpa [XB] using h
 ·intro b hb R
  have e1:decide (-f.Half+(X4 f:Int)≤f.Half)=false:=by simp;omega
  simp only [X9,Xc,e1,cond_false,Option.bind_some,Sum.elim_inr]
  have h3:=hb.2.2
  simp only [Nat.sub_self,XG,List.filter_nil,List.append_nil] at h3
  rw [h3]
  exact hQ _ hb.1
 ·intro i b hi hb R hR
  obtain ⟨hb1,hb2,hb3⟩:=hb
  have e1:decide (-f.Half+(i:Int)≤f.Half)=true:=by simp;omega
  have hw:IntKind.wrap .i64 (-f.Half+(i:Int)+1) = -f.Half+((i+1:Nat):Int):=by rw [w64]<;>omega
  have hw2:IntKind.wrap .i64 (0-f.Half) = -f.Half:=by rw [w64]<;>omega
  have hwl:X4 f≤17:=by omega
  simp only [X9,Xc,e1,cond_true,hw,hw2]
  rw [Option.bind_assoc]
  refine X7E hg hk _ (by omega) hb1 b.2 (by omega) _ Q fun m' hm' => ?_
  simp only [Option.bind_some,Sum.elim_inl]
  refine hR (m',_) ⟨hm',?_,?_⟩
  ·have:=List.length_filter_le (fun p=>(atN f l p 0 0).2) (Xr f (-f.Half+(i:Int)) (-f.Half) (X4 f))
   rw [X3S] at this
   simp only [List.length_append]
   omega
  ·rw [←hb3,show X4 f-i=(X4 f-(i+1))+1 by omega,XG,show -f.Half+(i:Int)+1 = -f.Half+((i+1:Nat):Int) by push_cast;omega]
   simp

theorem X7b {f:ZJ} {l:List Zn} (hg:X7K f l) {kit:Nat→Nat} (hk:Kit f kit) {m:List (Zh×Int)} (hm:X1W f m):∃ m',X1W f m'∧XI (f,l,kit,m)=some (f,l,kit,m',X1f f l):=by
 rw [X3b];unfold Xv
 have hh:=hg.fix.half
 have hw2:IntKind.wrap .i64 (0-f.Half) = -f.Half:=by rw [w64]<;>omega
 simp only [hw2]
 exact X7D hg hk hm _ (fun r=>∃ m',X1W f m'∧r=some (f,l,kit,m',X1f f l)) fun m' hm'=>⟨m',hm',rfl⟩

theorem X77 (f:ZJ) (l:List Zn):X5b f l=some (if (Wk f l).2=0 then (X1f f l,0) else ([],(Wk f l).2)):=by
 rw [X69];unfold X2l
 rcases X7u f l with ⟨_,he,h0⟩|⟨kit,hg,h8,hk,he⟩
 ·rw [he]
  simp [h0,WW h0]
 ·rw [he]
  simp only [Option.bind_some,Sum.elim_inr]
  by_cases h0:(Wk f l).2=0
  ·obtain ⟨m',_,hp⟩:=X7b (X3M h0) hk (X72 f)
   simp only [h0,bne_self_eq_false,cond_false,if_true,hp,Option.bind_some]
  ·simp [h0,WW h0]

def X4Y (b:ZB) (p:Zu):ZB:=⟨⟨if p.X<b.X.Lo then p.X else b.X.Lo,if p.X>b.X.Hi then p.X else b.X.Hi⟩,⟨if p.Y<b.Y.Lo then p.Y else b.Y.Lo,if p.Y>b.Y.Hi then p.Y else b.Y.Hi⟩⟩
def X4S:List Zu→ZB
 | []=>⟨⟨0,0⟩,⟨0,0⟩⟩
 | p::l=>(p::l).foldl X4Y ⟨⟨p.X,p.X⟩,⟨p.Y,p.Y⟩⟩

theorem X8f (l:List Zu) (hl:l.length<1000000) (b:ZB):X3G (↑l.length) l (0,b)=some (l.foldl X4Y b):=by
 refine (X64 (X1q (↑l.length) l) l.length (fun i (b:ZB)=>((i:Int),b)) (fun _ _=>True) (fun i b=>some ((l.drop i).foldl X4Y b)) ?_ ?_ 0 b (by omega) trivial).trans (by simp)
 ·intro b _ R
  simp [X1q,X1v]
 ·intro i b hi _ R hR
  rw [List.drop_eq_getElem_cons hi]
  have hw:IntKind.wrap .i64 ((i:Int)+1)=((i+1:Nat):Int):=by rw [w64]<;>omega
  have e1:decide ((i:Int)<↑l.length)=true:=by simp [hi]
  have e2:decide ((0:Int)≤↑i)=true:=by simp
  have e3:Nat.blt i l.length=true:=by rw [Tr.blt_dec];simpa using hi
  have hgr:(ZB.mk (ZE.mk (bif decide (l[i].X<b.X.Lo) then l[i].X else b.X.Lo) (bif decide (l[i].X>b.X.Hi) then l[i].X else b.X.Hi)) (ZE.mk (bif decide (l[i].Y<b.Y.Lo) then l[i].Y else b.Y.Lo) (bif decide (l[i].Y>b.Y.Hi) then l[i].Y else b.Y.Hi)))=X4Y b l[i]:=by
   unfold X4Y
   simp only [Bool.cond_decide]
  simp only [X1q,X1v,Int.toNat_natCast,X0 _ _ _ hi,hw,e1,e2,e3,Bool.and_self,cond_true,hgr,Option.bind_some,Sum.elim_inl,List.foldl_cons]
  exact hR _ trivial

theorem X6l {f:ZJ} (hg:X25 f) (l:List Zn):(X1f f l).length≤289:=by
 have hh:=hg.half
 have hw0:(X4 f:Int)=2*f.Half+1:=by unfold X4;omega
 have hw1:X4 f≤17:=by omega
 have:∀ (n:Nat) (x:Int),(XG f x n).length=n*X4 f:=fun n=>by
  induction n with
  | zero=>intro x;simp [XG]
  | succ n ih=>intro x;simp only [XG,List.length_append,X3S,ih,Nat.succ_mul];omega
 have h2:=List.length_filter_le (fun p=>(atN f l p 0 0).2) (X42 f)
 have h3:(X42 f).length=X4 f*X4 f:=this _ _
 have h4:X4 f*X4 f≤17*17:=Nat.mul_le_mul hw1 hw1
 unfold X1f
 omega

theorem X7o (f:ZJ) (l:List Zn):X62 f l=some (if (Wk f l).2=0 then (if (X1f f l).length=0 then (X4S [],9) else (X4S (X1f f l),0)) else (X4S [],(Wk f l).2)):=by
 rw [X6r];unfold X2K
 rcases X7u f l with ⟨_,he,h0⟩|⟨kit,hg,h8,hk,he⟩
 ·rw [he]
  simp [h0,WW h0,X4S]
 ·rw [he]
  simp only [Option.bind_some,Sum.elim_inr]
  by_cases h0:(Wk f l).2=0
  ·obtain ⟨m',_,hp⟩:=X7b (X3M h0) hk (X72 f)
   simp only [h0,bne_self_eq_false,cond_false,if_true,hp,Option.bind_some]
   have hln:=X6l hg l
   cases hpl:X1f f l with
   | nil=>simp [X4S]
   | cons q r =>
    rw [hpl] at hln
    have e0:(((q::r).length:Int)==0)=false:=by apply X5D;simp only [List.length_cons];omega
    have e1:decide ((0:Int)≤0)=true:=by simp
    have e2:decide ((0:Int)<((q::r).length:Int))=true:=by simp only [List.length_cons];simp
    have e3:Nat.blt (Int.toNat 0) (q::r).length=true:=by rw [Tr.blt_dec];simp
    simp only [e0,e1,e2,e3,cond_false,cond_true,Bool.and_self,X8f (q::r) (by omega)]
    simp [X4S]
  ·simp [h0,WW h0,X4S]

end Nore
open Go Go.Ab
namespace Nore

def inS (v:Int) (s:ZE):Prop:=s.Lo≤v∧v≤s.Hi
def X70 (f:ZJ) (p:Zu) (ib mb:Int) (s:Nat→ZE) (l:List Zn) (i:Nat) (v:Int):Prop :=
 inS v (s i)∧∀ x∈l,X3B f ib mb x=false→x.Instrument.toNat=i→(X2v f p x).2=true∧inS v (X2v f p x).1

theorem X76 (n a:ZE) (v:Int):inS v (X5a n a)↔inS v n∧inS v a:=by
 unfold inS X5a
 constructor
 ·rintro ⟨h1,h2⟩
  simp only at h1 h2
  split at h1<;>split at h2<;>omega
 ·rintro ⟨h1,h2⟩
  simp only
  constructor<;>split<;>omega

theorem X63 {f:ZJ} {p:Zu} {ib mb:Int} {s:Nat→ZE} {x:Zn} {l:List Zn} {i:Nat} {v:Int} :
  X70 f p ib mb s (x::l) i v↔X70 f p ib mb s l i v∧(X3B f ib mb x=false→x.Instrument.toNat=i→(X2v f p x).2=true∧inS v (X2v f p x).1):=by
 unfold X70
 constructor
 ·rintro ⟨h1,h2⟩
  exact ⟨⟨h1,fun y hy=>h2 y (by simp [hy])⟩,h2 x (by simp)⟩
 ·rintro ⟨⟨h1,h2⟩,h3⟩
  refine ⟨h1,fun y hy => ?_⟩
  rcases List.mem_cons.1 hy with e|e
  ·subst e;exact h3
  ·exact h2 y e

theorem X71 (f:ZJ) (p:Zu) (ib mb:Int):∀ (l:List Zn) (s:Nat→ZE),(∀ i,(s i).Lo≤(s i).Hi) →
  ((atL f p ib mb s l).2=true→(∀ i,((atL f p ib mb s l).1 i).Lo≤((atL f p ib mb s l).1 i).Hi)∧∀ i v,inS v ((atL f p ib mb s l).1 i)↔X70 f p ib mb s l i v) ∧
  ((atL f p ib mb s l).2=false→∃ x∈l,X3B f ib mb x=false∧∀ v,¬ X70 f p ib mb s l x.Instrument.toNat v)
 | [],s,hs=>by
  simp only [atL]
  exact ⟨fun _=>⟨hs,fun i v=>by simp [X70]⟩,fun h=>by cases h⟩
 | x::l,s,hs=>by
  simp only [atL]
  by_cases hk:X3B f ib mb x=true
  ·rw [if_pos hk]
   obtain ⟨h1,h2⟩:=X71 f p ib mb l s hs
   refine ⟨fun h=>⟨(h1 h).1,fun i v => ?_⟩,fun h => ?_⟩
   ·rw [(h1 h).2 i v,X63]
    simp [hk]
   ·obtain ⟨y,hy,hy2,hy3⟩:=h2 h
    refine ⟨y,by simp [hy],hy2,fun v hv=>hy3 v ?_⟩
    exact (X63.1 hv).1
  ·rw [if_neg hk]
   have hk':X3B f ib mb x=false:=by simpa using hk
   by_cases hc:(X2v f p x).2=false∨(X5a (X2v f p x).1 (s x.Instrument.toNat)).Lo>(X5a (X2v f p x).1 (s x.Instrument.toNat)).Hi
   ·rw [if_pos hc]
    refine ⟨fun h=>(by cases h),fun _=>⟨x,by simp,hk',fun v hv => ?_⟩⟩
    obtain ⟨h1,h2⟩:=X63.1 hv
    obtain ⟨h3,h4⟩:=h2 hk' rfl
    rcases hc with hc|hc
    ·rw [hc] at h3;cases h3
    ·have:=(X76 (X2v f p x).1 (s x.Instrument.toNat) v).2 ⟨h4,h1.1⟩
     unfold inS at this;omega
   ·rw [if_neg hc]
    have hc1:(X2v f p x).2=true:=by
     cases h:(X2v f p x).2
     ·exact absurd (.inl h) hc
     ·rfl
    have hc2:(X5a (X2v f p x).1 (s x.Instrument.toNat)).Lo≤(X5a (X2v f p x).1 (s x.Instrument.toNat)).Hi:=Int.not_lt.1 fun q=>hc (.inr q)
    obtain ⟨h1,h2⟩:=X71 f p ib mb l (fun j=>if j=x.Instrument.toNat then X5a (X2v f p x).1 (s x.Instrument.toNat) else s j) (fun i=>by
     by_cases e:i=x.Instrument.toNat
     ·simp only [e,if_true];exact hc2
     ·simp only [e,if_false];exact hs i)
    have key:∀ i v,X70 f p ib mb (fun j=>if j=x.Instrument.toNat then X5a (X2v f p x).1 (s x.Instrument.toNat) else s j) l i v↔X70 f p ib mb s (x::l) i v:=fun i v=>by
     rw [X63]
     unfold X70
     by_cases e:i=x.Instrument.toNat
     ·subst e
      simp only [if_true,X76,hk',hc1,true_and,forall_const]
      constructor
      ·rintro ⟨⟨a,b⟩,c⟩;exact ⟨⟨b,c⟩,a⟩
      ·rintro ⟨⟨b,c⟩,a⟩;exact ⟨⟨a,b⟩,c⟩
     ·simp only [e,if_false,hk',forall_const]
      constructor
      ·rintro ⟨a,b⟩;exact ⟨⟨a,b⟩,fun q=>absurd q.symm e⟩
      ·rintro ⟨⟨a,b⟩,_⟩;exact ⟨a,b⟩
    refine ⟨fun h=>⟨(h1 h).1,fun i v=>((h1 h).2 i v).trans (key i v)⟩,fun h => ?_⟩
    obtain ⟨y,hy,hy2,hy3⟩:=h2 h
    exact ⟨y,by simp [hy],hy2,fun v hv=>hy3 v ((key _ v).2 hv)⟩

theorem X7Y {f:ZJ} (hg:X25 f) (i:Nat):(X7 f i).Lo≤(X7 f i).Hi:=by
 unfold X7
 split
 ·rename_i h
  exact (hg.off _ (List.getElem_mem h)).2.1
 ·simp

def Num (f:ZJ) (l:List Zn) (p:Zu) (ib mb:Int) (i:Nat) (v:Int):Prop:=X70 f p ib mb (X7 f) l i v

theorem X8I {f:ZJ} (hg:X25 f) (l:List Zn) (p:Zu) (ib mb:Int):(atN f l p ib mb).2=true↔∀ i,∃ v,Num f l p ib mb i v:=by
 obtain ⟨h1,h2⟩:=X71 f p ib mb l (X7 f) (X7Y hg)
 unfold atN
 constructor
 ·intro h i
  obtain ⟨h3,h4⟩:=h1 h
  exact ⟨_,(h4 i ((atL f p ib mb (X7 f) l).1 i).Lo).1 ⟨Int.le_refl _,h3 i⟩⟩
 ·intro h
  cases hb:(atL f p ib mb (X7 f) l).2
  ·obtain ⟨x,_,_,h3⟩:=h2 hb
   obtain ⟨v,hv⟩:=h x.Instrument.toNat
   exact absurd hv (h3 v)
  ·rfl
end Nore
open Go Go.Ab
namespace Nore

def X8C:Nat→List Nat→List (List Nat)
 | 0,_=>[[]]
 | _+1,[]=>[]
 | n+1,t::l=>(X8C n l).map (t :: ·)++X8C (n+1) l

def X8v (ok:List Nat→Bool) (l:List Nat):Nat→Nat→Option (List Nat)
 | _,0=>none
 | n,k+1=>match (X8C n l).find? ok with
  | some s=>some s
  | none=>X8v ok l (n+1) k

def X8y (f:ZJ):Nat:=f.Chart.Marks.length
def X8N (f:ZJ) (s:List Nat) (x:Zn):Bool := !(s.contains (X8y f+x.Instrument.toNat))&&((X1j f x.Instrument).Lead || !(s.contains x.Mark.toNat))
def X8O (f:ZJ) (l:List Zn) (s:List Nat):List Zn:=l.filter (X8N f s)
def X8P (f:ZJ) (l:List Zn) (t:Nat):Bool:=l.any fun x=>decide (X8y f+x.Instrument.toNat=t)||(!(X1j f x.Instrument).Lead&&decide (x.Mark.toNat=t))
def X8D (f:ZJ) (l:List Zn):List Nat:=(List.range (X8y f+f.Instruments.length)).filter (X8P f l)
def okW (f:ZJ) (l:List Zn) (s:List Nat):Bool := !(X1f f (X8O f l s)).isEmpty
structure X8Q (f:ZJ) (l:List Zn) (s:List Nat):Prop where
 ok:okW f l s=true
 sub:s.Sublist (X8D f l)
 least:∀ r,r.Sublist (X8D f l)→okW f l r=true→s.length≤r.length
 first:X8v (okW f l) (X8D f l) 0 (f.Instruments.length+1)=some s
end Nore
open Go Go.Ab
namespace Nore

theorem X7R {f:ZJ} {x:Zn} (h:X1k f x=0):((x.Instrument.toNat:Nat):Int)=x.Instrument∧x.Instrument.toNat<f.Instruments.length:=by
 obtain ⟨⟨h1,h2⟩,_⟩:=X56 h;omega
theorem X8z {f:ZJ} {x:Zn} (h:X1k f x=0) (hL:(X1j f x.Instrument).Lead=false):((x.Mark.toNat:Nat):Int)=x.Mark∧x.Mark.toNat<f.Chart.Marks.length:=by
 obtain ⟨_,_,h3⟩:=X56 h;have:=h3 hL;omega

theorem X8s (f:ZJ) (x:Zn):X3B f 0 0 x=false:=by unfold X3B;simp [X8j]
end Nore
open Go Go.Ab
namespace Nore

end Nore
open Go Go.Ab
namespace Nore

abbrev PSt:=Int×Bool×ZJ×List Zn×(Nat→Nat)×Int×List (Zh×Int)
end Nore
open Go Go.Ab
namespace Nore

theorem X3u {β σ ω:Type} (st:σ→Option (σ⊕ω)) (n:Nat) (emb:Nat→β→σ) (P:Nat→β→Prop) (Q:ω→Prop)
  (hd:∀ b,P n b→∃ w,st (emb n b)=some (.inr w)∧Q w)
  (hn:∀ i b,i<n→P i b→(∃ w,st (emb i b)=some (.inr w)∧Q w)∨∃ b',st (emb i b)=some (.inl (emb (i+1) b'))∧P (i+1) b') :
  ∀ i b,i≤n→P i b→∃ w,Z8S st (emb i b)=some w∧Q w:=by
 intro i b hi hP
 induction hj:n-i generalizing i b with
 | zero =>
  have:i=n:=by omega
  subst this
  obtain ⟨w,h1,h2⟩:=hd b hP
  exact ⟨w,by rw [ZgX,h1];rfl,h2⟩
 | succ j ih =>
  rcases hn i b (by omega) hP with ⟨w,h1,h2⟩|⟨b',h1,h2⟩
  ·exact ⟨w,by rw [ZgX,h1];rfl,h2⟩
  ·obtain ⟨w,h3,h4⟩:=ih (i+1) b' (by omega) h2 (by omega)
   exact ⟨w,by rw [ZgX,h1];exact h3,h4⟩
theorem X8F {α β:Type} (st:Int×List β→Option ((Int×List β)⊕List β)) (l:List α) (g:α→List β) (c:Nat) (hc:∀ x∈l,(g x).length≤c)
  (hd:∀ b,st ((l.length:Int),b)=some (.inr b))
  (hn:∀ i b,(h:i<l.length)→b.length≤i*c→st ((i:Int),b)=some (.inl (((i+1:Nat):Int),b++g l[i]))):Z8S st (0,[])=some (l.flatMap g):=by
 obtain ⟨w,h1,h2⟩:=X3u st l.length (fun i (b:List β)=>((i:Int),b)) (fun i b=>b.length≤i*c∧b++(l.drop i).flatMap g=l.flatMap g) (fun w=>w=l.flatMap g)
  (fun b hb=>⟨b,hd b,by have:=hb.2;simpa using this⟩)
  (fun i b hi hb => .inr ⟨_,hn i b hi hb.1,by
   have h1:=hb.1
   have:=hc _ (List.getElem_mem hi)
   rw [List.length_append,Nat.succ_mul];omega,by
   rw [←hb.2,List.drop_eq_getElem_cons hi];simp only [List.flatMap_cons,List.append_assoc]⟩) 0 [] (by omega) ⟨by simp,by simp⟩
 exact h1.trans (by rw [h2])

theorem X6H {α β:Type} (q:α→Bool) (g:α→β):∀ (l:List α),(l.flatMap fun a=>if q a then [g a] else [])=(l.filter q).map g
 | []=>rfl
 | a::l=>by
  rw [List.flatMap_cons,X6H q g l,List.filter_cons]
  cases h:q a<;>simp

end Nore
open Go Go.Ab
namespace Nore

end Nore
open Go Go.Ab
namespace Nore

end Nore
open Go Go.Ab Go.Proofs.YtehofdemanfenaaGreat
namespace Nore

theorem X80 (l:List Zu) (hl:l.length<1000000):X3o l l=some true:=by
 unfold X3o
 obtain ⟨w,h1,h2⟩:=X3u (XX l l) l.length (fun i (_:Unit)=>(i:Int)) (fun _ _=>True) (fun w=>w = .inr ())
  (fun _ _=>⟨.inr (),by simp [XX,Wa],rfl⟩)
  (fun i _ hi _=>by
   right
   refine ⟨(),?_,trivial⟩
   have hw:IntKind.wrap .i64 ((i:Int)+1)=((i+1:Nat):Int):=by rw [w64]<;>omega
   have e1:decide ((i:Int)<↑l.length)=true:=by simp [hi]
   have e2:decide ((0:Int)≤↑i)=true:=by simp
   simp only [XX,Wa,Int.toNat_natCast,hw,e1,e2,Bool.and_self,cond_true,beq_self_eq_true,Bool.not_true,cond_false]) 0 () (by omega) trivial
 subst h2
 have h1':X2F l l 0=some (.inr ()):=h1
 rw [h1'];simp
end Nore
open Go Go.Ab
namespace Nore

def X47 (p:Nat):Zu:=⟨Geo.vx p,Geo.vy p⟩
theorem X8i:∀ p,p<32 → -1000≤Geo.vx p∧Geo.vx p≤1000 ∧ -1000≤Geo.vy p∧Geo.vy p≤1000:=by decide
theorem X8K {a:Int} (h : -1000000≤a∧a≤1000000):IntKind.wrap .i64 (0-a) = -a:=by rw [w64]<;>omega

theorem X8J (q:Nat):∀ p,p<32→p / 8=q→(∀ n r,Z8p X8 n ((p:Int),())=some r→r=X47 p)∧(∃ n r,Z8p X8 n ((p:Int),())=some r):=by
 have base:∀ p:Nat,p<8→∀ n,Z8p X8 (n+1) ((p:Int),())=some (X47 p):=fun p hp n=>by
  have e:∀ p,p<8→(List.getD [Zu.mk 0 1000,Zu.mk 195 981,Zu.mk 383 924,Zu.mk 556 831,Zu.mk 707 707,Zu.mk 831 556,Zu.mk 924 383,Zu.mk 981 195] p (Zu.mk 0 0)).X=Geo.vx p∧(List.getD [Zu.mk 0 1000,Zu.mk 195 981,Zu.mk 383 924,Zu.mk 556 831,Zu.mk 707 707,Zu.mk 831 556,Zu.mk 924 383,Zu.mk 981 195] p (Zu.mk 0 0)).Y=Geo.vy p:=by decide
  have e':=e p hp
  simp only [Z8p,X8,X2h,Int.toNat_natCast]
  have h1:decide ((p:Int)≥8)=false:=by simp;omega
  rw [h1]
  generalize List.getD _ p _=g at *
  have h2:decide ((0:Int)≤(p:Int))=true:=by simp
  have h3:decide ((p:Int)<((8:Nat):Int))=true:=by simp;omega
  have h4:Nat.blt p 8=true:=by simp [Nat.blt,Nat.ble_eq];omega
  simp only [cond_false,List.length_cons,List.length_nil,Nat.zero_add,Nat.reduceAdd]
  rw [h2,h3,h4]
  simp only [Bool.and_self,cond_true,X47,Option.some.injEq]
  cases g
  simp only [Zu.mk.injEq]
  exact e'
 induction q with
 | zero =>
  intro p hp hq
  have hp8:p<8:=by omega
  refine ⟨fun n r h => ?_,⟨1,_,base p hp8 0⟩⟩
  cases n with
  | zero=>simp [Z8p] at h
  | succ n=>rw [base p hp8 n] at h;exact (Option.some.inj h).symm
 | succ q ih =>
  intro p hp hq
  obtain ⟨i1,m,s,i2⟩:=ih (p-8) (by omega) (by omega)
  have hstep:∀ n,Z8p X8 (n+1) ((p:Int),())=Option.bind (Z8p X8 n (((p-8:Nat):Int),())) fun v=>some ⟨v.Y,IntKind.wrap .i64 (0-v.X)⟩:=fun n=>by
   simp only [Z8p,X8,X2h]
   have h1:decide ((p:Int)≥8)=true:=by simp;omega
   have h2:IntKind.wrap .i64 ((p:Int)-8)=((p-8:Nat):Int):=by rw [w64]<;>omega
   rw [h1,h2]
   rfl
  have tt:(⟨(X47 (p-8)).Y,-(X47 (p-8)).X⟩:Zu)=X47 p:=by
   have e:∀ p,p<24→Geo.vy p=Geo.vx (p+8) ∧ - Geo.vx p=Geo.vy (p+8):=by decide
   have e':=e (p-8) (by omega)
   rw [show p-8+8=p by omega] at e'
   simp only [X47,Zu.mk.injEq]
   exact e'
  have bd:=X8i (p-8) (by omega)
  have wv:IntKind.wrap .i64 (0-(X47 (p-8)).X) = - (X47 (p-8)).X:=X8K (by simp only [X47];omega)
  refine ⟨fun n r h => ?_,⟨m+1,X47 p,?_⟩⟩
  ·cases n with
   | zero=>simp [Z8p] at h
   | succ n =>
    rw [hstep] at h
    cases hr:Z8p X8 n (((p-8:Nat):Int),()) with
    | none=>rw [hr] at h;simp at h
    | some v =>
     rw [hr] at h
     have:=i1 n v hr
     subst this
     simp only [Option.bind_some,Option.some.injEq] at h
     rw [←h,wv,tt]
  ·rw [hstep,i2]
   have:=i1 m s i2
   subst this
   simp only [Option.bind_some,wv,tt]

theorem X2g (p:Nat) (hp:p<32):X3H (p:Int)=some (X47 p):=by
 obtain ⟨h1,h2⟩:=X8J (p / 8) p hp rfl
 exact Zhk h1 h2

theorem X7z (p:Nat) (hp:p<32) (v:Zu) (hv:Bd 60000 v):IntKind.wrap .i64 (IntKind.wrap .i64 ((X47 p).X*v.Y)-IntKind.wrap .i64 ((X47 p).Y*v.X))=Geo.crs p v.X v.Y:=by
 have bd:=X8i p hp
 unfold Bd at hv
 rw [X89 2000000 rfl (by simp only [X47];omega) (by omega) (by simp only [X47];omega) (by omega)]
 rfl

theorem X6C (v:Zu) (hv:Bd 60000 v) (h0:v.X≠0∨v.Y≠0):X2w v=some ((Geo.tow v.X v.Y:Nat):Int):=by
 have ht:=Geo.tow_spec h0
 unfold X2w
 have key:=X5 (XZ v) (fun o224=>some o224) (Geo.tow v.X v.Y) (fun i (_:Unit)=>(i:Int)) (fun _ _=>True) (fun _ _=>some ((Geo.tow v.X v.Y:Nat):Int))
  (by
   intro b _ R
   simp only [XZ,Wc]
   generalize ht':Geo.tow v.X v.Y=t at *
   have hw:IntKind.wrap .i64 ((t:Int)+1)=((t+1:Nat):Int):=by rw [w64]<;>omega
   have hm:Int.tmod ((t+1:Nat):Int) 32=(((t+1) % 32:Nat):Int):=rfl
   rw [hw,hm,X2g _ ht.1,X2g _ (by omega)]
   simp only [Option.bind_some]
   rw [X7z _ ht.1 v hv,X7z _ (by omega) v hv]
   have a1:decide (Geo.crs t v.X v.Y>0)=false:=by simpa using ht.2.1
   have a2:decide (Geo.crs ((t+1) % 32) v.X v.Y≤0)=false:=by simpa using ht.2.2
   simp [a1,a2])
  (by
   intro i b hi _ R hR
   have hR':=hR () trivial
   simp only [XZ,Wc]
   have hi32:i<32:=by omega
   have hw:IntKind.wrap .i64 ((i:Int)+1)=((i+1:Nat):Int):=by rw [w64]<;>omega
   have hm:Int.tmod ((i+1:Nat):Int) 32=(((i+1) % 32:Nat):Int):=rfl
   rw [hw,hm,X2g _ hi32,X2g _ (by omega)]
   simp only [Option.bind_some]
   rw [X7z _ hi32 v hv,X7z _ (by omega) v hv]
   by_cases a1:Geo.crs i v.X v.Y>0
   ·simp [a1];simpa using hR'
   ·by_cases a2:Geo.crs ((i+1) % 32) v.X v.Y≤0
    ·simp [a1,a2];simpa using hR'
    ·exfalso
     have:Geo.Tow i v.X v.Y:=⟨by omega,by omega⟩
     have:=Geo.tow_eq hi32 this
     omega)
 exact key 0 () (by omega) trivial


theorem X60 {X Y:Int} (hx:0≤X) (hy:0<Y):Geo.tow X Y+1=X6h ⟨X,Y⟩ X6∧1≤X6h ⟨X,Y⟩ X6∧X6h ⟨X,Y⟩ X6≤8:=by
 unfold X6h X6
 have c0:Geo.crs 0 X Y=0*Y-1000*X:=rfl
 have c1:Geo.crs 1 X Y=195*Y-981*X:=rfl
 have c2:Geo.crs 2 X Y=383*Y-924*X:=rfl
 have c3:Geo.crs 3 X Y=556*Y-831*X:=rfl
 have c4:Geo.crs 4 X Y=707*Y-707*X:=rfl
 have c5:Geo.crs 5 X Y=831*Y-556*X:=rfl
 have c6:Geo.crs 6 X Y=924*Y-383*X:=rfl
 have c7:Geo.crs 7 X Y=981*Y-195*X:=rfl
 have c8:Geo.crs 8 X Y=1000*Y-0*X:=rfl
 by_cases h1:195*Y-981*X≤0
 rotate_left
 ·have ht:Geo.tow X Y=0:=Geo.tow_eq (by omega) ⟨by omega,by show Geo.crs 1 X Y>0;omega⟩
  have d0:decide ((0:Int)*Y-1000*X≤0)=true:=by simp;omega
  have d1:decide ((195:Int)*Y-981*X≤0)=false:=by simp;omega
  have d2:decide ((383:Int)*Y-924*X≤0)=false:=by simp;omega
  have d3:decide ((556:Int)*Y-831*X≤0)=false:=by simp;omega
  have d4:decide ((707:Int)*Y-707*X≤0)=false:=by simp;omega
  have d5:decide ((831:Int)*Y-556*X≤0)=false:=by simp;omega
  have d6:decide ((924:Int)*Y-383*X≤0)=false:=by simp;omega
  have d7:decide ((981:Int)*Y-195*X≤0)=false:=by simp;omega
  rw [ht]
  simp [List.countP_cons,d0,d1,d2,d3,d4,d5,d6,d7,show 0≤1000*X by omega]
 by_cases h2:383*Y-924*X≤0
 rotate_left
 ·have ht:Geo.tow X Y=1:=Geo.tow_eq (by omega) ⟨by omega,by show Geo.crs 2 X Y>0;omega⟩
  have d0:decide ((0:Int)*Y-1000*X≤0)=true:=by simp;omega
  have d1:decide ((195:Int)*Y-981*X≤0)=true:=by simp;omega
  have d2:decide ((383:Int)*Y-924*X≤0)=false:=by simp;omega
  have d3:decide ((556:Int)*Y-831*X≤0)=false:=by simp;omega
  have d4:decide ((707:Int)*Y-707*X≤0)=false:=by simp;omega
  have d5:decide ((831:Int)*Y-556*X≤0)=false:=by simp;omega
  have d6:decide ((924:Int)*Y-383*X≤0)=false:=by simp;omega
  have d7:decide ((981:Int)*Y-195*X≤0)=false:=by simp;omega
  rw [ht]
  simp [List.countP_cons,d0,d1,d2,d3,d4,d5,d6,d7,show 0≤1000*X by omega]
 by_cases h3:556*Y-831*X≤0
 rotate_left
 ·have ht:Geo.tow X Y=2:=Geo.tow_eq (by omega) ⟨by omega,by show Geo.crs 3 X Y>0;omega⟩
  have d0:decide ((0:Int)*Y-1000*X≤0)=true:=by simp;omega
  have d1:decide ((195:Int)*Y-981*X≤0)=true:=by simp;omega
  have d2:decide ((383:Int)*Y-924*X≤0)=true:=by simp;omega
  have d3:decide ((556:Int)*Y-831*X≤0)=false:=by simp;omega
  have d4:decide ((707:Int)*Y-707*X≤0)=false:=by simp;omega
  have d5:decide ((831:Int)*Y-556*X≤0)=false:=by simp;omega
  have d6:decide ((924:Int)*Y-383*X≤0)=false:=by simp;omega
  have d7:decide ((981:Int)*Y-195*X≤0)=false:=by simp;omega
  rw [ht]
  simp [List.countP_cons,d0,d1,d2,d3,d4,d5,d6,d7,show 0≤1000*X by omega]
 by_cases h4:707*Y-707*X≤0
 rotate_left
 ·have ht:Geo.tow X Y=3:=Geo.tow_eq (by omega) ⟨by omega,by show Geo.crs 4 X Y>0;omega⟩
  have d0:decide ((0:Int)*Y-1000*X≤0)=true:=by simp;omega
  have d1:decide ((195:Int)*Y-981*X≤0)=true:=by simp;omega
  have d2:decide ((383:Int)*Y-924*X≤0)=true:=by simp;omega
  have d3:decide ((556:Int)*Y-831*X≤0)=true:=by simp;omega
  have d4:decide ((707:Int)*Y-707*X≤0)=false:=by simp;omega
  have d5:decide ((831:Int)*Y-556*X≤0)=false:=by simp;omega
  have d6:decide ((924:Int)*Y-383*X≤0)=false:=by simp;omega
  have d7:decide ((981:Int)*Y-195*X≤0)=false:=by simp;omega
  rw [ht]
  simp [List.countP_cons,d0,d1,d2,d3,d4,d5,d6,d7,show 0≤1000*X by omega]
 by_cases h5:831*Y-556*X≤0
 rotate_left
 ·have ht:Geo.tow X Y=4:=Geo.tow_eq (by omega) ⟨by omega,by show Geo.crs 5 X Y>0;omega⟩
  have d0:decide ((0:Int)*Y-1000*X≤0)=true:=by simp;omega
  have d1:decide ((195:Int)*Y-981*X≤0)=true:=by simp;omega
  have d2:decide ((383:Int)*Y-924*X≤0)=true:=by simp;omega
  have d3:decide ((556:Int)*Y-831*X≤0)=true:=by simp;omega
  have d4:decide ((707:Int)*Y-707*X≤0)=true:=by simp;omega
  have d5:decide ((831:Int)*Y-556*X≤0)=false:=by simp;omega
  have d6:decide ((924:Int)*Y-383*X≤0)=false:=by simp;omega
  have d7:decide ((981:Int)*Y-195*X≤0)=false:=by simp;omega
  rw [ht]
  simp [List.countP_cons,d0,d1,d2,d3,d4,d5,d6,d7,show 0≤1000*X by omega]
 by_cases h6:924*Y-383*X≤0
 rotate_left
 ·have ht:Geo.tow X Y=5:=Geo.tow_eq (by omega) ⟨by omega,by show Geo.crs 6 X Y>0;omega⟩
  have d0:decide ((0:Int)*Y-1000*X≤0)=true:=by simp;omega
  have d1:decide ((195:Int)*Y-981*X≤0)=true:=by simp;omega
  have d2:decide ((383:Int)*Y-924*X≤0)=true:=by simp;omega
  have d3:decide ((556:Int)*Y-831*X≤0)=true:=by simp;omega
  have d4:decide ((707:Int)*Y-707*X≤0)=true:=by simp;omega
  have d5:decide ((831:Int)*Y-556*X≤0)=true:=by simp;omega
  have d6:decide ((924:Int)*Y-383*X≤0)=false:=by simp;omega
  have d7:decide ((981:Int)*Y-195*X≤0)=false:=by simp;omega
  rw [ht]
  simp [List.countP_cons,d0,d1,d2,d3,d4,d5,d6,d7,show 0≤1000*X by omega]
 by_cases h7:981*Y-195*X≤0
 rotate_left
 ·have ht:Geo.tow X Y=6:=Geo.tow_eq (by omega) ⟨by omega,by show Geo.crs 7 X Y>0;omega⟩
  have d0:decide ((0:Int)*Y-1000*X≤0)=true:=by simp;omega
  have d1:decide ((195:Int)*Y-981*X≤0)=true:=by simp;omega
  have d2:decide ((383:Int)*Y-924*X≤0)=true:=by simp;omega
  have d3:decide ((556:Int)*Y-831*X≤0)=true:=by simp;omega
  have d4:decide ((707:Int)*Y-707*X≤0)=true:=by simp;omega
  have d5:decide ((831:Int)*Y-556*X≤0)=true:=by simp;omega
  have d6:decide ((924:Int)*Y-383*X≤0)=true:=by simp;omega
  have d7:decide ((981:Int)*Y-195*X≤0)=false:=by simp;omega
  rw [ht]
  simp [List.countP_cons,d0,d1,d2,d3,d4,d5,d6,d7,show 0≤1000*X by omega]
 have ht:Geo.tow X Y=7:=Geo.tow_eq (by omega) ⟨by omega,by show Geo.crs 8 X Y>0;omega⟩
 have d0:decide ((0:Int)*Y-1000*X≤0)=true:=by simp;omega
 have d1:decide ((195:Int)*Y-981*X≤0)=true:=by simp;omega
 have d2:decide ((383:Int)*Y-924*X≤0)=true:=by simp;omega
 have d3:decide ((556:Int)*Y-831*X≤0)=true:=by simp;omega
 have d4:decide ((707:Int)*Y-707*X≤0)=true:=by simp;omega
 have d5:decide ((831:Int)*Y-556*X≤0)=true:=by simp;omega
 have d6:decide ((924:Int)*Y-383*X≤0)=true:=by simp;omega
 have d7:decide ((981:Int)*Y-195*X≤0)=true:=by simp;omega
 rw [ht]
 simp [List.countP_cons,d0,d1,d2,d3,d4,d5,d6,d7,show 0≤1000*X by omega]

theorem X7J:∀ t,t<32→Geo.vx ((t+8) % 32)=Geo.vy t∧Geo.vy ((t+8) % 32) = - Geo.vx t:=by decide
theorem X6n (t:Nat) (ht:t<32) (X Y:Int):Geo.crs ((t+8) % 32) Y (-X)=Geo.crs t X Y:=by
 have h:=X7J t ht
 unfold Geo.crs
 rw [h.1,h.2]
 rw [Int.mul_neg,Int.neg_mul]
 omega
theorem X2A {X Y:Int} (h:X≠0∨Y≠0):Geo.tow Y (-X)=(Geo.tow X Y+8) % 32:=by
 obtain ⟨h1,h2,h3⟩:=Geo.tow_spec h
 generalize Geo.tow X Y=t at *
 apply Geo.tow_eq (by omega)
 refine ⟨?_,?_⟩
 ·rw [X6n t h1];exact h2
 ·rw [show ((t+8) % 32+1) % 32=((t+1) % 32+8) % 32 by omega,X6n _ (by omega)];exact h3
theorem X8q {v:Zu} (hb : -60000≤v.X∧v.X≤60000 ∧ -60000≤v.Y∧v.Y≤60000) (h0:¬ (v.X=0∧v.Y=0)):X4r v=((Geo.tow v.X v.Y:Nat):Int):=by
 unfold X4r X4s
 by_cases c1:0≤v.X∧0<v.Y
 ·rw [if_pos c1]
  have h:=X60 c1.1 c1.2
  have he:X6h ⟨v.X,v.Y⟩ X6=X6h v X6:=rfl
  rw [he] at h
  simp only
  omega
 ·rw [if_neg c1]
  by_cases c2:0<v.X∧v.Y≤0
  ·rw [if_pos c2]
   have h1:=X60 (X := -v.Y) (Y:=v.X) (by omega) c2.1
   have h2:=X2A (X := -v.Y) (Y:=v.X) (by omega)
   rw [Int.neg_neg] at h2
   simp only
   omega
  ·rw [if_neg c2]
   by_cases c3:v.X≤0∧v.Y<0
   ·rw [if_pos c3]
    have h1:=X60 (X := -v.X) (Y := -v.Y) (by omega) (by omega)
    have h2:=X2A (X := -v.X) (Y := -v.Y) (by omega)
    have h3:=X2A (X := -v.Y) (Y:=v.X) (by omega)
    rw [Int.neg_neg] at h2 h3
    simp only
    omega
   ·rw [if_neg c3]
    have h1:=X60 (X:=v.Y) (Y := -v.X) (by omega) (by omega)
    have h2:=X2A (X:=v.Y) (Y := -v.X) (by omega)
    have h3:=X2A (X := -v.X) (Y := -v.Y) (by omega)
    have h4:=X2A (X := -v.Y) (Y:=v.X) (by omega)
    rw [Int.neg_neg] at h3 h4
    simp only
    omega
theorem X6D {v:Zu} (hb : -60000≤v.X∧v.X≤60000 ∧ -60000≤v.Y∧v.Y≤60000) (h0:¬ (v.X=0∧v.Y=0)):X2w v=some (X4r v):=by
 rw [X6C v (by unfold Bd;omega) (by omega),X8q hb h0]
end Nore
open Go Go.Ab
namespace Nore

theorem X84 {f:ZJ} (hA:f.Areas.length≤6) (p:Zu):∃ k:Int,X49 f p=some k∧((k<0∧X6g f p=none)∨(0≤k∧k.toNat<f.Areas.length∧X6g f p=some (f.Areas.getD k.toNat ⟨⟨0,0⟩,⟨0,0⟩,⟨0,0⟩,0⟩))):=by
 rw [X5t];unfold X1R
 obtain ⟨w,h1,h2⟩:=X3u (W2 p f) f.Areas.length (fun i (_:Unit)=>(i:Int)) (fun i _=>X6g f p=(f.Areas.drop i).find? fun a=>X3Y a p)
  (fun w=>(w = .inr ()∧X6g f p=none)∨∃ k:Nat,k<f.Areas.length∧w = .inl (k:Int)∧X6g f p=some (f.Areas.getD k ⟨⟨0,0⟩,⟨0,0⟩,⟨0,0⟩,0⟩))
  (fun _ hb=>⟨.inr (),by simp [W2,We],.inl ⟨rfl,by simpa using hb⟩⟩)
  (fun i _ hi hb=>by
   have hw:IntKind.wrap .i64 ((i:Int)+1)=((i+1:Nat):Int):=by rw [w64]<;>omega
   have e1:decide ((i:Int)<↑f.Areas.length)=true:=by simp [hi]
   have e2:decide ((0:Int)≤↑i)=true:=by simp
   obtain ⟨a,ha⟩:∃ a,f.Areas[i]=a:=⟨_,rfl⟩
   have hgd:f.Areas.getD i ⟨⟨0,0⟩,⟨0,0⟩,⟨0,0⟩,0⟩=a:=(X0 _ _ _ hi).trans ha
   rw [List.drop_eq_getElem_cons hi,ha,List.find?_cons] at hb
   have hin:X3Y a p=(inN p.X a.X.Lo a.X.Hi&&inN p.Y a.Y.Lo a.Y.Hi):=by
    unfold X3Y inN
    rw [Bool.eq_iff_iff]
    simp<;>omega
   simp only [W2,We,Int.toNat_natCast,hgd,hw,e1,e2,Bool.and_self,cond_true,Xq,Option.bind_some]
   cases c1:inN p.X a.X.Lo a.X.Hi
   ·right
    rw [hin,c1] at hb
    exact ⟨(),rfl,by simpa using hb⟩
   ·simp only [cond_true]
    cases c2:inN p.Y a.Y.Lo a.Y.Hi
    ·right
     rw [hin,c1,c2] at hb
     exact ⟨(),rfl,by simpa using hb⟩
    ·left
     rw [hin,c1,c2] at hb
     exact ⟨_,rfl,.inr ⟨i,hi,rfl,by rw [hgd];simpa using hb⟩⟩) 0 () (by omega) rfl
 have h1':X2G p f 0=some w:=h1
 rw [h1']
 simp only [Option.bind_some]
 rcases h2 with ⟨h3,h4⟩|⟨k,h3,h4,h5⟩
 ·subst h3
  exact ⟨-1,rfl,.inl ⟨by omega,h4⟩⟩
 ·subst h4
  exact ⟨(k:Int),rfl,.inr ⟨by omega,by simpa using h3,by simpa using h5⟩⟩

def X6f (f:ZJ) (x:Zn) (p:Zu) (v:Int):Bool:=(X2v f p x).2&&(decide ((X2v f p x).1.Lo≤v)&&decide (v≤(X2v f p x).1.Hi))
theorem X83 {f:ZJ} (hg:X25 f) {x:Zn} (hx:X1k f x=0) {p:Zu} (hp:Bd 30000 p) {v:Int} (hv : -X3D (X1j f x.Instrument)≤v∧v≤X3D (X1j f x.Instrument)):X3q f x p v=some (X6f f x p v):=by
 rw [X5r];unfold X1Q X6f X2v
 obtain ⟨h1,h2,h3⟩:=X56 hx
 have i1:decide (0≤x.Instrument)=true:=by simp;omega
 have i2:decide (x.Instrument<(↑f.Instruments.length:Int))=true:=by simp;omega
 have hgi:f.Instruments.getD x.Instrument.toNat ⟨ByteArray.empty,false,⟨0,0⟩⟩=X1j f x.Instrument:=rfl
 simp only [i1,i2,hgi,Bool.and_self,cond_true]
 cases hL:(X1j f x.Instrument).Lead
 ·have h3:=h3 hL
  have hfar:X3D (X1j f x.Instrument)=4:=by unfold X3D;rw [hL];rfl
  rw [hfar] at hv
  have m1:decide (0≤x.Mark)=true:=by simp;omega
  have m2:decide (x.Mark<(↑f.Chart.Marks.length:Int))=true:=by simp;omega
  have hgm:f.Chart.Marks.getD x.Mark.toNat ⟨ByteArray.empty,⟨0,0⟩,[]⟩=Z8y f x.Mark:=rfl
  have hma:=X7C hg h3.1 h3.2.1
  unfold Bd at hma hp
  simp only [Bool.not_false,cond_true,m1,m2,hgm,Bool.and_self,Bool.and_true,Bool.false_eq_true,if_false]
  rw [w64 (x:=(Z8y f x.Mark).At.X-p.X) (by omega) (by omega),w64 (x:=(Z8y f x.Mark).At.Y-p.Y) (by omega) (by omega)]
  have hfp:X3v 30000 p=false:=by rw [X6o];unfold Bd;omega
  have hsn:X46 f x.Mark p=if (Z8y f x.Mark).At=p then -1 else X4r (Xk (Z8y f x.Mark).At p):=by
   unfold X46 X6R
   rw [h3.2.2.1,hfp]
   by_cases c:(Z8y f x.Mark).At=p<;>simp [c]
  by_cases c:(Z8y f x.Mark).At=p
  ·rw [if_pos c] at hsn
   rw [hsn,c]
   simp
  ·rw [if_neg c] at hsn
   have h00:¬ ((Z8y f x.Mark).At.X-p.X=0∧(Z8y f x.Mark).At.Y-p.Y=0):=fun q=>c (Zu.ext (by omega) (by omega))
   have e0:((Z8y f x.Mark).At.X-p.X==0&&(Z8y f x.Mark).At.Y-p.Y==0)=false:=by
    cases hc:((Z8y f x.Mark).At.X-p.X==0&&(Z8y f x.Mark).At.Y-p.Y==0)
    ·rfl
    ·exfalso;simp at hc;exact h00 ⟨by omega,by omega⟩
   simp only [e0,Bool.not_false,cond_true]
   rw [show (⟨(Z8y f x.Mark).At.X-p.X,(Z8y f x.Mark).At.Y-p.Y⟩:Zu)=Xk (Z8y f x.Mark).At p from rfl,X6D (by unfold Xk;simp only;omega) (by unfold Xk;exact h00)]
   simp only [Option.bind_some]
   have hpb:=X7Z (v:=Xk (Z8y f x.Mark).At p) (by unfold Xk;simp only;omega) (by unfold Xk;exact h00)
   rw [hsn]
   generalize X4r (Xk (Z8y f x.Mark).At p)=s at *
   rw [w64 (x:=s+v) (by omega) (by omega),w64 (x:=s+v+32) (by omega) (by omega),Int.tmod_eq_emod_of_nonneg (by omega)]
   congr 1
   have hk:(((s+v+32) % 32==x.Shown)=true)↔(decide (s≥0)&&(decide (X8k x.Shown s≤v)&&decide (v≤X8k x.Shown s)))=true:=by
    simp only [beq_iff_eq,Bool.and_eq_true,decide_eq_true_eq]
    unfold X8k
    constructor
    ·intro h
     refine ⟨by omega,?_,?_⟩<;>split<;>omega
    ·rintro ⟨_,a,b⟩
     split at a<;>omega
   exact Bool.eq_iff_iff.2 hk
 ·have hfar:X3D (X1j f x.Instrument)=20:=by unfold X3D;rw [hL];rfl
  have h2:=h2 hL
  rw [hfar] at hv
  simp only [Bool.not_true,cond_false,if_true]
  obtain ⟨k,hk1,hk2⟩:=X84 (f:=f) hg.areas p
  rw [hk1]
  simp only [Option.bind_some]
  rcases hk2 with ⟨hk2,hk3⟩|⟨hk2,hk3,hk4⟩
  ·have e:decide (k<0)=true:=by simpa using hk2
   rw [e,hk3]
   simp only [cond_true,Bool.true_and]
   have a1:decide ((-20:Int)≤v)=true:=by simp;omega
   have a2:decide (v≤(20:Int))=true:=by simp;omega
   rw [a1,a2];rfl
  ·have e:decide (k<0)=false:=by simp;omega
   have e1:decide (0≤k)=true:=by simp;omega
   have e2:decide (k<(↑f.Areas.length:Int))=true:=by simp;omega
   rw [hk4]
   have ha:=X8g (hg.area _ (List.getElem_mem hk3))
   rw [X0 _ _ _ hk3] at *
   generalize f.Areas[k.toNat]=a at *
   simp only [e,e1,e2,cond_false,cond_true,Bool.and_self]
   rw [w64 (x:=x.Shown-v) (by omega) (by omega),Xq]
   simp only [Option.bind_some]
   have hin:inN (x.Shown-v) a.Depth.Lo a.Depth.Hi=(decide (x.Shown-a.Depth.Hi≤v)&&decide (v≤x.Shown-a.Depth.Lo)):=by
    unfold inN
    rw [Bool.eq_iff_iff]
    simp<;>omega
   rw [hin]
   cases (decide (x.Shown-a.Depth.Hi≤v)&&decide (v≤x.Shown-a.Depth.Lo))
   ·simp
   ·cases (x.Ground==0)<;>simp

def X4P (lo:Int):Nat→List Int
 | 0=>[]
 | n+1=>lo::X4P (lo+1) n
theorem X7a:∀ (n:Nat) (lo v:Int),v∈X4P lo n↔lo≤v∧v<lo+n
 | 0,lo,v=>by simp only [X4P,List.not_mem_nil,false_iff];omega
 | n+1,lo,v=>by
  simp only [X4P,List.mem_cons,X7a n]
  omega
def X3X (f:ZJ) (l:List Zn) (p:Zu) (i:Nat) (v:Int):Bool:=l.all fun x => !(decide (x.Instrument.toNat=i))||X6f f x p v
def X5Q (f:ZJ) (l:List Zn) (p:Zu) (i:Nat):List Int:=(X4P (X7 f i).Lo ((X7 f i).Hi-(X7 f i).Lo+1).toNat).filter fun v=>X3X f l p i v

def X3m (f:ZJ) (marks:List Bool) (x:Zn):Bool:=(X1j f x.Instrument).Lead || !(marks.getD x.Mark.toNat false)

theorem X7X {f:ZJ} (hg:X25 f) {l:List Zn} (hl:∀ x∈l,X1k f x=0) (hll:l.length≤1000) {p:Zu} (hp:Bd 30000 p) (i:Nat) (hi:i<f.Instruments.length) (marks:List Bool) (hm:marks.length=f.Chart.Marks.length):X3J f l p (i:Int) marks=some (X5Q f (l.filter (X3m f marks)) p i):=by
 rw [X54];unfold X1A
 have hI:=hg.inst
 have i1:decide ((0:Int)≤(i:Int))=true:=by simp
 have i2:decide ((i:Int)<(↑f.Instruments.length:Int))=true:=by simp [hi]
 have hgd:f.Instruments.getD i ⟨ByteArray.empty,false,⟨0,0⟩⟩=f.Instruments[i]:=X0 _ _ _ hi
 have ho:=hg.off _ (List.getElem_mem hi)
 have hof:X7 f i=f.Instruments[i].Off:=by unfold X7;rw [dif_pos hi]
 have hfb:0≤X3D f.Instruments[i]∧X3D f.Instruments[i]≤20:=by unfold X3D;split<;>omega
 have hio:X1j f (i:Int)=f.Instruments[i]:=hgd
 simp only [i1,i2,Bool.and_self,cond_true,Int.toNat_natCast,hgd]
 have inner:∀ v:Int,-X3D f.Instruments[i]≤v∧v≤X3D f.Instruments[i]→X2s (i:Int) l marks v p f (true,0)=some (X3X f (l.filter (X3m f marks)) p i v):=fun v hv=>by
  obtain ⟨w,h1,h2⟩:=X3u (XO (i:Int) l marks v p f) l.length (fun k (c:Bool)=>(c,(k:Int))) (fun k c=>(c&&X3X f ((l.drop k).filter (X3m f marks)) p i v)=X3X f (l.filter (X3m f marks)) p i v) (fun w=>w=X3X f (l.filter (X3m f marks)) p i v)
   (fun c hc=>⟨c,by simp [XO,XS],by
    rw [List.drop_length] at hc
    simpa [X3X] using hc⟩)
   (fun k c hk hc=>by
    have e1:decide ((k:Int)<↑l.length)=true:=by simp [hk]
    have e2:decide ((0:Int)≤↑k)=true:=by simp
    have hw:IntKind.wrap .i64 ((k:Int)+1)=((k+1:Nat):Int):=by rw [w64]<;>omega
    have hx:=hl _ (List.getElem_mem hk)
    obtain ⟨x,hxd⟩:∃ x,l[k]=x:=⟨_,rfl⟩
    rw [hxd] at hx
    have hgx:l.getD k ⟨0,0,0,0⟩=x:=(X0 _ _ _ hk).trans hxd
    obtain ⟨n1,n2⟩:=X7R hx
    rw [List.drop_eq_getElem_cons hk,hxd,List.filter_cons] at hc
    simp only [XO,XS,e1,e2,hw,cond_true,Int.toNat_natCast,hgx,Bool.and_self]
    cases c
    ·left
     refine ⟨false,rfl,?_⟩
     simpa using hc
    ·right
     simp only [cond_true]
     rw [Bool.true_and] at hc
     by_cases ci:x.Instrument=(i:Int)
     ·have ec:(x.Instrument==(i:Int))=true:=by simpa using ci
      simp only [ec,cond_true,i1,i2,Bool.and_self,hgd]
      have hag:=X83 hg hx hp (v:=v) (by rw [ci,hio];exact hv)
      have hti:x.Instrument.toNat=i:=by omega
      cases hL:f.Instruments[i].Lead
      ·obtain ⟨m1,m2⟩:=X8z hx (by rw [ci,hio];exact hL)
       have d1:decide (0≤x.Mark)=true:=by simp;omega
       have d2:decide (x.Mark<(marks.length:Int))=true:=by simp;omega
       have hlm:X3m f marks x = !(marks.getD x.Mark.toNat false):=by unfold X3m;rw [ci,hio,hL];rfl
       rw [hlm] at hc
       simp only [cond_false,d1,d2,Bool.and_self,cond_true]
       cases hb:marks.getD x.Mark.toNat false
       ·simp only [Bool.not_false,cond_true,hag,Option.bind_some]
        rw [hb] at hc
        refine ⟨X6f f x p v,rfl,?_⟩
        rw [←hc]
        simp [X3X,hti]
       ·simp only [Bool.not_true,cond_false]
        rw [hb] at hc
        refine ⟨true,rfl,?_⟩
        rw [←hc]
        simp
      ·have hlm:X3m f marks x=true:=by unfold X3m;rw [ci,hio,hL];rfl
       rw [hlm] at hc
       simp only [cond_true,hag,Option.bind_some]
       refine ⟨X6f f x p v,rfl,?_⟩
       rw [←hc]
       simp [X3X,hti]
     ·have ec:(x.Instrument==(i:Int))=false:=by simpa using ci
      have hti:¬ x.Instrument.toNat=i:=by omega
      simp only [ec,cond_false]
      refine ⟨true,rfl,?_⟩
      rw [←hc]
      cases X3m f marks x<;>simp [X3X,hti]) 0 true (by omega) (by simp)
  exact h1.trans (by rw [h2])
 have hn:((((X7 f i).Hi-(X7 f i).Lo+1).toNat:Nat):Int)=(X7 f i).Hi-(X7 f i).Lo+1:=by rw [hof];omega
 obtain ⟨w,h1,h2⟩:=X3u (XN (i:Int) l marks p f) ((X7 f i).Hi-(X7 f i).Lo+1).toNat (fun k (b:List Int)=>((X7 f i).Lo+(k:Int),b)) (fun k b=>b.length≤k∧b++(X4P ((X7 f i).Lo+k) (((X7 f i).Hi-(X7 f i).Lo+1).toNat-k)).filter (fun v=>X3X f (l.filter (X3m f marks)) p i v)=X5Q f (l.filter (X3m f marks)) p i) (fun w=>w=X5Q f (l.filter (X3m f marks)) p i)
  (fun b hb=>⟨b,by
   have e:decide ((X7 f i).Lo+((((X7 f i).Hi-(X7 f i).Lo+1).toNat:Nat):Int)≤f.Instruments[i].Off.Hi)=false:=by rw [←hof];simp;omega
   simp only [XN,XR,i1,i2,Bool.and_self,cond_true,Int.toNat_natCast,hgd,e,cond_false],by
   have:=hb.2
   rw [Nat.sub_self] at this
   simpa [X4P] using this⟩)
  (fun k b hk hb=>by
   right
   obtain ⟨hb1,hb2⟩:=hb
   have e:decide ((X7 f i).Lo+(k:Int)≤f.Instruments[i].Off.Hi)=true:=by rw [←hof];simp;omega
   have hk':(k:Int)<f.Instruments[i].Off.Hi-f.Instruments[i].Off.Lo+1:=by rw [←hof];omega
   have hw:IntKind.wrap .i64 ((X7 f i).Lo+(k:Int)+1)=(X7 f i).Lo+((k+1:Nat):Int):=by rw [hof];rw [w64]<;>omega
   have ble:Nat.ble ((b.length+[(X7 f i).Lo+(k:Int)].length)*(8+1)) 200000000000000=true:=by
    apply Nat.ble_eq_true_of_le;simp only [List.length_cons,List.length_nil]
    have:k≤100:=by rw [hof] at hn hk;omega
    omega
   have hr:X4P ((X7 f i).Lo+(k:Int)) (((X7 f i).Hi-(X7 f i).Lo+1).toNat-k)=((X7 f i).Lo+(k:Int))::X4P ((X7 f i).Lo+((k+1:Nat):Int)) (((X7 f i).Hi-(X7 f i).Lo+1).toNat-(k+1)):=by
    rw [show ((X7 f i).Hi-(X7 f i).Lo+1).toNat-k=(((X7 f i).Hi-(X7 f i).Lo+1).toNat-(k+1))+1 by omega,X4P,show (X7 f i).Lo+(k:Int)+1=(X7 f i).Lo+((k+1:Nat):Int) by push_cast;omega]
   rw [hr,List.filter_cons] at hb2
   simp only [XN,XR,i1,i2,Bool.and_self,cond_true,Int.toNat_natCast,hgd,e,hw]
   rw [inner _ (by rw [hof] at *;omega)]
   simp only [Option.bind_some]
   cases hh:X3X f (l.filter (X3m f marks)) p i ((X7 f i).Lo+(k:Int))
   ·rw [hh] at hb2
    exact ⟨b,rfl,by omega,by simpa using hb2⟩
   ·rw [hh] at hb2
    simp only [cond_true,ble]
    exact ⟨b++[(X7 f i).Lo+(k:Int)],rfl,by simp;omega,by simpa using hb2⟩) 0 [] (by omega) ⟨by simp,by simp [X5Q]⟩
 have h1':X2r (i:Int) l marks p f (f.Instruments[i].Off.Lo,[])=some w:=by
  rw [←hof]
  have:(X7 f i).Lo+((0:Nat):Int)=(X7 f i).Lo:=by omega
  rw [this] at h1
  exact h1
 rw [h1',h2];rfl

theorem X7W {f:ZJ} (hg:X25 f) (l:List Zn) (p:Zu) (i:Nat) (v:Int):v∈X5Q f l p i↔Num f l p 0 0 i v:=by
 unfold X5Q Num X70
 have ho:=X7Y hg i
 rw [List.mem_filter,X7a]
 unfold X3X
 rw [List.all_eq_true]
 constructor
 ·rintro ⟨h1,h2⟩
  refine ⟨by unfold inS;omega,fun x hx _ he => ?_⟩
  have:=h2 x hx
  rw [he] at this
  simp only [decide_true,Bool.not_true,Bool.false_or] at this
  unfold X6f at this
  simp only [Bool.and_eq_true,decide_eq_true_eq] at this
  exact ⟨this.1,this.2.1,this.2.2⟩
 ·rintro ⟨h1,h2⟩
  unfold inS at h1
  refine ⟨by omega,fun x hx => ?_⟩
  by_cases c:x.Instrument.toNat=i
  ·obtain ⟨h3,h4⟩:=h2 x hx (X8s _ _) c
   unfold inS at h4
   unfold X6f
   simp [c,h3,h4.1,h4.2]
  ·simp [c]
end Nore
open Go Go.Ab
namespace Nore

theorem X7G {f:ZJ} (hg:X25 f):X5f f=some (X42 f):=by
 rw [X6b];unfold X2p
 have hh:=hg.half
 have hs:=hg.step
 have hw0:(X4 f:Int)=2*f.Half+1:=by unfold X4;omega
 have hw2:IntKind.wrap .i64 (0-f.Half) = -f.Half:=by rw [w64]<;>omega
 have inner:∀ (x:Int),-8≤x∧x≤8→∀ acc:List Zu,acc.length≤1000000→X2i x f (-f.Half,acc)=some (acc++Xr f x (-f.Half) (X4 f)):=fun x hx acc ha=>by
  obtain ⟨w,h1,h2⟩:=X3u (X10 x f) (X4 f) (fun k (b:List Zu)=>(-f.Half+(k:Int),b)) (fun k b=>b.length≤1000000+k∧b++Xr f x (-f.Half+k) (X4 f-k)=acc++Xr f x (-f.Half) (X4 f)) (fun w=>w=acc++Xr f x (-f.Half) (X4 f))
   (fun b hb=>⟨b,by
    have e1:decide (-f.Half+(X4 f:Int)≤f.Half)=false:=by simp;omega
    simp only [X10,X1b,e1,cond_false],by
    have:=hb.2
    rw [Nat.sub_self] at this
    simpa [Xr] using this⟩)
   (fun k b hk hb=>by
    right
    obtain ⟨hb1,hb2⟩:=hb
    have e1:decide (-f.Half+(k:Int)≤f.Half)=true:=by simp;omega
    have hw:IntKind.wrap .i64 (-f.Half+(k:Int)+1) = -f.Half+((k+1:Nat):Int):=by rw [w64]<;>omega
    have m1:=X4O (a:=x) (b:=f.Step) 8 500 (by omega) (by omega) (by omega) (by omega)
    have m2:=X4O (a := -f.Half+(k:Int)) (b:=f.Step) 8 500 (by omega) (by omega) (by omega) (by omega)
    have ble:∀ y:Zu,Nat.ble ((b.length+[y].length)*(16+1)) 200000000000000=true:=fun y=>by
     apply Nat.ble_eq_true_of_le;simp only [List.length_cons,List.length_nil];omega
    have hrow:Xr f x (-f.Half+(k:Int)) (X4 f-k)=⟨x*f.Step,(-f.Half+(k:Int))*f.Step⟩::Xr f x (-f.Half+((k+1:Nat):Int)) (X4 f-(k+1)):=by
     rw [show X4 f-k=(X4 f-(k+1))+1 by omega,Xr,show -f.Half+(k:Int)+1 = -f.Half+((k+1:Nat):Int) by push_cast;omega]
    rw [hrow] at hb2
    refine ⟨b++[⟨x*f.Step,(-f.Half+(k:Int))*f.Step⟩],?_,by simp;omega,by rw [←hb2];simp⟩
    simp only [X10,X1b,e1,hw,cond_true]
    rw [w64 (x:=x*f.Step) (by omega) (by omega),w64 (x:=(-f.Half+(k:Int))*f.Step) (by omega) (by omega),ble,cond_true]) 0 acc (by omega) ⟨by omega,by simp⟩
  have h1':X2i x f (-f.Half,acc)=some w:=by
   have : -f.Half+((0:Nat):Int) = -f.Half:=by omega
   rw [this] at h1;exact h1
  rw [h1',h2]
 obtain ⟨w,h1,h2⟩:=X3u (WZ f) (X4 f) (fun k (b:List Zu)=>(-f.Half+(k:Int),b)) (fun k b=>b.length≤k*100∧b++XG f (-f.Half+k) (X4 f-k)=X42 f) (fun w=>w=X42 f)
  (fun b hb=>⟨b,by
   have e1:decide (-f.Half+(X4 f:Int)≤f.Half)=false:=by simp;omega
   simp only [WZ,X1a,e1,cond_false],by
   have:=hb.2
   rw [Nat.sub_self] at this
   simpa [XG] using this⟩)
  (fun k b hk hb=>by
   right
   obtain ⟨hb1,hb2⟩:=hb
   have e1:decide (-f.Half+(k:Int)≤f.Half)=true:=by simp;omega
   have hw:IntKind.wrap .i64 (-f.Half+(k:Int)+1) = -f.Half+((k+1:Nat):Int):=by rw [w64]<;>omega
   have hgr:XG f (-f.Half+(k:Int)) (X4 f-k)=Xr f (-f.Half+(k:Int)) (-f.Half) (X4 f)++XG f (-f.Half+((k+1:Nat):Int)) (X4 f-(k+1)):=by
    rw [show X4 f-k=(X4 f-(k+1))+1 by omega,XG,show -f.Half+(k:Int)+1 = -f.Half+((k+1:Nat):Int) by push_cast;omega]
   rw [hgr] at hb2
   refine ⟨b++Xr f (-f.Half+(k:Int)) (-f.Half) (X4 f),?_,by rw [List.length_append,X3S];omega,by rw [←hb2];simp⟩
   simp only [WZ,X1a,e1,hw,hw2,cond_true]
   rw [inner _ (by omega) b (by omega)]
   rfl) 0 [] (by omega) ⟨by simp,by simp [X42]⟩
 have h1':X3r f (-f.Half,[])=some w:=by
  have : -f.Half+((0:Nat):Int) = -f.Half:=by omega
  rw [this] at h1;exact h1
 rw [hw2,h1',h2];rfl

def X5Y (f:ZJ) (l:List Zn) (p:Zu) (marks insts:List Bool):Bool:=(List.range f.Instruments.length).all fun i=>insts.getD i false || !(X5Q f (l.filter (X3m f marks)) p i).isEmpty
theorem X7i {f:ZJ} (hg:X25 f) {l:List Zn} (hl:∀ x∈l,X1k f x=0) (hll:l.length≤1000) {p:Zu} (hp:Bd 30000 p) (marks insts:List Bool) (hm:marks.length=f.Chart.Marks.length) (hin:insts.length=f.Instruments.length):X4b f l p marks insts=some (X5Y f l p marks insts):=by
 rw [X5x];unfold X1T
 have hI:=hg.inst
 obtain ⟨w,h1,h2⟩:=X3u (W3 marks l insts p f) f.Instruments.length (fun i (_:Unit)=>(i:Int)) (fun i _=>(((List.range f.Instruments.length).drop i).all fun i=>insts.getD i false || !(X5Q f (l.filter (X3m f marks)) p i).isEmpty)=X5Y f l p marks insts)
  (fun w=>(w = .inr ()∧X5Y f l p marks insts=true)∨(w = .inl false∧X5Y f l p marks insts=false))
  (fun _ hb=>⟨.inr (),by simp [W3,Wf],.inl ⟨rfl,by
   rw [List.drop_of_length_le (by simp)] at hb
   simpa using hb.symm⟩⟩)
  (fun i _ hi hb=>by
   have hw:IntKind.wrap .i64 ((i:Int)+1)=((i+1:Nat):Int):=by rw [w64]<;>omega
   have e1:decide ((i:Int)<↑f.Instruments.length)=true:=by simp [hi]
   have e2:decide ((0:Int)≤↑i)=true:=by simp
   have e3:decide ((i:Int)<↑insts.length)=true:=by simp;omega
   have hdr:(List.range f.Instruments.length).drop i=i::(List.range f.Instruments.length).drop (i+1):=by
    rw [List.drop_eq_getElem_cons (by simpa using hi)];simp
   rw [hdr,List.all_cons] at hb
   simp only [W3,Wf,Int.toNat_natCast,hw,e1,e2,e3,Bool.and_self,cond_true]
   cases hgo:insts.getD i false
   ·simp only [Bool.not_false,cond_true]
    rw [X7X hg hl hll hp i hi marks hm]
    simp only [Option.bind_some]
    rw [hgo] at hb
    cases hn:X5Q f (l.filter (X3m f marks)) p i with
    | nil =>
     left
     rw [hn] at hb
     exact ⟨.inl false,by simp,.inr ⟨rfl,by simpa using hb.symm⟩⟩
    | cons a r =>
     right
     rw [hn] at hb
     have e0:(((a::r).length:Int)==0)=false:=by apply X5D;simp only [List.length_cons];omega
     exact ⟨(),by simp only [e0,cond_false],by simpa using hb⟩
   ·right
    rw [hgo] at hb
    exact ⟨(),by simp,by simpa using hb⟩) 0 () (by omega) rfl
 have h1':X2H marks l insts p f 0=some w:=h1
 rw [h1']
 rcases h2 with ⟨h3,h4⟩|⟨h3,h4⟩
 ·subst h3;rw [h4];rfl
 ·subst h3;rw [h4];rfl

theorem X7L {f:ZJ} (hg:X25 f) {l:List Zn} (hl:∀ x∈l,X1k f x=0) (p:Zu):X5Y f l p (List.replicate f.Chart.Marks.length false) (List.replicate f.Instruments.length false)=(atN f l p 0 0).2:=by
 have hf:l.filter (X3m f (List.replicate f.Chart.Marks.length false))=l:=by
  apply List.filter_eq_self.2
  intro x _
  unfold X3m
  have:(List.replicate f.Chart.Marks.length false).getD x.Mark.toNat false=false:=by
   rw [List.getD_eq_getElem?_getD,List.getElem?_replicate]
   split<;>rfl
  rw [this];simp
 rw [Bool.eq_iff_iff,X8I hg]
 unfold X5Y
 rw [hf,List.all_eq_true]
 constructor
 ·intro h i
  by_cases c:i<f.Instruments.length
  ·have h1:=h i (List.mem_range.2 c)
   have h2:(List.replicate f.Instruments.length false).getD i false=false:=by
    rw [List.getD_eq_getElem?_getD,List.getElem?_replicate]
    split<;>rfl
   rw [h2,Bool.false_or] at h1
   cases hn:X5Q f l p i with
   | nil=>rw [hn] at h1;cases h1
   | cons a r=>exact ⟨a,(X7W hg l p i a).1 (by rw [hn];simp)⟩
  ·refine ⟨0,?_,fun x hx _ he => ?_⟩
   ·unfold inS X7
    rw [dif_neg c];simp
   ·exfalso
    have:=(X7R (hl x hx)).2
    omega
 ·intro h i hi
  obtain ⟨v,hv⟩:=h i
  have:=(X7W hg l p i v).2 hv
  cases hn:X5Q f l p i with
  | nil=>rw [hn] at this;cases this
  | cons a r=>simp

theorem X8B (n:Nat) (hn:n≤100):((n:Int)==(n:Int)&&decide (0≤(n:Int))&&Nat.ble (n*(1+1)) 200000000000000&&Nat.blt 0 1)=true:=by
 have b:Nat.ble (n*(1+1)) 200000000000000=true:=by apply Nat.ble_eq_true_of_le;omega
 rw [b]
 simp
theorem X5X {f:ZJ} {l:List Zn} (hs:X7K f l):X3t f l=some (X1f f l):=by
 rw [X5z];unfold X1U
 have hg:=hs.fix
 have hM:=hg.marks
 have hI:=hg.inst
 rw [X7G hg]
 simp only [Option.bind_some]
 have hgl:(X42 f).length≤1000:=by
  have hh:=hg.half
  have hw0:(X4 f:Int)=2*f.Half+1:=by unfold X4;omega
  have hw1:X4 f≤17:=by omega
  have:∀ (n:Nat) (x:Int),(XG f x n).length=n*X4 f:=fun n=>by
   induction n with
   | zero=>intro x;simp [XG]
   | succ n ih=>intro x;simp only [XG,List.length_append,X3S,ih,Nat.succ_mul];omega
  have h3:(X42 f).length=X4 f*X4 f:=this _ _
  have h4:X4 f*X4 f≤17*17:=Nat.mul_le_mul hw1 hw1
  omega
 have hbd:∀ p∈X42 f,Bd 4000 p:=fun p hp=>X8E hg hp
 have hpl:X1f f l=((X42 f).filter fun p=>(atN f l p 0 0).2):=rfl
 rw [hpl]
 generalize X42 f=g at *
 have h:=X8F (W4 l g f) g (fun p=>if (atN f l p 0 0).2 then [p] else []) 1 (fun x _=>by split<;>simp)
  (fun b=>by simp [W4,Wg])
  (fun i b hi hb=>by
   have e1:decide ((i:Int)<↑g.length)=true:=by simp [hi]
   have e2:decide ((0:Int)≤↑i)=true:=by simp
   have hw:IntKind.wrap .i64 ((i:Int)+1)=((i+1:Nat):Int):=by rw [w64]<;>omega
   have ble:Nat.ble ((b.length+[g[i]].length)*(16+1)) 200000000000000=true:=by
    apply Nat.ble_eq_true_of_le;simp only [List.length_cons,List.length_nil];omega
   have hb':=hbd _ (List.getElem_mem hi)
   simp only [W4,Wg,e1,e2,Bool.and_self,cond_true,Int.toNat_natCast,X0 _ _ _ hi,hw]
   rw [X8B _ (by omega),X8B _ (by omega)]
   simp only [cond_true]
   have hag:=X7i hg hs.each (by have:=hs.len;omega) (p:=g[i]) (by unfold Bd at *;omega) (List.replicate f.Chart.Marks.length false) (List.replicate f.Instruments.length false) (by simp) (by simp)
   rw [hag,X7L hg hs.each]
   simp only [Option.bind_some,ble]
   cases (atN f l g[i] 0 0).2<;>simp)
 have h':X2I l g f (0,[])=_:=h
 rw [h',X6H (fun p=>(atN f l p 0 0).2) (fun p=>p)]
 simp

theorem X7h (f:ZJ) (l:List Zn):X4a f l=some (if (Wk f l).2=0 then (X1f f l,0) else ([],(Wk f l).2)):=by
 rw [X5v];unfold X1S
 rw [X3A]
 simp only [Option.bind_some]
 by_cases h0:(Wk f l).2=0
 ·rw [X5X (X3M h0)]
  simp [h0]
 ·simp [h0,WW h0]

theorem X7l (l:List Zu) (hl:l.length<1000000) (x y:ZE):X2Y l (0,y,x)=some ((l.foldl X4Y ⟨x,y⟩).Y,(l.foldl X4Y ⟨x,y⟩).X):=by
 obtain ⟨w,h1,h2⟩:=X3u (Wx l) l.length (fun i (b:ZB)=>((i:Int),b.Y,b.X)) (fun i b=>(l.drop i).foldl X4Y b=l.foldl X4Y ⟨x,y⟩) (fun w=>w=((l.foldl X4Y ⟨x,y⟩).Y,(l.foldl X4Y ⟨x,y⟩).X))
  (fun b hb=>⟨(b.Y,b.X),by simp [Wx,WR],by
   rw [List.drop_length] at hb
   simp only [List.foldl_nil] at hb
   rw [hb]⟩)
  (fun i b hi hb=>by
   right
   have hw:IntKind.wrap .i64 ((i:Int)+1)=((i+1:Nat):Int):=by rw [w64]<;>omega
   have e1:decide ((i:Int)<↑l.length)=true:=by simp [hi]
   have e2:decide ((0:Int)≤↑i)=true:=by simp
   rw [List.drop_eq_getElem_cons hi,List.foldl_cons] at hb
   refine ⟨X4Y b l[i],?_,hb⟩
   simp only [Wx,WR,e1,e2,Bool.and_self,cond_true,Int.toNat_natCast,X0 _ _ _ hi,hw]
   unfold X4Y
   simp only [Bool.cond_decide]) 0 ⟨x,y⟩ (by omega) (by simp)
 exact h1.trans (by rw [h2])

theorem X7s (f:ZJ) (l:List Zn):X4K f l=some (if (Wk f l).2=0 then (if (X1f f l).length=0 then (X4S [],9) else (X4S (X1f f l),0)) else (X4S [],(Wk f l).2)):=by
 rw [X5T];unfold X2a
 rw [X3A]
 simp only [Option.bind_some]
 by_cases h0:(Wk f l).2=0
 ·have hs:=X3M h0
  rw [X5X hs]
  have hln:=X6l hs.fix l
  simp only [h0,bne_self_eq_false,cond_false,if_true,Option.bind_some]
  cases hpl:X1f f l with
  | nil=>simp [X4S]
  | cons q r =>
   rw [hpl] at hln
   have e0:(((q::r).length:Int)==0)=false:=by apply X5D;simp only [List.length_cons];omega
   have e2:decide ((0:Int)<((q::r).length:Int))=true:=by simp only [List.length_cons];simp
   simp only [e0,e2,Int.le_refl,Nat.le_refl,decide_true,cond_false,cond_true,Bool.and_self]
   rw [X7l (q::r) (by omega)]
   simp [X4S]
 ·simp [h0,WW h0,X4S]

theorem X6Z (f:ZJ) (l:List Zn):X2P f l=some true:=by
 rw [X4o];unfold WJ
 rw [X77,X7h]
 simp only [Option.bind_some]
 rw [X80 _ (by
  split
  ·rename_i h0
   have:=X6l (X3M h0).fix l
   simp only;omega
  ·simp)]
 simp only [Option.bind_some,Bool.not_true,cond_false,bne_self_eq_false]
 rw [X7o,X7s]
 simp

end Nore
open Go Go.Ab
namespace Nore

end Nore
