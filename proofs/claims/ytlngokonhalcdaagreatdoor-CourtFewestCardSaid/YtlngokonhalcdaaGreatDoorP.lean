/- The plain functions of the program and of the document answer alike. -/
import Derived.Test.YtlngokonhalcdaaGreatDoorY
import Derived.Test.YtlngokonhalcdaaGreatDoorD
set_option linter.unusedSectionVars false
set_option linter.unusedVariables false
set_option linter.unusedSimpArgs false
open Go Go.Ab
namespace Nore
theorem w64 {x:Int} (a : -9223372036854775808<=x) (b:x<=9223372036854775807):IntKind.wrap .i64 x=x:=by
 simp only[IntKind.wrap,IntKind.signed,IntKind.bits];simp;omega
theorem jS {α β:Type} (a:α) (f:α->Option β):Option.bind (some a) f=f a:=rfl
theorem kS (n:Nat):Int.toNat (n:Int)=n:=rfl
theorem wS (i:Nat) (h:i<9223372036854775807):IntKind.wrap .i64 ((i:Int)+1)=((i+1:Nat):Int):=by rw[w64]<;>omega
theorem z0S (i:Nat):decide ((0:Int)<=↑i)=true:=by simp
theorem X4F {σ ω γ:Type} (st:σ->Option (σ⊕ω)) (k:ω->Option γ) (s:σ):Option.bind (Za4 st s) k=Option.bind (st s) (Sum.elim (fun s'=>Option.bind (Za4 st s') k) k):=by
 rw[ZjH];cases st s with
 | none=>rfl
 | some r=>cases r<;>rfl
theorem WZ {β σ ω γ:Type} (st:σ->Option (σ⊕ω)) (k:ω->Option γ) (n:Nat) (emb:Nat->β->σ) (P:Nat->β->Prop) (nice:Nat->β->Option γ)
  (d:∀b,P n b->∀R:σ->Option γ,Option.bind (st (emb n b)) (Sum.elim R k)=nice n b)
  (e:∀i b,i<n->P i b->∀R:σ->Option γ,(∀b',P (i+1) b'->R (emb (i+1) b')=nice (i+1) b')->Option.bind (st (emb i b)) (Sum.elim R k)=nice i b) :
  ∀i b,i<=n->P i b->Option.bind (Za4 st (emb i b)) k=nice i b:=by
 intro i b hi c
 induction hj:n-i generalizing i b with
 | zero =>
  have:i=n:=by omega
  subst this;rw[X4F];exact d b c _
 | succ j ih =>
  rw[X4F];exact e i b (by omega) c _ fun b' a=>ih (i+1) b' (by omega) a (by omega)
theorem X3b {a b:Int} (h:¬a=b):(a==b)=false:=beq_eq_false_iff_ne.2 h
theorem X2g {a b:Int} (h:¬a=b):(a != b)=true:=bne_iff_ne.2 h
theorem XN {α:Type} (l:List α) (i:Nat) (d:α) (h:i<l.length):l.getD i d=l[i]:=by simp[List.getD,h]
theorem X16 {β σ ω:Type} (st:σ->Option (σ⊕ω)) (n:Nat) (emb:Nat->β->σ) (P:Nat->β->Prop) (Q:ω->Prop)
  (e:∀b,P n b->∃w,st (emb n b)=some (.inr w)/\Q w)
  (g:∀i b,i<n->P i b->(∃w,st (emb i b)=some (.inr w)/\Q w)\/∃b',st (emb i b)=some (.inl (emb (i+1) b'))/\P (i+1) b') :
  ∀i b,i<=n->P i b->∃w,Za4 st (emb i b)=some w/\Q w:=by
 intro i b hi d
 induction hj:n-i generalizing i b with
 | zero =>
  have:i=n:=by omega
  subst this;obtain⟨w,c,a⟩:=e b d;exact⟨w,by rw[ZjH,c];rfl,a⟩
 | succ j ih =>
  rcases g i b (by omega) d with⟨w,c,a⟩|⟨b',c,a⟩
  ·exact⟨w,by rw[ZjH,c];rfl,a⟩
  ·obtain⟨w,f,h⟩:=ih (i+1) b' (by omega) a (by omega)
   exact⟨w,by rw[ZjH,c];exact f,h⟩
end Nore
namespace Nore
structure Con where
 lo:Nat->Int
 hi:Nat->Int
 ap:List (Nat×Nat)
def X5w (n:Nat) (x:Nat->Int):Prop:=∀i,i+1<n->x i<=x (i+1)
def ApN (ap:List (Nat×Nat)) (x:Nat->Int):Prop:=∀p∈ap,x p.1+1<=x p.2
def UpN (n:Nat) (c:Con) (x:Nat->Int):Prop:=(∀i,i<n->c.lo i<=x i)/\X5w n x/\ApN c.ap x
def DnN (n:Nat) (c:Con) (x:Nat->Int):Prop:=(∀i,i<n->x i<=c.hi i)/\X5w n x/\ApN c.ap x
def Sol (n:Nat) (c:Con) (x:Nat->Int):Prop:=UpN n c x/\DnN n c x
structure X3p (n:Nat) (c:Con) (L:Nat->Int):Prop where
 up:UpN n c L
 least:∀x,UpN n c x->∀i,i<n->L i<=x i
structure X3o (n:Nat) (c:Con) (H:Nat->Int):Prop where
 dn:DnN n c H
 great:∀x,DnN n c x->∀i,i<n->x i<=H i
def X3L (n:Nat) (ap:List (Nat×Nat)):Prop:=∀p∈ap,p.1<p.2/\p.2<n
theorem X5k {n:Nat} {c c':Con} {L L':Nat->Int} (h:X3p n c L) (h':X3p n c' L') (e:∀x,UpN n c x↔UpN n c' x):∀i,i<n->L i=L' i:=fun i hi =>
 Int.le_antisymm (h.least _ ((e _).2 h'.up) i hi) (h'.least _ ((e _).1 h.up) i hi)
theorem X5i {n:Nat} {c c':Con} {H H':Nat->Int} (h:X3o n c H) (h':X3o n c' H') (e:∀x,DnN n c x↔DnN n c' x):∀i,i<n->H i=H' i:=fun i hi =>
 Int.le_antisymm (h'.great _ ((e _).1 h.dn) i hi) (h.great _ ((e _).2 h'.dn) i hi)
theorem X4h {n:Nat} {c:Con} {L H:Nat->Int} (hL:X3p n c L) (a:X3o n c H) (h:∀i,i<n->L i<=H i):Sol n c L :=
 ⟨hL.up,fun i hi=>Int.le_trans (h i hi) (a.dn.1 i hi),hL.up.2.1,hL.up.2.2⟩
theorem X5d {n:Nat} {c:Con} {L H:Nat->Int} (hL:X3p n c L) (a:X3o n c H) (h:∀i,i<n->L i<=H i):Sol n c H :=
 ⟨⟨fun i hi=>Int.le_trans (hL.up.1 i hi) (h i hi),a.dn.2.1,a.dn.2.2⟩,a.dn⟩
theorem X53 {n:Nat} {c:Con} {L H:Nat->Int} (hL:X3p n c L) (a:X3o n c H):(∃x,Sol n c x)↔∀i,i<n->L i<=H i :=
 ⟨fun⟨x,h1,h2⟩ i hi=>Int.le_trans (hL.least x h1 i hi) (a.great x h2 i hi),fun h=>⟨L,X4h hL a h⟩⟩
def X3f (L:Nat->Int):List (Nat×Nat)->Nat->Int->Int
 | [],_,a=>a
 | p::ps,i,a=>X3f L ps i (if p.2=i then(if L p.1+1>a then L p.1+1 else a)else a)
def up1 (ap:List (Nat×Nat)) (L:Nat->Int) (i:Nat):Int:=X3f L ap i (if 0<i then(if L (i-1)>L i then L (i-1)else L i)else L i)
def Wf (ap:List (Nat×Nat)):Nat->(Nat->Int)->Nat->Int
 | 0,L=>L
 | k+1,L=>fun j=>if j=k then up1 ap (Wf ap k L) k else Wf ap k L j
theorem X4o (L:Nat->Int) (i:Nat):∀(ap:List (Nat×Nat)) (a:Int),a<=X3f L ap i a/\∀p∈ap,p.2=i->L p.1+1<=X3f L ap i a
 | [],a=>⟨Int.le_refl _,by simp⟩
 | p::ps,a=>by
  unfold X3f;have b:a<=(if p.2=i then(if L p.1+1>a then L p.1+1 else a)else a)/\(p.2=i->L p.1+1<=(if p.2=i then(if L p.1+1>a then L p.1+1 else a)else a)):=by
   by_cases e:p.2=i
   ·by_cases e2:L p.1+1>a
    ·simp only[e,e2,if_true];exact⟨by omega,fun _=>Int.le_refl _⟩
    ·simp only[e,e2,if_true,if_false];exact⟨Int.le_refl _,fun _=>by omega⟩
   ·simp only[e,if_false];exact⟨Int.le_refl _,fun h=>h.elim⟩
  generalize (if p.2=i then(if L p.1+1>a then L p.1+1 else a)else a)=a' at b⊢;obtain⟨d,f⟩:=X4o L i ps a';refine⟨Int.le_trans b.1 d,fun q c e=>?_⟩;rcases jv.1 c with rfl|c
  ·exact Int.le_trans (b.2 e) d
  ·exact f q c e
theorem X4p (L:Nat->Int) (i:Nat) (b:Int):∀(ap:List (Nat×Nat)) (a:Int),a<=b->(∀p∈ap,p.2=i->L p.1+1<=b)->X3f L ap i a<=b
 | [],_,h,_=>h
 | p::ps,a,h,hp=>by
  unfold X3f;refine X4p L i b ps _ ?_ fun q c=>hp q (by simp[c])
  have:=hp p (by simp)
  split
  ·rename_i e;have:=this e;split<;>omega
  ·exact h
theorem X55 (ap:List (Nat×Nat)) (L:Nat->Int):∀(k j:Nat),k<=j->Wf ap k L j=L j
 | 0,_,_=>rfl
 | k+1,j,h=>by
  unfold Wf;rw[if_neg (by omega)]
  exact X55 ap L k j (by omega)
theorem X1H {n:Nat} {c:Con} (g:X3L n c.ap):X3p n c (Wf c.ap n c.lo):=by
 have main:∀k,k<=n->(∀i,i<k->c.lo i<=Wf c.ap k c.lo i)/\(∀i,i+1<k->Wf c.ap k c.lo i<=Wf c.ap k c.lo (i+1))/\(∀p∈c.ap,p.2<k->Wf c.ap k c.lo p.1+1<=Wf c.ap k c.lo p.2) ∧
   ∀x,UpN n c x->∀i,i<k->Wf c.ap k c.lo i<=x i:=by
  intro k
  induction k with
  | zero=>intro _;exact⟨fun i h=>by omega,fun i h=>by omega,fun p _ h=>by omega,fun x _ i h=>by omega⟩
  | succ k ih =>
   intro w;obtain⟨r,o,q,m⟩:=ih (by omega)
   have a:∀j,j≠k->Wf c.ap (k+1) c.lo j=Wf c.ap k c.lo j:=fun j v=>by show(if j=k then _ else _)=_;rw[if_neg v]
   have b:Wf c.ap (k+1) c.lo k=up1 c.ap (Wf c.ap k c.lo) k:=by show(if k=k then _ else _)=_;rw[if_pos rfl]
   have f:Wf c.ap k c.lo k=c.lo k:=X55 _ _ _ _ (Nat.le_refl _);obtain⟨g1,g2⟩:=X4o (Wf c.ap k c.lo) k c.ap (if 0<k then(if Wf c.ap k c.lo (k-1)>Wf c.ap k c.lo k then Wf c.ap k c.lo (k-1)else Wf c.ap k c.lo k)else Wf c.ap k c.lo k);have g0:Wf c.ap k c.lo k<=(if 0<k then(if Wf c.ap k c.lo (k-1)>Wf c.ap k c.lo k then Wf c.ap k c.lo (k-1)else Wf c.ap k c.lo k)else Wf c.ap k c.lo k):=by
    split
    ·split<;>omega
    ·exact Int.le_refl _
   refine⟨fun i hi=>?_,fun i hi=>?_,fun p d hi=>?_,fun x l i hi=>?_⟩
   ·by_cases e:i=k
    ·subst e;rw[b,<-f];exact Int.le_trans g0 g1
    ·rw[a i e];exact r i (by omega)
   ·by_cases e:i+1=k
    ·subst e;rw[b,a i (by omega)]
     refine Int.le_trans ?_ g1;rw[if_pos (by omega),Nat.add_sub_cancel]
     split<;>omega
    ·rw[a i (by omega),a (i+1) e];exact o i (by omega)
   ·have:=g p d
    by_cases e:p.2=k
    ·rw[e,b,a p.1 (by omega)];exact g2 p d e
    ·rw[a p.1 (by omega),a p.2 e];exact q p d (by omega)
   ·by_cases e:i=k
    ·subst e;rw[b];refine X4p _ _ _ _ _ ?_ fun p d e=>?_
     ·have s:=l.1 i (by omega)
      rw[f];split
      ·have:=m x l (i-1) (by omega)
       have t:=l.2.1 (i-1) (by omega)
       rw[Nat.sub_add_cancel (by omega)]at t
       split<;>omega
      ·exact s
     ·have y:=g p d;have:=m x l p.1 (by omega)
      have u:=l.2.2 p d;rw[e]at u;omega
    ·rw[a i e];exact m x l i (by omega)
 obtain⟨r,o,q,m⟩:=main n (Nat.le_refl _);exact⟨⟨r,o,fun p d=>q p d (g p d).2⟩,m⟩
def X3g (H:Nat->Int):List (Nat×Nat)->Nat->Int->Int
 | [],_,a=>a
 | p::ps,i,a=>X3g H ps i (if p.1=i then(if H p.2-1<a then H p.2-1 else a)else a)
def dn1 (n:Nat) (ap:List (Nat×Nat)) (H:Nat->Int) (i:Nat):Int:=X3g H ap i (if i+1<n then(if H (i+1)<H i then H (i+1)else H i)else H i)
def We (n:Nat) (ap:List (Nat×Nat)):Nat->(Nat->Int)->Nat->Int
 | 0,H=>H
 | k+1,H=>fun j=>if j=n-1-k then dn1 n ap (We n ap k H) (n-1-k)else We n ap k H j
theorem X4r (H:Nat->Int) (i:Nat):∀(ap:List (Nat×Nat)) (a:Int),X3g H ap i a<=a/\∀p∈ap,p.1=i->X3g H ap i a<=H p.2-1
 | [],a=>⟨Int.le_refl _,by simp⟩
 | p::ps,a=>by
  unfold X3g;have b:(if p.1=i then(if H p.2-1<a then H p.2-1 else a)else a)<=a/\(p.1=i->(if p.1=i then(if H p.2-1<a then H p.2-1 else a)else a)<=H p.2-1):=by
   by_cases e:p.1=i
   ·by_cases e2:H p.2-1<a
    ·simp only[e,e2,if_true];exact⟨by omega,fun _=>Int.le_refl _⟩
    ·simp only[e,e2,if_true,if_false];exact⟨Int.le_refl _,fun _=>by omega⟩
   ·simp only[e,if_false];exact⟨Int.le_refl _,fun h=>h.elim⟩
  generalize (if p.1=i then(if H p.2-1<a then H p.2-1 else a)else a)=a' at b⊢;obtain⟨d,f⟩:=X4r H i ps a';refine⟨Int.le_trans d b.1,fun q c e=>?_⟩;rcases jv.1 c with rfl|c
  ·exact Int.le_trans d (b.2 e)
  ·exact f q c e
theorem X4q (H:Nat->Int) (i:Nat) (b:Int):∀(ap:List (Nat×Nat)) (a:Int),b<=a->(∀p∈ap,p.1=i->b<=H p.2-1)->b<=X3g H ap i a
 | [],_,h,_=>h
 | p::ps,a,h,hp=>by
  unfold X3g;refine X4q H i b ps _ ?_ fun q c=>hp q (by simp[c])
  have:=hp p (by simp)
  split
  ·rename_i e;have:=this e;split<;>omega
  ·exact h
theorem X4Z (n:Nat) (ap:List (Nat×Nat)) (H:Nat->Int):∀(k j:Nat),k<=n->j+k<n->We n ap k H j=H j
 | 0,_,_,_=>rfl
 | k+1,j,hk,h=>by
  unfold We;rw[if_neg (by omega)]
  exact X4Z n ap H k j (by omega) (by omega)
theorem X1D {n:Nat} {c:Con} (l:X3L n c.ap):X3o n c (We n c.ap n c.hi):=by
 have main:∀k,k<=n->(∀i,i<n->n<=i+k->We n c.ap k c.hi i<=c.hi i)/\(∀i,i+1<n->n<=i+k->We n c.ap k c.hi i<=We n c.ap k c.hi (i+1))/\(∀p∈c.ap,n<=p.1+k->We n c.ap k c.hi p.1+1<=We n c.ap k c.hi p.2) ∧
   ∀x,DnN n c x->∀i,i<n->n<=i+k->x i<=We n c.ap k c.hi i:=by
  intro k
  induction k with
  | zero=>intro _;exact⟨fun i h h'=>by omega,fun i h h'=>by omega,fun p d h=>by have:=l p d;omega,fun x _ i h h'=>by omega⟩
  | succ k ih =>
   intro y;obtain⟨t,r,s,o⟩:=ih (by omega)
   have a:∀j,j≠n-1-k->We n c.ap (k+1) c.hi j=We n c.ap k c.hi j:=fun j v=>by show(if j=n-1-k then _ else _)=_;rw[if_neg v]
   have b:We n c.ap (k+1) c.hi (n-1-k)=dn1 n c.ap (We n c.ap k c.hi) (n-1-k):=by show(if n-1-k=n-1-k then _ else _)=_;rw[if_pos rfl]
   have f:We n c.ap k c.hi (n-1-k)=c.hi (n-1-k):=X4Z _ _ _ _ _ (by omega) (by omega)
   obtain⟨g1,g2⟩:=X4r (We n c.ap k c.hi) (n-1-k) c.ap (if n-1-k+1<n then(if We n c.ap k c.hi (n-1-k+1)<We n c.ap k c.hi (n-1-k)then We n c.ap k c.hi (n-1-k+1)else We n c.ap k c.hi (n-1-k))else We n c.ap k c.hi (n-1-k));have g0:(if n-1-k+1<n then(if We n c.ap k c.hi (n-1-k+1)<We n c.ap k c.hi (n-1-k)then We n c.ap k c.hi (n-1-k+1)else We n c.ap k c.hi (n-1-k))else We n c.ap k c.hi (n-1-k))<=We n c.ap k c.hi (n-1-k):=by
    split
    ·split<;>omega
    ·exact Int.le_refl _
   refine⟨fun i hi m=>?_,fun i hi m=>?_,fun p d hi=>?_,fun x g i hi m=>?_⟩
   ·by_cases e:i=n-1-k
    ·rw[e,b,<-f];exact Int.le_trans g1 g0
    ·rw[a i e];exact t i hi (by omega)
   ·by_cases e:i=n-1-k
    ·rw[e,b,a (n-1-k+1) (by omega)]
     refine Int.le_trans g1 ?_;rw[if_pos (by omega)]
     split<;>omega
    ·rw[a i e,a (i+1) (by omega)];exact r i hi (by omega)
   ·have:=l p d
    by_cases e:p.1=n-1-k
    ·have:=g2 p d e;rw[e,b,a p.2 (by omega)]
     unfold dn1;omega
    ·rw[a p.1 e,a p.2 (by omega)];exact s p d (by omega)
   ·by_cases e:i=n-1-k
    ·rw[e,b];refine X4q _ _ _ _ _ ?_ fun p d e'=>?_
     ·have q:=g.1 i hi;rw[e]at q;rw[f];split
      ·have:=o x g (n-1-k+1) (by omega) (by omega)
       have w:=g.2.1 (n-1-k) (by omega)
       split<;>omega
      ·exact q
     ·have z:=l p d;have:=o x g p.2 (by omega) (by omega)
      have u:=g.2.2 p d;rw[e']at u;omega
    ·rw[a i e];exact o x g i hi (by omega)
 obtain⟨t,r,s,o⟩:=main n (Nat.le_refl _);exact⟨⟨fun i hi=>t i hi (by omega),fun i hi=>r i hi (by omega),fun p d=>s p d (by omega)⟩,fun x g i hi=>o x g i hi (by omega)⟩
def X2z (n:Nat) (c:Con):Nat->Int:=Wf c.ap n c.lo
def X2y (n:Nat) (c:Con):Nat->Int:=We n c.ap n c.hi
def okN (n:Nat) (c:Con):Bool:=(List.range n).all fun i=>decide (X2z n c i<=X2y n c i)
theorem X3h {n:Nat} {c:Con}:okN n c=true↔∀i,i<n->X2z n c i<=X2y n c i:=by
 unfold okN;rw[List.all_eq_true];exact⟨fun h i hi=>by simpa using h i (List.mem_range.2 hi),fun h i hi=>by simpa using h i (List.mem_range.1 hi)⟩
abbrev Str:=Int×Nat
def X1G (n:Nat) (c:Con) (s:Str) (a b:Int):Con where
 hi:=fun i=>if 0<=s.1/\i=s.1.toNat then(if b<c.hi i then b else c.hi i)else c.hi i
 lo:=fun i=>if s.2<n/\i=s.2 then(if a+1>c.lo i then a+1 else c.lo i)else c.lo i
 ap:=if 0<=s.1/\s.2<n then c.ap++[(s.1.toNat,s.2)]else c.ap
def X3v (n:Nat) (s:Str):Prop:=s.1<s.2/\s.2<=n /\ -1<=s.1
theorem X50 {n:Nat} {c:Con} (h:X3L n c.ap) {s:Str} (e:X3v n s) (a b:Int):X3L n (X1G n c s a b).ap:=by
 unfold X1G;simp only;split
 ·rename_i hc;intro p d;rcases List.mem_append.1 d with d|d
  ·exact h p d
  ·simp only[List.mem_singleton]at d;subst d;unfold X3v at e;simp only;omega
 ·exact h
def X5f (n:Nat) (x:Nat->Int) (s:Str) (a b:Int):Prop:=(0<=s.1->x s.1.toNat<=b)/\(s.2<n->a+1<=x s.2)/\(0<=s.1->s.2<n->x s.1.toNat+1<=x s.2)
theorem X3C {n:Nat} {c:Con} {s:Str} {a b:Int} {x:Nat->Int}:ApN (X1G n c s a b).ap x↔ApN c.ap x/\(0<=s.1->s.2<n->x s.1.toNat+1<=x s.2):=by
 unfold X1G ApN;simp only;split
 ·rename_i hc;constructor
  ·intro h;exact⟨fun p d=>h p (List.mem_append.2 (.inl d)),fun _ _=>h (s.1.toNat,s.2) (List.mem_append.2 (.inr (by simp)))⟩
  ·rintro⟨f,e⟩ p d;rcases List.mem_append.1 d with d|d
   ·exact f p d
   ·simp only[List.mem_singleton]at d;subst d;exact e hc.1 hc.2
 ·rename_i hc;exact⟨fun h=>⟨h,fun f e=>absurd ⟨f,e⟩ hc⟩,fun h=>h.1⟩
theorem X5t {n:Nat} {c:Con} {s:Str} {a b:Int} {x:Nat->Int}:UpN n (X1G n c s a b) x↔UpN n c x/\(s.2<n->a+1<=x s.2)/\(0<=s.1->s.2<n->x s.1.toNat+1<=x s.2):=by
 unfold UpN;rw[X3C];have e:(∀i,i<n->(X1G n c s a b).lo i<=x i)↔(∀i,i<n->c.lo i<=x i)/\(s.2<n->a+1<=x s.2):=by
  unfold X1G;simp only;constructor
  ·intro h;refine⟨fun i hi=>?_,fun l=>?_⟩
   ·have:=h i hi;split at this
    ·split at this<;>omega
    ·exact this
   ·have:=h s.2 l;rw[if_pos ⟨l,rfl⟩]at this;split at this<;>omega
  ·rintro⟨g,d⟩ i hi;have:=g i hi;split
   ·rename_i hc;have f:=d hc.1;rw[<-hc.2]at f;split<;>omega
   ·exact this
 rw[e];constructor
 ·rintro⟨⟨g,d⟩,f,j,k⟩;exact⟨⟨g,f,j⟩,d,k⟩
 ·rintro⟨⟨g,f,j⟩,d,k⟩;exact⟨⟨g,d⟩,f,j,k⟩
theorem X5s {n:Nat} {c:Con} {s:Str} (m:X3v n s) {a b:Int} {x:Nat->Int}:DnN n (X1G n c s a b) x↔DnN n c x/\(0<=s.1->x s.1.toNat<=b)/\(0<=s.1->s.2<n->x s.1.toNat+1<=x s.2):=by
 unfold DnN;rw[X3C];have e:(∀i,i<n->x i<=(X1G n c s a b).hi i)↔(∀i,i<n->x i<=c.hi i)/\(0<=s.1->x s.1.toNat<=b):=by
  unfold X1G;unfold X3v at m;simp only;constructor
  ·intro h;refine⟨fun i hi=>?_,fun l=>?_⟩
   ·have:=h i hi;split at this
    ·split at this<;>omega
    ·exact this
   ·have:=h s.1.toNat (by omega)
    rw[if_pos ⟨l,rfl⟩]at this;split at this<;>omega
  ·rintro⟨g,d⟩ i hi;have:=g i hi;split
   ·rename_i hc;have f:=d hc.1;rw[<-hc.2]at f;split<;>omega
   ·exact this
 rw[e];constructor
 ·rintro⟨⟨g,d⟩,f,j,k⟩;exact⟨⟨g,f,j⟩,d,k⟩
 ·rintro⟨⟨g,f,j⟩,d,k⟩;exact⟨⟨g,d⟩,f,j,k⟩
theorem X4G {n:Nat} {c:Con} {s:Str} (i:X3v n s) {a b:Int} {x:Nat->Int}:Sol n (X1G n c s a b) x↔Sol n c x/\X5f n x s a b:=by
 unfold Sol X5f;rw[X5t,X5s i];constructor
 ·rintro⟨⟨g,e,d⟩,f,h,_⟩;exact⟨⟨g,f⟩,h,e,d⟩
 ·rintro⟨⟨g,f⟩,h,e,d⟩;exact⟨⟨g,e,d⟩,f,h,d⟩
def EqC (n:Nat) (c c':Con):Prop:=(∀x,UpN n c x↔UpN n c' x)/\∀x,DnN n c x↔DnN n c' x
theorem EqC.lo {n:Nat} {c c':Con} (h:EqC n c c') (a:X3L n c.ap) (b:X3L n c'.ap) (i:Nat) (hi:i<n):X2z n c i=X2z n c' i:=X5k (X1H a) (X1H b) h.1 i hi
theorem EqC.hi {n:Nat} {c c':Con} (h:EqC n c c') (a:X3L n c.ap) (b:X3L n c'.ap) (i:Nat) (hi:i<n):X2y n c i=X2y n c' i:=X5i (X1D a) (X1D b) h.2 i hi
def X4s (n:Nat) (c:Con):Con:=⟨X2z n c,X2y n c,c.ap⟩
structure Wit where
 strs:List Str
 a:Int
 b:Int
def X4X (n:Nat) (w:Wit):Prop:=∀s∈w.strs,X3v n s
def Xz (n:Nat):List Wit->Con->List Con
 | [],c=>if okN n c then [X4s n c]else []
 | w::ws,c=>if okN n c then w.strs.flatMap fun s=>Xz n ws (X1G n c s w.a w.b)else []
def X5n (n:Nat) (c:Con) (ws:List Wit) (x:Nat->Int):Prop:=Sol n c x/\∀w∈ws,∃s∈w.strs,X5f n x s w.a w.b
theorem X3e {n:Nat}:∀(ws:List Wit) (c:Con),(∀w∈ws,X4X n w)->X3L n c.ap->∀d∈Xz n ws c,X5n n c ws d.lo/\X5n n c ws d.hi/\∀i,i<n->d.lo i<=d.hi i
 | [],c,_,h1,d,a=>by
  unfold Xz at a;split at a
  ·rename_i g;simp only[List.mem_singleton]at a;subst a;have b:=X3h.1 g;exact⟨⟨X4h (X1H h1) (X1D h1) b,by simp⟩,⟨X5d (X1H h1) (X1D h1) b,by simp⟩,b⟩
  ·cases a
 | w::ws,c,hw,h1,d,a=>by
  unfold Xz at a;split at a
  ·obtain⟨s,f,a⟩:=List.mem_flatMap.1 a;have e:=hw w (by simp) s f
   obtain⟨⟨k1,k2⟩,⟨k3,k4⟩,k5⟩:=X3e ws _ (fun v hv=>hw v (by simp[hv])) (X50 h1 e _ _) d a
   rw[X4G e]at k1 k3;refine⟨⟨k1.1,fun v hv=>?_⟩,⟨k3.1,fun v hv=>?_⟩,k5⟩
   ·rcases jv.1 hv with rfl|hv
    ·exact⟨s,f,k1.2⟩
    ·exact k2 v hv
   ·rcases jv.1 hv with rfl|hv
    ·exact⟨s,f,k3.2⟩
    ·exact k4 v hv
  ·cases a
theorem X3y {n:Nat}:∀(ws:List Wit) (c:Con),(∀w∈ws,X4X n w)->X3L n c.ap->∀x,X5n n c ws x->∃d∈Xz n ws c,∀i,i<n->d.lo i<=x i/\x i<=d.hi i
 | [],c,_,h1,x,hx=>by
  have g:okN n c=true:=X3h.2 ((X53 (X1H h1) (X1D h1)).1 ⟨x,hx.1⟩);unfold Xz;rw[if_pos g];exact⟨X4s n c,List.mem_singleton.2 rfl,fun i hi=>⟨(X1H h1).least x hx.1.1 i hi,(X1D h1).great x hx.1.2 i hi⟩⟩
 | w::ws,c,hw,h1,x,hx=>by
  have g:okN n c=true:=X3h.2 ((X53 (X1H h1) (X1D h1)).1 ⟨x,hx.1⟩);unfold Xz;rw[if_pos g];obtain⟨s,j,e⟩:=hx.2 w (by simp)
  have f:=hw w (by simp) s j
  obtain⟨d,k,h⟩:=X3y ws (X1G n c s w.a w.b) (fun v hv=>hw v (by simp[hv])) (X50 h1 f _ _) x ⟨(X4G f).2 ⟨hx.1,e⟩,fun v hv=>hx.2 v (by simp[hv])⟩
  exact⟨d,List.mem_flatMap.2 ⟨s,j,k⟩,h⟩
theorem X4E {n:Nat} {ws:List Wit} {c:Con} (b:∀w∈ws,X4X n w) (e:X3L n c.ap):Xz n ws c≠[]↔∃x,X5n n c ws x:=by
 constructor
 ·intro h;obtain⟨d,a⟩:=List.exists_mem_of_ne_nil _ h;exact⟨_,(X3e ws c b e d a).1⟩
 ·rintro⟨x,f⟩ h;obtain⟨d,a,_⟩:=X3y ws c b e x f;rw[h]at a;cases a
end Nore
open Go Go.Ab
namespace Nore
def spN (L H:Nat->Int):Nat->Y2:=fun j=>⟨L j,H j⟩
def X1x (f:Nat->Y2) (k:Nat) (s:Y2):Nat->Y2:=fun j=>bif Nat.beq j k then s else f j
theorem X4I (f:Nat->Y2) (k:Nat) (s s':Y2):(fun j=>bif Nat.beq j k then s' else X1x f k s j)=X1x f k s':=by
 funext j;unfold X1x;cases Nat.beq j k<;>rfl
theorem X4H (f:Nat->Y2) (k:Nat) (s:Y2):X1x f k s k=s:=by unfold X1x;simp
theorem X3X (f:Nat->Y2) {k j:Nat} (s:Y2) (h:j≠k):X1x f k s j=f j:=by
 unfold X1x;cases e:Nat.beq j k with
 | false=>rfl
 | true=>exact absurd (je e) h
def X1 (ap:List Zb):List (Nat×Nat):=ap.map fun s=>(s.from_.toNat,s.to_.toNat)
def X4y (ap:List Zb):Prop:=ap.length<=1000/\∀s∈ap,0<=s.from_/\s.from_<s.to_/\s.to_<10
def BdN (L:Nat->Int):Prop:=∀i,-1000000<=L i/\L i<=1000000
theorem X5b (L:Nat->Int) (p:Nat×Nat) (ps:List (Nat×Nat)) (i:Nat) (a:Int):X3f L (p::ps) i a=X3f L ps i (if p.2=i then(if L p.1+1>a then L p.1+1 else a)else a):=rfl
theorem X5c (H:Nat->Int) (p:Nat×Nat) (ps:List (Nat×Nat)) (i:Nat) (a:Int):X3g H (p::ps) i a=X3g H ps i (if p.1=i then(if H p.2-1<a then H p.2-1 else a)else a):=rfl
theorem X3j (ap:List Zb) (f:X4y ap) (L H:Nat->Int) (hL:BdN L) (k:Nat) (t:k<10) (a:Int) (s : -1000000<=a/\a<=1000001) (x1 x3:Int) (x6:List Zb) (x9:Zc) (x10:Nat->Y2) :
  W2 (ap.length:Int) x1 (k:Int) x3 (k:Int) x6 ap x9 x10 (0,X1x (spN L H) k ⟨a,H k⟩)=some (X1x (spN L H) k ⟨X3f L (X1 ap) k a,H k⟩):=by
 obtain⟨w,o,n⟩:=X16 (Xr (ap.length:Int) x1 (k:Int) x3 (k:Int) x6 ap x9 x10) ap.length (fun i (b:Nat->Y2)=>((i:Int),b))
  (fun i b=>∃a',(-1000000<=a'/\a'<=1000001)/\b=X1x (spN L H) k ⟨a',H k⟩/\X3f L (X1 (ap.drop i)) k a'=X3f L (X1 ap) k a) (fun w=>w=X1x (spN L H) k ⟨X3f L (X1 ap) k a,H k⟩)
  (fun b ⟨a',_,e,h⟩=>⟨_,by simp[Xr,X7];rfl,by
   rw[e,<-h,List.drop_length];rfl⟩)
  (fun i b hi ⟨a',m,e,h⟩=>by
   right;have g:ap[i]∈ap:=jl hi;obtain⟨s1,s2,s3⟩:=f.2 _ g;have j:ap.getD i ⟨0,0⟩=ap[i]:=XN _ _ _ hi;have e1:decide ((i:Int)<(ap.length:Int))=true:=by simp;omega
   have w1:=wS i (by have:=f.1;omega)
   have c:X1 (ap.drop i)=(ap[i].from_.toNat,ap[i].to_.toNat)::X1 (ap.drop (i+1)):=by
    rw[jb hi];rfl
   rw[c,X5b]at h;simp only at h;simp only[Xr,X7,e1,z0S,ju,jB,kS,j,w1]
   by_cases ht:ap[i].to_=(k:Int)
   ·have p:ap[i].from_.toNat≠k:=by omega
    have c1:(ap[i].to_==(k:Int))=true:=by simp[ht]
    have c2:decide ((k:Int)<(10:Int))=true:=by simp;omega
    have c3:Nat.blt k 10=true:=by simp[Nat.blt_eq];omega
    have c4:decide (0<=ap[i].from_)=true:=by simp[s1]
    have c5:decide (ap[i].from_<(10:Int))=true:=by simp;omega
    have c6:Nat.blt ap[i].from_.toNat 10=true:=by rw[Nat.blt_eq];omega
    have hv:=hL ap[i].from_.toNat;have r:(b ap[i].from_.toNat).Lo=L ap[i].from_.toNat:=by rw[e,X3X _ _ p];rfl
    have q:b k=⟨a',H k⟩:=by rw[e,X4H]
    have w2:IntKind.wrap .i64 (L ap[i].from_.toNat+1)=L ap[i].from_.toNat+1:=by rw[w64]<;>omega
    simp only[c1,c2,c3,c4,c5,c6,jB,ju,r,q,w2];have d:ap[i].to_.toNat=k:=by omega
    rw[if_pos d]at h;refine⟨_,rfl,(if L ap[i].from_.toNat+1>a' then L ap[i].from_.toNat+1 else a'),by split<;>omega,?_,h⟩
    rw[e,X4I]
    by_cases hc:L ap[i].from_.toNat+1>a'<;>simp[hc]
   ·have c1:(ap[i].to_==(k:Int))=false:=X3b ht;simp only[c1,jA];have d:¬ap[i].to_.toNat=k:=by omega
    rw[if_neg d]at h;exact⟨_,rfl,a',m,e,h⟩) 0 _ (Nat.zero_le _) ⟨a,s,rfl,rfl⟩
 have l:W2 (ap.length:Int) x1 (k:Int) x3 (k:Int) x6 ap x9 x10 (0,X1x (spN L H) k ⟨a,H k⟩)=some w:=o;rw[l,n]
theorem X4u (ap:List Zb) (b:X4y ap) (L H:Nat->Int) (hL:BdN L) (k:Nat) (c:k<10) (a:Int) (d : -1000000<=a/\a<=1000001) (x1 x3:Int) (x6:List Zb) (x9:Zc) (x10:Nat->Y2) :
  WD (ap.length:Int) x1 (k:Int) x3 (k:Int) x6 ap x9 x10 (0,X1x (spN L H) k ⟨a,H k⟩)=some (X1x (spN L H) k ⟨X3f L (X1 ap) k a,H k⟩) :=
 X3j ap b L H hL k c a d x1 x3 x6 x9 x10
theorem X3k (ap:List Zb) (f:X4y ap) (L H:Nat->Int) (r:BdN H) (k:Nat) (u:k<10) (a:Int) (t : -1000001<=a/\a<=1000000) (x2:Int) (x5:List Zb) (x7:Zc) (x8:Nat->Y2) :
  W4 ap x2 (ap.length:Int) (k:Int) x5 x7 x8 (0,X1x (spN L H) k ⟨L k,a⟩)=some (X1x (spN L H) k ⟨L k,X3g H (X1 ap) k a⟩):=by
 obtain⟨w,o,n⟩:=X16 (Xt ap x2 (ap.length:Int) (k:Int) x5 x7 x8) ap.length (fun i (b:Nat->Y2)=>((i:Int),b))
  (fun i b=>∃a',(-1000001<=a'/\a'<=1000000)/\b=X1x (spN L H) k ⟨L k,a'⟩/\X3g H (X1 (ap.drop i)) k a'=X3g H (X1 ap) k a) (fun w=>w=X1x (spN L H) k ⟨L k,X3g H (X1 ap) k a⟩)
  (fun b ⟨a',_,e,h⟩=>⟨_,by simp[Xt,X8];rfl,by
   rw[e,<-h,List.drop_length];rfl⟩)
  (fun i b hi ⟨a',m,e,h⟩=>by
   right;have g:ap[i]∈ap:=jl hi;obtain⟨s1,s2,s3⟩:=f.2 _ g;have j:ap.getD i ⟨0,0⟩=ap[i]:=XN _ _ _ hi;have e1:decide ((i:Int)<(ap.length:Int))=true:=by simp;omega
   have w1:=wS i (by have:=f.1;omega)
   have c:X1 (ap.drop i)=(ap[i].from_.toNat,ap[i].to_.toNat)::X1 (ap.drop (i+1)):=by
    rw[jb hi];rfl
   rw[c,X5c]at h;simp only at h;simp only[Xt,X8,e1,z0S,ju,jB,kS,j,w1]
   by_cases ht:ap[i].from_=(k:Int)
   ·have p:ap[i].to_.toNat≠k:=by omega
    have c1:(ap[i].from_==(k:Int))=true:=by simp[ht]
    have c2:decide ((k:Int)<(10:Int))=true:=by simp;omega
    have c3:Nat.blt k 10=true:=by simp[Nat.blt_eq];omega
    have c4:decide (0<=ap[i].to_)=true:=by simp;omega
    have c5:decide (ap[i].to_<(10:Int))=true:=by simp;omega
    have c6:Nat.blt ap[i].to_.toNat 10=true:=by rw[Nat.blt_eq];omega
    have hv:=r ap[i].to_.toNat;have s:(b ap[i].to_.toNat).Hi=H ap[i].to_.toNat:=by rw[e,X3X _ _ p];rfl
    have q:b k=⟨L k,a'⟩:=by rw[e,X4H]
    have w2:IntKind.wrap .i64 (H ap[i].to_.toNat-1)=H ap[i].to_.toNat-1:=by rw[w64]<;>omega
    simp only[c1,c2,c3,c4,c5,c6,jB,ju,s,q,w2];have d:ap[i].from_.toNat=k:=by omega
    rw[if_pos d]at h;refine⟨_,rfl,(if H ap[i].to_.toNat-1<a' then H ap[i].to_.toNat-1 else a'),by split<;>omega,?_,h⟩
    rw[e,X4I]
    by_cases hc:H ap[i].to_.toNat-1<a'<;>simp[hc]
   ·have c1:(ap[i].from_==(k:Int))=false:=X3b ht;simp only[c1,jA];have d:¬ap[i].from_.toNat=k:=by omega
    rw[if_neg d]at h;exact⟨_,rfl,a',m,e,h⟩) 0 _ (Nat.zero_le _) ⟨a,t,rfl,rfl⟩
 have l:W4 ap x2 (ap.length:Int) (k:Int) x5 x7 x8 (0,X1x (spN L H) k ⟨L k,a⟩)=some w:=o;rw[l,n]
theorem X4w (ap:List Zb) (b:X4y ap) (L H:Nat->Int) (e:BdN H) (k:Nat) (c:k<10) (a:Int) (d : -1000001<=a/\a<=1000000) (x2:Int) (x5:List Zb) (x7:Zc) (x8:Nat->Y2) :
  WE ap x2 (ap.length:Int) (k:Int) x5 x7 x8 (0,X1x (spN L H) k ⟨L k,a⟩)=some (X1x (spN L H) k ⟨L k,X3g H (X1 ap) k a⟩) :=
 X3k ap b L H e k c a d x2 x5 x7 x8
theorem X54 (ap:List (Nat×Nat)) (L:Nat->Int) (a b:Int) (hL:∀i,a<=L i/\L i<=b):∀(k j:Nat),a<=Wf ap k L j/\Wf ap k L j<=b+k
 | 0,j=>by
  have:=hL j;show a<=L j/\L j<=b+((0:Nat):Int);omega
 | k+1,j=>by
  have ih:=X54 ap L a b hL k;unfold Wf;split
  ·unfold up1;obtain⟨g,_⟩:=X4o (Wf ap k L) k ap (if 0<k then(if Wf ap k L (k-1)>Wf ap k L k then Wf ap k L (k-1)else Wf ap k L k)else Wf ap k L k);have i1:=ih k;have i2:=ih (k-1);refine⟨Int.le_trans ?_ g,X4p _ _ _ _ _ ?_ fun p _ _=>?_⟩
   ·split
    ·split<;>omega
    ·omega
   ·split
    ·split<;>omega
    ·omega
   ·have:=ih p.1;omega
  ·have:=ih j;omega
theorem X4Y (n:Nat) (ap:List (Nat×Nat)) (H:Nat->Int) (a b:Int) (c:∀i,a<=H i/\H i<=b):∀(k j:Nat),a-k<=We n ap k H j/\We n ap k H j<=b
 | 0,j=>by
  have:=c j;show a-((0:Nat):Int)<=H j/\H j<=b;omega
 | k+1,j=>by
  have ih:=X4Y n ap H a b c k;unfold We;split
  ·unfold dn1;obtain⟨g,_⟩:=X4r (We n ap k H) (n-1-k) ap (if n-1-k+1<n then(if We n ap k H (n-1-k+1)<We n ap k H (n-1-k)then We n ap k H (n-1-k+1)else We n ap k H (n-1-k))else We n ap k H (n-1-k));have i1:=ih (n-1-k);have i2:=ih (n-1-k+1);refine⟨X4q _ _ _ _ _ ?_ fun p _ _=>?_,Int.le_trans g ?_⟩
   ·split
    ·split<;>omega
    ·omega
   ·have:=ih p.2;omega
   ·split
    ·split<;>omega
    ·omega
  ·have:=ih j;omega
theorem X4g (f:Nat->Y2) (k:Nat):X1x f k (f k)=f:=by
 funext j;unfold X1x;cases e:Nat.beq j k with
 | false=>rfl
 | true=>rw[je e];rfl
theorem X52 (ap:List (Nat×Nat)) (L H:Nat->Int) (i:Nat):X1x (spN (Wf ap i L) H) i ⟨up1 ap (Wf ap i L) i,H i⟩=spN (Wf ap (i+1) L) H:=by
 funext j;unfold X1x spN;cases e:Nat.beq j i with
 | false =>
  have:j≠i:=fun h=>by subst h;simp at e
  show(⟨Wf ap i L j,H j⟩:Y2)=⟨if j=i then _ else _,H j⟩;rw[if_neg this]
 | true =>
  have:=je e;subst this;show(⟨_,_⟩:Y2)=⟨if j=j then _ else _,H j⟩;rw[if_pos rfl]
theorem X5v (n:Nat) (ap:List (Nat×Nat)) (L H:Nat->Int) (i:Nat):X1x (spN L (We n ap i H)) (n-1-i) ⟨L (n-1-i),dn1 n ap (We n ap i H) (n-1-i)⟩=spN L (We n ap (i+1) H):=by
 funext j;unfold X1x spN;cases e:Nat.beq j (n-1-i)with
 | false =>
  have:j≠n-1-i:=fun h=>by subst h;simp at e
  show(⟨L j,We n ap i H j⟩:Y2)=⟨L j,if j=n-1-i then _ else _⟩;rw[if_neg this]
 | true =>
  have:=je e;subst this;show(⟨_,_⟩:Y2)=⟨L (n-1-i),if n-1-i=n-1-i then _ else _⟩;rw[if_pos rfl]
theorem X4t (ap:List Zb) (c:X4y ap) (L H:Nat->Int) (hL:∀i,-900000<=L i/\L i<=900000) (n:Nat) (p:n<=10) (x1:Int) (x5:Zc) (x6:Nat->Y2) :
  W1 (n:Int) x1 ap x5 x6 (0,spN L H)=some (spN (Wf (X1 ap) n L) H):=by
 obtain⟨w,m,k⟩:=X16 (Xq (n:Int) x1 ap x5 x6) n (fun i (b:Nat->Y2)=>((i:Int),b))
  (fun i b=>b=spN (Wf (X1 ap) i L) H) (fun w=>w=spN (Wf (X1 ap) n L) H)
  (fun b d=>⟨b,by simp[Xq,XB],d⟩)
  (fun i b hi d=>by
   right;have e1:decide ((i:Int)<(n:Int))=true:=by simp;omega
   have w1:=wS i (by omega)
   have f:=X54 (X1 ap) L _ _ hL i;have h:BdN (Wf (X1 ap) i L):=fun j=>by have:=f j;omega
   have o:=f i;simp only[Xq,XB,e1,jB,w1,kS]
   by_cases h0:0<i
   ·have l:=f (i-1);have c1:decide ((i:Int)>0)=true:=by simp;omega
    have c2:decide ((i:Int)<(10:Int))=true:=by simp;omega
    have c3:Nat.blt i 10=true:=by rw[Nat.blt_eq];omega
    have w2:IntKind.wrap .i64 ((i:Int)-1)=((i-1:Nat):Int):=by rw[w64]<;>omega
    have c4:decide (((i-1:Nat):Int)<(10:Int))=true:=by simp;omega
    have c5:Nat.blt (i-1) 10=true:=by rw[Nat.blt_eq];omega
    simp only[c1,c2,c3,w2,c4,c5,z0S,kS,ju,jB];have a:(fun j=>bif Nat.beq j i then(⟨bif decide ((b (i-1)).Lo>(b i).Lo)then(b (i-1)).Lo else(b i).Lo,(b i).Hi⟩:Y2)else b j)=X1x (spN (Wf (X1 ap) i L) H) i ⟨if Wf (X1 ap) i L (i-1)>Wf (X1 ap) i L i then Wf (X1 ap) i L (i-1)else Wf (X1 ap) i L i,H i⟩:=by
     rw[d];funext j;unfold X1x spN
     by_cases hc:Wf (X1 ap) i L (i-1)>Wf (X1 ap) i L i<;>simp[hc]
    rw[a,X3j ap c _ H h i (by omega) _ (by split<;>omega)]
    refine⟨_,rfl,?_⟩;rw[<-X52];unfold up1;rw[if_pos h0]
   ·have g:i=0:=by omega
    subst g;have c1:decide (((0:Nat):Int)>0)=false:=rfl;simp only[c1,jA];have a:b=X1x (spN (Wf (X1 ap) 0 L) H) 0 ⟨Wf (X1 ap) 0 L 0,H 0⟩:=by
     rw[d];exact(X4g (spN (Wf (X1 ap) 0 L) H) 0).symm
    rw[a,X4u ap c _ H h 0 (by omega) _ (by omega)]
    refine⟨_,rfl,?_⟩;rw[<-X52];rfl) 0 _ (Nat.zero_le _) rfl
 have e:W1 (n:Int) x1 ap x5 x6 (0,spN L H)=some w:=m;rw[e,k]
theorem X4v (ap:List Zb) (d:X4y ap) (L H:Nat->Int) (r:∀i,-900000<=H i/\H i<=900000) (n:Nat) (t:n<=10) (x4:Zc) (x5:Nat->Y2) :
  W3 (n:Int) ap x4 x5 ((n:Int)-1,spN L H)=some (spN L (We n (X1 ap) n H)):=by
 obtain⟨w,l,o⟩:=X16 (Xs (n:Int) ap x4 x5) n (fun i (b:Nat->Y2)=>((n:Int)-1-i,b))
  (fun i b=>b=spN L (We n (X1 ap) i H)) (fun w=>w=spN L (We n (X1 ap) n H))
  (fun b e=>⟨b,by
   have e1:decide ((n:Int)-1-(n:Int)>=0)=false:=by simp;omega
   simp only[Xs,XC,e1,jA],e⟩)
  (fun i b hi e=>by
   right;obtain⟨k,q⟩:∃k:Nat,k=n-1-i:=⟨_,rfl⟩;have f:(n:Int)-1-i=(k:Int):=by omega
   have e1:decide ((k:Int)>=0)=true:=by simp
   have w1:=wS k (by omega)
   have w3:IntKind.wrap .i64 ((k:Int)-1)=(n:Int)-1-((i+1:Nat):Int):=by rw[w64]<;>omega
   have g:=X4Y n (X1 ap) H _ _ r i;have m:BdN (We n (X1 ap) i H):=fun j=>by have:=g j;omega
   have p:=g k;have a:=X5v n (X1 ap) L H i;rw[<-q]at a;unfold dn1 at a;simp only[f,Xs,XC,e1,jB,w1,kS,w3]
   by_cases h0:k+1<n
   ·have s:=g (k+1);have c1:decide (((k+1:Nat):Int)<(n:Int))=true:=by simp;omega
    have c2:decide ((k:Int)<(10:Int))=true:=by simp;omega
    have c3:Nat.blt k 10=true:=by rw[Nat.blt_eq];omega
    have c4:decide (((k+1:Nat):Int)<(10:Int))=true:=by simp;omega
    have c5:Nat.blt (k+1) 10=true:=by rw[Nat.blt_eq];omega
    simp only[c1,c2,c3,c4,c5,z0S,kS,ju,jB];have c:(fun j=>bif Nat.beq j k then(⟨(b k).Lo,bif decide ((b (k+1)).Hi<(b k).Hi)then(b (k+1)).Hi else(b k).Hi⟩:Y2)else b j)=X1x (spN L (We n (X1 ap) i H)) k ⟨L k,if We n (X1 ap) i H (k+1)<We n (X1 ap) i H k then We n (X1 ap) i H (k+1)else We n (X1 ap) i H k⟩:=by
     rw[e];funext j;unfold X1x spN
     by_cases hc:We n (X1 ap) i H (k+1)<We n (X1 ap) i H k<;>simp[hc]
    rw[c,X3k ap d L _ m k (by omega) _ (by split<;>omega)]
    refine⟨_,rfl,?_⟩;rw[if_pos h0]at a;exact a
   ·have c1:decide (((k+1:Nat):Int)<(n:Int))=false:=by simp;omega
    simp only[c1,jA];have c:b=X1x (spN L (We n (X1 ap) i H)) k ⟨L k,We n (X1 ap) i H k⟩:=by
     rw[e];exact(X4g (spN L (We n (X1 ap) i H)) k).symm
    rw[c,X4w ap d L _ m k (by omega) _ (by omega)]
    refine⟨_,rfl,?_⟩;rw[if_neg h0]at a;exact a) 0 _ (Nat.zero_le _) rfl
 have e0:(n:Int)-1-((0:Nat):Int)=(n:Int)-1:=by omega
 rw[e0]at l;have h:W3 (n:Int) ap x4 x5 ((n:Int)-1,spN L H)=some w:=l;rw[h,o]
def X44 (L H:Nat->Int) (ap:List Zb):Con:=⟨L,H,X1 ap⟩
theorem X4T (q:Zc) (L H:Nat->Int) (ap:List Zb) (g:X4y ap) (hL:∀i,-900000<=L i/\L i<=900000) (s:∀i,-900000<=H i/\H i<=900000) (m:q.CoRecord.Entries.length<=10) :
  XZ q (spN L H) ap=some (spN (X2z q.CoRecord.Entries.length (X44 L H ap)) (X2y q.CoRecord.Entries.length (X44 L H ap)),okN q.CoRecord.Entries.length (X44 L H ap)):=by
 rw[X1J];unfold XU;generalize q.CoRecord.Entries.length=n at m;have w1:IntKind.wrap .i64 ((n:Int)-1)=(n:Int)-1:=by rw[w64]<;>omega
 rw[X4t ap g L H hL n m];simp only[jS,w1];rw[X4v ap g _ H s n m];have c1:decide ((n:Int)<=(10:Int))=true:=by simp;omega
 simp only[jS,z0S,c1,ju,jB,kS,List.drop_zero];have c:(List.map (spN (Wf (X1 ap) n L) (We n (X1 ap) n H)) (List.range 10)).take n=(List.range n).map (spN (X2z n (X44 L H ap)) (X2y n (X44 L H ap))):=by
  rw[<-List.map_take,List.take_range,Nat.min_eq_left m];rfl
 rw[c];generalize hA:X2z n (X44 L H ap)=A;generalize hB:X2y n (X44 L H ap)=B;have a:((List.range n).map (spN A B)).length=n:=by simp
 obtain⟨w,u,r⟩:=X16 (Xu (n:Int) ((List.range n).map (spN A B))) n (fun i (_:Unit)=>(i:Int)) (fun i _=>∀j,j<i->A j<=B j)
  (fun w=>(∃j:Nat,w=.inl (j:Int)/\¬∀i,i<n->A i<=B i)\/(w=.inr ()/\∀i,i<n->A i<=B i))
  (fun _ h=>⟨.inr (),by simp[Xu,XD],.inr ⟨rfl,h⟩⟩)
  (fun i _ hi h=>by
   have e1:decide ((i:Int)<(n:Int))=true:=by simp;omega
   have l:((List.range n).map (spN A B)).getD i ⟨0,0⟩=⟨A i,B i⟩:=by
    rw[XN _ _ _ (by rw[a];exact hi)]
    simp[spN]
   have w1:=wS i (by omega)
   simp only[Xu,XD,e1,a,z0S,ju,jB,kS,l,w1];rw[X1u];unfold XQ;simp only[jS]
   by_cases hc:A i>B i
   ·left;exact⟨.inl (i:Int),by simp[hc],.inl ⟨i,rfl,fun k=>by have:=k i hi;omega⟩⟩
   ·right;refine⟨(),by simp[hc],fun j t=>?_⟩
    by_cases e:j=i
    ·subst e;omega
    ·exact h j (by omega)) 0 () (Nat.zero_le _) (fun j t=>by omega)
 have p:WF (n:Int) ((List.range n).map (spN A B)) 0=some w:=u;have d:Wf (X1 ap) n L=A:=hA;have b:We n (X1 ap) n H=B:=hB;rw[a,p,d,b];rcases r with⟨k,rfl,o⟩|⟨rfl,f⟩
 ·have:okN n (X44 L H ap)=false:=by
   rw[Bool.eq_false_iff];intro h;rw[X3h,hA,hB]at h;exact o h
  rw[this];simp
 ·have:okN n (X44 L H ap)=true:=by
   rw[X3h,hA,hB];exact f
  rw[this];simp
def X48 (dev st:Int):List Zq->Nat->Int->Int->List Z6
 | [],i,now,fr=>if now=st then [⟨fr,i⟩]else []
 | x::xs,i,now,fr=>if x.Device=dev then(if now=st then [⟨fr,i⟩]else [])++X48 dev st xs (i+1) x.State i else X48 dev st xs (i+1) now fr
theorem X4J (dev st:Int) (i:Nat) (now fr:Int):X48 dev st [] i now fr=if now=st then [⟨fr,i⟩]else []:=rfl
theorem X4k (dev st:Int) (x:Zq) (xs:List Zq) (i:Nat) (now fr:Int):X48 dev st (x::xs) i now fr=if x.Device=dev then(if now=st then [⟨fr,i⟩]else [])++X48 dev st xs (i+1) x.State i else X48 dev st xs (i+1) now fr:=rfl
theorem X3J {c d:Con} (g:∀i,c.lo i=d.lo i) (f:∀i,c.hi i=d.hi i) (h:c.ap=d.ap):c=d:=by
 obtain⟨a,b,e⟩:=c;obtain⟨a',b',e'⟩:=d;have g:a=a':=funext g;have f:b=b':=funext f;simp only at h;rw[g,f,h]
theorem X5l {σ ω:Type} {st st':σ->Option (σ⊕ω)} (h:∀s x,st s=some x->st' s=some x) {s:σ} {w:ω} (hr:Za4 st s=some w):Za4 st' s=some w:=by
 rw[Z29]at hr⊢
 induction hr with
 | done e=>exact .done (h _ _ e)
 | next e _ ih=>exact .next (h _ _ e) ih
theorem X4d {α β:Type} {t:(α->Option β)->α->Option β} (ht:∀f g:α->Option β,(∀x r,f x=some r->g x=some r)->∀x r,t f x=some r->t g x=some r) :
  ∀(n:Nat) (x:α) (r:β),ZaU t n x=some r->ZaU t (n+1) x=some r
 | 0,_,_,h=>by cases h
 | n+1,x,r,h=>ht _ _ (X4d ht n) x r h
theorem ZfH {α β:Type} {t:(α->Option β)->α->Option β} (ht:∀f g:α->Option β,(∀x r,f x=some r->g x=some r)->∀x r,t f x=some r->t g x=some r) (n:Nat) :
  ∀(k:Nat) (x:α) (r:β),ZaU t n x=some r->ZaU t (n+k) x=some r
 | 0,_,_,h=>h
 | k+1,x,r,h=>X4d ht (n+k) x r (ZfH ht n k x r h)
theorem X4Q {α β:Type} {t:(α->Option β)->α->Option β} (ht:∀f g:α->Option β,(∀x r,f x=some r->g x=some r)->∀x r,t f x=some r->t g x=some r) {n:Nat} {x:α} {r:β} (h:ZaU t n x=some r):ZdB t x=some r:=by
 refine Zk8 (fun m q b=>?_) ⟨n,r,h⟩;have c:=ZfH ht n m x r h;have a:=ZfH ht m n x q b;rw[Nat.add_comm]at a;rw[c]at a;exact(Option.some.inj a).symm
theorem X4x (dev st:Int) (n:Nat):∀(e:List Zq) (i:Nat) (now fr:Int),i+e.length=n -> -1<=fr->fr<i->((X48 dev st e i now fr).length<=e.length+1)/\∀s∈X48 dev st e i now fr,-1<=s.from_/\s.from_<s.to_/\s.to_<=n
 | [],i,now,fr,h,h1,h2=>by
  simp only[List.length_nil,Nat.add_zero]at h;rw[X4J];split
  ·refine⟨by simp,fun s a=>?_⟩
   rw[List.mem_singleton.1 a];simp only;omega
  ·exact⟨by simp,fun s a=>by cases a⟩
 | x::xs,i,now,fr,h,h1,h2=>by
  simp only[List.length_cons]at h;rw[X4k];split
  ·obtain⟨g1,g2⟩:=X4x dev st n xs (i+1) x.State i (by omega) (by omega) (by omega)
   split
   ·refine⟨by simp only[List.length_append,List.length_cons,List.length_nil];omega,fun s a=>?_⟩
    rcases List.mem_append.1 a with q|q
    ·rw[List.mem_singleton.1 q];simp only;omega
    ·exact g2 s q
   ·refine⟨by simp only[List.nil_append,List.length_cons];omega,fun s a=>g2 s (by simpa using a)⟩
  ·obtain⟨g1,g2⟩:=X4x dev st n xs (i+1) now fr (by omega) h1 (by omega)
   exact⟨by simp only[List.length_cons];omega,g2⟩
def X4K (r:CoRecord) (x:Zr):List Z6:=X48 x.Device x.State r.Entries 0 (r.Devices.getD x.Device.toNat ⟨ByteArray.empty,0,0⟩).First (-1)
def X41 (s:Z6):Str:=(s.from_,s.to_.toNat)
def X2f (r:CoRecord) (x:Zr):Wit:=⟨(X4K r x).map X41,x.At.Lo,x.At.Hi⟩
structure X2C (r:CoRecord) (x:Zr):Prop where
 dev:0<=x.Device/\x.Device<r.Devices.length
 lo : -900000<=x.At.Lo/\x.At.Lo<900000
 hi : -900000<=x.At.Hi/\x.At.Hi<=900000
theorem X5m {r:CoRecord} (x:Zr) {n:Nat} (d:r.Entries.length=n):(X4K r x).length<=n+1/\∀s∈X4K r x,0<=s.to_/\X3v n (X41 s):=by
 obtain⟨a,c⟩:=X4x x.Device x.State n r.Entries 0 (r.Devices.getD x.Device.toNat ⟨ByteArray.empty,0,0⟩).First (-1) (by omega) (by omega) (by omega)
 rw[d]at a;refine⟨a,fun s b=>?_⟩;have:=c s b;unfold X3v X41;simp only;omega
def X4U (r:CoRecord):Prop:=r.Entries.length<=10/\∀x∈r.Entries,-900000<=x.At.Lo/\x.At.Lo<=900000 /\ -900000<=x.At.Hi/\x.At.Hi<=900000
def LeO {β:Type} (a b:Option β):Prop:=∀r,a=some r->b=some r
theorem LeO.same {β:Type} (a:Option β):LeO a a:=fun _ h=>h
theorem LeO.cond {β:Type} {c:Bool} {a a' b b':Option β} (d:LeO a a') (e:LeO b b'):LeO (bif c then a else b) (bif c then a' else b'):=by
 cases c
 ·exact e
 ·exact d
theorem LeO.bind {α β:Type} {o o':Option α} {k k':α->Option β} (b:LeO o o') (c:∀a,LeO (k a) (k' a)):LeO (o.bind k) (o'.bind k'):=fun r h=>by
 cases o with
 | none=>cases h
 | some a=>rw[b a rfl];exact c a r h
theorem LeO.run {σ ω:Type} {st st':σ->Option (σ⊕ω)} (h:∀s,LeO (st s) (st' s)) (s:σ):LeO (Za4 st s) (Za4 st' s):=fun _ hr=>X5l h hr
theorem X42 (f g:((Nat->Y2)×Int×(List Zb)×Zc×Bool×Zc×Zc)->Option ((Bool×Zc×Bool×Zc×Zc)⊕(Bool×Zc×Bool×Zc×Zc))) (h:∀x,LeO (f x) (g x)) (x):LeO (X2 f x) (X2 g x):=by
 unfold X2 X9;refine .bind (.same _) fun a=>.cond (.same _) (.cond (.same _) (.cond (.cond (.cond (.cond (.bind ?_ fun _=>.same _) (.same _)) (.same _)) (.same _)) (.same _)));unfold Xy;refine LeO.run (fun s=>?_) _;unfold X6 X0;dsimp only
 repeat' (first|with_reducible exact LeO.same _|with_reducible exact LeO.bind (h _) fun _=>LeO.same _|with_reducible apply LeO.cond)
def X24 (u:Nat->Y2) (ap:List Zb):Con:=X44 (fun j=>(u j).Lo) (fun j=>(u j).Hi) ap
def UBd (u:Nat->Y2):Prop:=∀i,-900000<=(u i).Lo/\(u i).Lo<=900000 /\ -900000<=(u i).Hi/\(u i).Hi<=900000
def ApK (n k:Nat) (ap:List Zb):Prop:=ap.length<=k/\∀s∈ap,0<=s.from_/\s.from_<s.to_/\s.to_<n
theorem ApK.bd {n k:Nat} {ap:List Zb} (h:ApK n k ap) (c:n<=10) (a:k<=1000):X4y ap:=⟨Nat.le_trans h.1 a,fun s b=>by have:=h.2 s b;omega⟩
theorem ApK.keep {n k:Nat} {ap:List Zb} (h:ApK n k ap):ApK n (k+1) ap:=⟨Nat.le_succ_of_le h.1,h.2⟩
theorem ApK.add {n k:Nat} {ap:List Zb} (h:ApK n k ap) {f t:Nat} (c:f<t) (b:t<n):ApK n (k+1) (ap++[⟨(f:Int),(t:Int)⟩]) :=
 ⟨by rw[List.length_append,List.length_singleton];exact Nat.succ_le_succ h.1,fun s a=>by
  rcases List.mem_append.1 a with q|q
  ·exact h.2 s q
  ·rw[List.mem_singleton.1 q];simp only;omega⟩
theorem X3Y (q:Zc) (u:Nat->Y2) (ap:List Zb) {k:Nat} (a:UBd u) (b:ApK q.CoRecord.Entries.length k ap) (d:k<=1000) (c:q.CoRecord.Entries.length<=10) :
  XZ q u ap=some (spN (X2z q.CoRecord.Entries.length (X24 u ap)) (X2y q.CoRecord.Entries.length (X24 u ap)),okN q.CoRecord.Entries.length (X24 u ap)) :=
 X4T q (fun j=>(u j).Lo) (fun j=>(u j).Hi) ap (b.bd c d) (fun i=>⟨(a i).1,(a i).2.1⟩) (fun i=>⟨(a i).2.2.1,(a i).2.2.2⟩) c
def X2D (u:Nat->Y2) (f:Nat) (b:Int):Nat->Y2:=fun j=>bif Nat.beq j f then Y2.mk (u f).Lo (bif decide (b<(u f).Hi)then b else(u f).Hi)else u j
def X2E (u:Nat->Y2) (t:Nat) (a:Int):Nat->Y2:=fun j=>bif Nat.beq j t then Y2.mk (bif decide (a>(u t).Lo)then a else(u t).Lo) (u t).Hi else u j
theorem X3c (u:Nat->Y2) (f:Nat) (b:Int) (j:Nat):(X2D u f b j).Lo=(u j).Lo:=by
 unfold X2D;cases e:Nat.beq j f with
 | true=>rw[je e];rfl
 | false=>rfl
theorem X3M (u:Nat->Y2) (f:Nat) (b:Int) (j:Nat):(X2D u f b j).Hi=if j=f then(if b<(u f).Hi then b else(u f).Hi)else(u j).Hi:=by
 unfold X2D;cases e:Nat.beq j f with
 | true =>
  rw[if_pos (je e)]
  by_cases c:b<(u f).Hi<;>simp[c]
 | false=>rw[if_neg (Nat.ne_of_beq_eq_false e)];rfl
theorem X3N (u:Nat->Y2) (f:Nat) (b:Int) (j:Nat):(X2E u f b j).Hi=(u j).Hi:=by
 unfold X2E;cases e:Nat.beq j f with
 | true=>rw[je e];rfl
 | false=>rfl
theorem X3O (u:Nat->Y2) (f:Nat) (b:Int) (j:Nat):(X2E u f b j).Lo=if j=f then(if b>(u f).Lo then b else(u f).Lo)else(u j).Lo:=by
 unfold X2E;cases e:Nat.beq j f with
 | true =>
  rw[if_pos (je e)]
  by_cases c:b>(u f).Lo<;>simp[c]
 | false=>rw[if_neg (Nat.ne_of_beq_eq_false e)];rfl
theorem UBd.hi {u:Nat->Y2} (h:UBd u) (f:Nat) {b:Int} (c : -900000<=b/\b<=900000):UBd (X2D u f b):=fun i=>by
 rw[X3c,X3M];have a:=h i;have d:=h f;refine⟨a.1,a.2.1,?_⟩;split
 ·split<;>omega
 ·exact a.2.2
theorem UBd.lo {u:Nat->Y2} (h:UBd u) (f:Nat) {b:Int} (c : -900000<=b/\b<=900000):UBd (X2E u f b):=fun i=>by
 rw[X3O,X3N];have a:=h i;have d:=h f;refine⟨?_,?_,a.2.2⟩
 ·split
  ·split<;>omega
  ·exact a.1
 ·split
  ·split<;>omega
  ·exact a.2.1
theorem X4P (ap:List Zb) (f t:Nat):X1 (ap++[⟨(f:Int),(t:Int)⟩])=X1 ap++[(f,t)]:=by
 unfold X1;rw[List.map_append];rfl
theorem X58 (u:Nat->Y2) (ap:List Zb) {n f t:Nat} (ht:t<n) (a b:Int):X24 (X2E (X2D u f b) t (a+1)) (ap++[⟨(f:Int),(t:Int)⟩])=X1G n (X24 u ap) ((f:Int),t) a b:=by
 refine X3J (fun i=>?_) (fun i=>?_) ?_
 ·show(X2E (X2D u f b) t (a+1) i).Lo=if t<n/\i=t then(if a+1>(u i).Lo then a+1 else(u i).Lo)else(u i).Lo;rw[X3O,X3c,X3c]
  by_cases e:i=t
  ·subst e;simp[ht]
  ·rw[if_neg e,if_neg fun h=>e h.2]
 ·show(X2E (X2D u f b) t (a+1) i).Hi=if 0<=(f:Int)/\i=(f:Int).toNat then(if b<(u i).Hi then b else(u i).Hi)else(u i).Hi;rw[X3N,X3M,kS]
  by_cases e:i=f
  ·subst e;simp
  ·rw[if_neg e,if_neg fun h=>e h.2]
 ·show X1 (ap++[⟨(f:Int),(t:Int)⟩])=if 0<=(f:Int)/\t<n then X1 ap++[((f:Int).toNat,t)]else X1 ap;rw[if_pos ⟨by omega,ht⟩,X4P,kS]
theorem X5p (u:Nat->Y2) (ap:List Zb) {n f t:Nat} (ht:¬t<n) (a b:Int):X24 (X2D u f b) ap=X1G n (X24 u ap) ((f:Int),t) a b:=by
 refine X3J (fun i=>?_) (fun i=>?_) ?_
 ·show(X2D u f b i).Lo=if t<n/\i=t then(if a+1>(u i).Lo then a+1 else(u i).Lo)else(u i).Lo;rw[X3c,if_neg fun h=>ht h.1]
 ·show(X2D u f b i).Hi=if 0<=(f:Int)/\i=(f:Int).toNat then(if b<(u i).Hi then b else(u i).Hi)else(u i).Hi;rw[X3M,kS]
  by_cases e:i=f
  ·subst e;simp
  ·rw[if_neg e,if_neg fun h=>e h.2]
 ·show X1 ap=if 0<=(f:Int)/\t<n then X1 ap++[((f:Int).toNat,t)]else X1 ap;rw[if_neg fun h=>ht h.2]
theorem X5q (u:Nat->Y2) (ap:List Zb) {n t:Nat} {fr:Int} (c:¬0<=fr) (ht:t<n) (a b:Int):X24 (X2E u t (a+1)) ap=X1G n (X24 u ap) (fr,t) a b:=by
 refine X3J (fun i=>?_) (fun i=>?_) ?_
 ·show(X2E u t (a+1) i).Lo=if t<n/\i=t then(if a+1>(u i).Lo then a+1 else(u i).Lo)else(u i).Lo;rw[X3O]
  by_cases e:i=t
  ·subst e;simp[ht]
  ·rw[if_neg e,if_neg fun h=>e h.2]
 ·show(X2E u t (a+1) i).Hi=if 0<=fr/\i=fr.toNat then(if b<(u i).Hi then b else(u i).Hi)else(u i).Hi;rw[X3N,if_neg fun h=>c h.1]
 ·show X1 ap=if 0<=fr/\t<n then X1 ap++[(fr.toNat,t)]else X1 ap;rw[if_neg fun h=>c h.1]
theorem X5r (u:Nat->Y2) (ap:List Zb) {n t:Nat} {fr:Int} (c:¬0<=fr) (ht:¬t<n) (a b:Int):X24 u ap=X1G n (X24 u ap) (fr,t) a b:=by
 refine X3J (fun i=>?_) (fun i=>?_) ?_
 ·show(u i).Lo=if t<n/\i=t then(if a+1>(u i).Lo then a+1 else(u i).Lo)else(u i).Lo;rw[if_neg fun h=>ht h.1]
 ·show(u i).Hi=if 0<=fr/\i=fr.toNat then(if b<(u i).Hi then b else(u i).Hi)else(u i).Hi;rw[if_neg fun h=>c h.1]
 ·show X1 ap=if 0<=fr/\t<n then X1 ap++[(fr.toNat,t)]else X1 ap;rw[if_neg fun h=>c h.1]
def X47 (n:Nat) (dev st:Int) (E:List Zq) (i:Nat) (now fr:Int):List Z6:=if i<=n then X48 dev st (E.drop i) i now fr else []
theorem X3Z (n:Nat) (dev st:Int) (E:List Zq) (now fr:Int):X47 n dev st E (n+1) now fr=[]:=if_neg (by omega)
theorem X5e {n:Nat} {E:List Zq} (hE:E.length=n) (dev st:Int) {i:Nat} (hi:i<n+1) (now fr:Int) {X:Zq} (hX:(E++[Zq.mk dev (-1) (Y2.mk 0 0)]).getD i (Zq.mk 0 0 (Y2.mk 0 0))=X) :
  X47 n dev st E i now fr=if X.Device=dev then(if now=st then [⟨fr,i⟩]else [])++X47 n dev st E (i+1) X.State i else X47 n dev st E (i+1) now fr:=by
 by_cases h:i<n
 ·have b:X=E[i]:=by
   rw[<-hX,XN _ _ _ (by rw[List.length_append,List.length_singleton];omega),List.getElem_append_left (by omega)]
  have d:i<=n:=by omega
  have c:i+1<=n:=by omega
  simp only[X47,d,c,if_true];rw[jb (by omega),X4k,<-b]
 ·have a:i=n:=by omega
  subst a;have b:X=Zq.mk dev (-1) (Y2.mk 0 0):=by
   rw[<-hX,XN _ _ _ (by rw[List.length_append,List.length_singleton];omega),List.getElem_append_right (by omega)]
   simp
  rw[X3Z,X3Z,b,if_pos rfl];unfold X47;rw[if_pos (Nat.le_refl _),jd (by omega),X4J,jo]
def X3V (q:Zc) (L:List Con):(Bool×Zc×Bool×Zc×Zc)⊕(Bool×Zc×Bool×Zc×Zc) :=
 if L.isEmpty then .inl (true,q,false,q,q)else .inr (false,q,true,q,q)
theorem X4D (n:Nat) (c:Con):Xz n [] c=if okN n c then [X4s n c]else []:=rfl
theorem X4n (n:Nat) (w:Wit) (ws:List Wit) (c:Con):Xz n (w::ws) c=if okN n c then w.strs.flatMap fun s=>Xz n ws (X1G n c s w.a w.b)else []:=rfl
theorem X2q (q:Zc) (n:Nat) (o:q.CoRecord.Entries.length=n) (h10:n<=10) (h8:q.seen.length<=8) (hs:∀x∈q.seen,X2C q.CoRecord x)
  (ih0:((Nat->Y2)×Int×(List Zb)×Zc×Bool×Zc×Zc)->Option ((Bool×Zc×Bool×Zc×Zc)⊕(Bool×Zc×Bool×Zc×Zc))) (l:List Zr) (k:Nat) (hk:k+l.length=q.seen.length) (hd:q.seen.drop k=l)
  (ih:∀x l',l=x::l'->k+1+l'.length=q.seen.length->q.seen.drop (k+1)=l'->∀(u:Nat->Y2) (ap:List Zb),UBd u->ApK n (k+1) ap->∀c,X24 u ap=c->ih0 (u,((k+1:Nat):Int),ap,q,false,q,q)=some (X3V q (Xz n (l'.map (X2f q.CoRecord)) c)))
  (u:Nat->Y2) (ap:List Zb) (r:UBd u) (a:ApK n k ap) (c:Con) (hc:X24 u ap=c) :
  X9 ih0 u (k:Int) ap q false q q=some (X3V q (Xz n (l.map (X2f q.CoRecord)) c)):=by
 cases l with
 | nil =>
  have h:=X3Y q u ap r (o▸a) (by omega) (by omega)
  rw[o,hc]at h;unfold X9;simp only[h,jS,List.map_nil,X4D];have c1:((k:Int)==(q.seen.length:Int))=true:=by simp only[List.length_nil,Nat.add_zero]at hk;simp[hk]
  cases okN n c with
  | false=>rfl
  | true=>simp only[Bool.not_true,jA,c1,jB];rfl
 | cons x l =>
  simp only[List.length_cons]at hk;have h:=X3Y q u ap r (o▸a) (by omega) (by omega)
  rw[o,hc]at h;have p:k<q.seen.length:=by omega
  have d:q.seen.drop k=q.seen[k]::q.seen.drop (k+1):=jb p;rw[hd]at d;injection d with hx hl
  have g:X2C q.CoRecord x:=hs x (hx▸jl p);have a0:q.seen.getD k (Zr.mk 0 0 (Y2.mk 0 0))=x:=by rw[XN _ _ _ p,<-hx]
  have j:=ih x l rfl (by omega) hl.symm
  unfold X9;simp only[h,jS,jr];show _=some (X3V q (Xz n (X2f q.CoRecord x::l.map (X2f q.CoRecord)) c));rw[X4n];cases hok:okN n c with
  | false=>rfl
  | true =>
   have c1:((k:Int)==(q.seen.length:Int))=false:=X3b (by omega)
   have c2:decide ((k:Int)<(q.seen.length:Int))=true:=by simp;omega
   have c3:decide (0<=x.Device)=true:=by simp[g.dev.1]
   have c4:decide (x.Device<(q.CoRecord.Devices.length:Int))=true:=by simp[g.dev.2]
   have c5:Nat.ble (n*(32+1)) 100000000000000=true:=by rw[Nat.ble_eq];omega
   have c6:Nat.ble ((n+1)*(32+1)) 200000000000000=true:=by rw[Nat.ble_eq];omega
   have c7:Nat.blt 0 4=true:=rfl;have t:(q.CoRecord.Entries++[Zq.mk x.Device (-1) (Y2.mk 0 0)]).length=n+1:=by rw[List.length_append,List.length_singleton,o]
   simp only[Bool.not_true,jA,c1,c2,c3,c4,o,c5,List.length_singleton,c6,c7,z0S,ju,jB,kS,a0,if_true,t];unfold Xy;refine Eq.trans (WZ _ _ (n+1) (fun i (b:Int×Zb)=>((i:Int),b.1,b.2,q,false,q,q)) (fun i b => -1<=b.2.from_/\b.2.from_<i)
    (fun i b=>some (X3V q ((X47 n x.Device x.State q.CoRecord.Entries i b.1 b.2.from_).flatMap fun s=>Xz n (l.map (X2f q.CoRecord)) (X1G n c (X41 s) x.At.Lo x.At.Hi)))) ?_ ?_ 0
    ((q.CoRecord.Devices.getD x.Device.toNat ⟨ByteArray.empty,0,0⟩).First,⟨-1,0⟩) (by omega) ⟨by simp,by simp⟩) ?_
   ·intro b hP R;have e1:decide (((n+1:Nat):Int)<((n+1:Nat):Int))=false:=by simp
    simp only[X6,X0,e1,jA,X3Z];rfl
   ·intro i b hi hP R hR;obtain⟨now,s⟩:=b;obtain⟨v,hP2⟩:=hP;simp only at v hP2;generalize hX:(q.CoRecord.Entries++[Zq.mk x.Device (-1) (Y2.mk 0 0)]).getD i (Zq.mk 0 0 (Y2.mk 0 0))=X;simp only;rw[X5e o x.Device x.State hi now s.from_ hX];have e1:decide ((i:Int)<((n+1:Nat):Int))=true:=by simp;omega
    have e3:Nat.blt i (n+1)=true:=by rw[Nat.blt_eq];exact hi
    have w1:=wS i (by omega)
    have w2:=wS k (by omega)
    have w3:IntKind.wrap .i64 (x.At.Lo+1)=x.At.Lo+1:=by have:=g.lo;rw[w64]<;>omega
    have hl2:=a.1;have b1:Nat.ble (ap.length*(16+1)) 100000000000000=true:=by rw[Nat.ble_eq];omega
    have b2:Nat.ble ((ap.length+1)*(16+1)) 200000000000000=true:=by rw[Nat.ble_eq];omega
    have b3:Nat.blt 0 2=true:=rfl;have hxl:=g.lo;have w:=g.hi;simp only[X6,X0,t,e1,e3,z0S,ju,jB,kS,w1,w2,w3,hX,o,b1,b2,b3,List.length_singleton]
    by_cases hdv:X.Device=x.Device
    ·have d1:(X.Device != x.Device)=false:=by simp[hdv]
     simp only[d1,jA];rw[if_pos hdv]
     by_cases hnow:now=x.State
     ·have d2:(now==x.State)=true:=by simp[hnow]
      simp only[d2,jB];rw[if_pos hnow,List.singleton_append,List.flatMap_cons];generalize hrest:((X47 n x.Device x.State q.CoRecord.Entries (i+1) X.State (i:Int)).flatMap fun s=>Xz n (l.map (X2f q.CoRecord)) (X1G n c (X41 s) x.At.Lo x.At.Hi))=rest;have m:R (((i+1:Nat):Int),X.State,Zb.mk (i:Int) (i:Int),q,false,q,q)=some (X3V q rest):=by
       rw[<-hrest];exact hR (X.State,⟨(i:Int),(i:Int)⟩) ⟨by simp only;omega,by simp only;omega⟩
      show _=some (X3V q (Xz n (l.map (X2f q.CoRecord)) (X1G n c (s.from_,(i:Int).toNat) x.At.Lo x.At.Hi)++rest));rw[kS]
      by_cases hf:0<=s.from_
      ·obtain⟨f,z⟩:=Int.eq_ofNat_of_zero_le hf;have f1:decide ((f:Int)>=0)=true:=by simp
       have f2:decide ((f:Int)<(10:Int))=true:=by simp;omega
       have f3:Nat.blt f 10=true:=by rw[Nat.blt_eq];omega
       by_cases hin:i<n
       ·have g1:decide ((i:Int)<(n:Int))=true:=by simp;omega
        have g2:decide ((i:Int)<(10:Int))=true:=by simp;omega
        have g3:Nat.blt i 10=true:=by rw[Nat.blt_eq];omega
        simp only[z,f1,f2,f3,g1,g2,g3,z0S,kS,ju,jB];rw[j _ _ ?b1h1 ?b1h2 (X1G n c ((f:Int),i) x.At.Lo x.At.Hi) ?b1h3]
        case b1h1=>exact(r.hi f w).lo i (by omega)
        case b1h2=>exact a.add (by omega) hin
        case b1h3=>rw[<-hc];exact X58 u ap hin x.At.Lo x.At.Hi
        generalize Xz n (l.map (X2f q.CoRecord)) (X1G n c ((f:Int),i) x.At.Lo x.At.Hi)=L1;cases L1 with
        | nil=>exact m
        | cons y ys=>rfl
       ·have g1:decide ((i:Int)<(n:Int))=false:=by simp;omega
        simp only[z,f1,f2,f3,g1,z0S,kS,ju,jB,jA];rw[j _ _ ?b2h1 ?b2h2 (X1G n c ((f:Int),i) x.At.Lo x.At.Hi) ?b2h3]
        case b2h1=>exact r.hi f w
        case b2h2=>exact a.keep
        case b2h3=>rw[<-hc];exact X5p u ap hin x.At.Lo x.At.Hi
        generalize Xz n (l.map (X2f q.CoRecord)) (X1G n c ((f:Int),i) x.At.Lo x.At.Hi)=L1;cases L1 with
        | nil=>exact m
        | cons y ys=>rfl
      ·have f1:decide (s.from_>=0)=false:=by simp;omega
       by_cases hin:i<n
       ·have g1:decide ((i:Int)<(n:Int))=true:=by simp;omega
        have g2:decide ((i:Int)<(10:Int))=true:=by simp;omega
        have g3:Nat.blt i 10=true:=by rw[Nat.blt_eq];omega
        simp only[f1,g1,g2,g3,z0S,kS,ju,jB,jA];rw[j _ _ ?b3h1 ?b3h2 (X1G n c (s.from_,i) x.At.Lo x.At.Hi) ?b3h3]
        case b3h1=>exact r.lo i (by omega)
        case b3h2=>exact a.keep
        case b3h3=>rw[<-hc];exact X5q u ap hf hin x.At.Lo x.At.Hi
        generalize Xz n (l.map (X2f q.CoRecord)) (X1G n c (s.from_,i) x.At.Lo x.At.Hi)=L1;cases L1 with
        | nil=>exact m
        | cons y ys=>rfl
       ·have g1:decide ((i:Int)<(n:Int))=false:=by simp;omega
        simp only[f1,g1,z0S,kS,ju,jB,jA];rw[j _ _ ?b4h1 ?b4h2 (X1G n c (s.from_,i) x.At.Lo x.At.Hi) ?b4h3]
        case b4h1=>exact r
        case b4h2=>exact a.keep
        case b4h3=>rw[<-hc];exact X5r u ap hf hin x.At.Lo x.At.Hi
        generalize Xz n (l.map (X2f q.CoRecord)) (X1G n c (s.from_,i) x.At.Lo x.At.Hi)=L1;cases L1 with
        | nil=>exact m
        | cons y ys=>rfl
     ·have d2:(now==x.State)=false:=X3b hnow;simp only[d2,jA];rw[if_neg hnow,List.nil_append];exact hR (X.State,⟨(i:Int),(i:Int)⟩) ⟨by simp only;omega,by simp only;omega⟩
    ·have d1:(X.Device != x.Device)=true:=X2g hdv;simp only[d1,jB];rw[if_neg hdv];exact hR (now,s) ⟨v,by simp only;omega⟩
   ·simp only[if_true];show some (X3V q ((X47 n x.Device x.State q.CoRecord.Entries 0 (q.CoRecord.Devices.getD x.Device.toNat ⟨ByteArray.empty,0,0⟩).First (-1)).flatMap fun s=>Xz n (l.map (X2f q.CoRecord)) (X1G n c (X41 s) x.At.Lo x.At.Hi)))=_;have e:X47 n x.Device x.State q.CoRecord.Entries 0 (q.CoRecord.Devices.getD x.Device.toNat ⟨ByteArray.empty,0,0⟩).First (-1)=X4K q.CoRecord x:=if_pos (Nat.zero_le _);rw[e];show _=some (X3V q (((X4K q.CoRecord x).map X41).flatMap fun s=>Xz n (l.map (X2f q.CoRecord)) (X1G n c s x.At.Lo x.At.Hi)));rw[List.flatMap_map]
theorem X2V (q:Zc) (n:Nat) (e:q.CoRecord.Entries.length=n) (a:n<=10) (b:q.seen.length<=8) (d:∀x∈q.seen,X2C q.CoRecord x) :
  ∀(l:List Zr) (k:Nat),k+l.length=q.seen.length->q.seen.drop k=l->∀(u:Nat->Y2) (ap:List Zb),UBd u->ApK n k ap->∀c,X24 u ap=c →
   ZaU X2 (l.length+1) (u,(k:Int),ap,q,false,q,q)=some (X3V q (Xz n (l.map (X2f q.CoRecord)) c))
 | [],k,hk,hd,u,ap,hu,hap,c,hc=>X2q q n e a b d (ZaU X2 0) [] k hk hd (fun _ _ h=>by cases h) u ap hu hap c hc
 | x::l,k,hk,hd,u,ap,hu,hap,c,hc=>X2q q n e a b d (ZaU X2 (l.length+1)) (x::l) k hk hd (fun x' l' h g f=>by
   injection h with _ h
   subst h;exact X2V q n e a b d l (k+1) g f) u ap hu hap c hc
theorem X4a (q:Zc) (n:Nat) (i:q.CoRecord.Entries.length=n) (a:n<=10) (c:q.seen.length<=8) (e:∀x∈q.seen,X2C q.CoRecord x) (k:Nat) (j:k<=q.seen.length) (u:Nat->Y2) (ap:List Zb) (d:UBd u) (b:ApK n k ap) :
  XH (u,(k:Int),ap,q,false,q,q)=some (X3V q (Xz n ((q.seen.drop k).map (X2f q.CoRecord)) (X24 u ap))) :=
 X4Q (fun f g h x r hr=>X42 f g h x r hr) (X2V q n i a c e (q.seen.drop k) k (by rw[List.length_drop];omega) rfl u ap d b _ rfl)
theorem X49 (q:Zc) (n:Nat) (g:q.CoRecord.Entries.length=n) (a:n<=10) (f:q.seen.length<=8) (b:∀x∈q.seen,X2C q.CoRecord x) (u:Nat->Y2) (d:UBd u) :
  XG (u,0,q,false,q,q)=some (X3V q (Xz n (q.seen.map (X2f q.CoRecord)) (X24 u []))):=by
 rw[X13];exact X2q q n g a f b XH q.seen 0 (by omega) rfl (fun x l' h j i u ap d e c hc=>by
  rw[X4a q n g a f b 1 (by omega) u ap d e,hc,i]) u [] d ⟨Nat.le_refl _,fun s b=>by cases b⟩ _ rfl
def X1Q (r:CoRecord):Nat->Y2:=fun j=>(r.Entries.getD j (Zq.mk 0 0 (Y2.mk 0 0))).At
theorem X5h {r:CoRecord} (h:X4U r):UBd (X1Q r):=fun i=>by
 unfold X1Q
 by_cases hi:i<r.Entries.length
 ·rw[XN _ _ _ hi];exact h.2 _ (jl hi)
 ·have:r.Entries.getD i (Zq.mk 0 0 (Y2.mk 0 0))=Zq.mk 0 0 (Y2.mk 0 0):=by simp[List.getD,List.getElem?_eq_none (by omega:r.Entries.length<=i)]
  rw[this];simp
theorem X5g (r:CoRecord) (g:r.Entries.length<=10) (x3 x4:Zc) (x6:Bool) (x7:Zc) :
  XI r.Entries (r.Entries.length:Int) x3 x4 x6 x7 (0,fun _=>Y2.mk 0 0)=some (X1Q r):=by
 obtain⟨w,f,d⟩:=X16 (Xa r.Entries (r.Entries.length:Int) x3 x4 x6 x7) r.Entries.length (fun i (b:Nat->Y2)=>((i:Int),b))
  (fun i b=>∀j,b j=if j<i then X1Q r j else Y2.mk 0 0) (fun w=>w=X1Q r)
  (fun b c=>⟨b,by simp[Xa,Xi],funext fun j=>by
   rw[c j];split
   ·rfl
   ·rename_i h;unfold X1Q;rw[show r.Entries.getD j (Zq.mk 0 0 (Y2.mk 0 0))=Zq.mk 0 0 (Y2.mk 0 0) by simp[List.getD,List.getElem?_eq_none (by omega:r.Entries.length<=j)]]⟩)
  (fun i b hi c=>by
   right;have e1:decide ((i:Int)<(r.Entries.length:Int))=true:=by simp;omega
   have e2:decide ((i:Int)<(10:Int))=true:=by simp;omega
   have e3:Nat.blt i 10=true:=by rw[Nat.blt_eq];omega
   have w1:=wS i (by omega)
   simp only[Xa,Xi,e1,e2,e3,z0S,kS,ju,jB,w1];refine⟨_,rfl,fun j=>?_⟩;cases e:Nat.beq j i with
   | true =>
    have:=je e;subst this;rw[if_pos (by omega)];rfl
   | false =>
    have:=Nat.ne_of_beq_eq_false e;simp only[jA];rw[c j]
    by_cases h:j<i
    ·rw[if_pos h,if_pos (by omega)]
    ·rw[if_neg h,if_neg (by omega)]) 0 (fun _=>Y2.mk 0 0) (Nat.zero_le _) (fun j=>by simp)
 have a:XI r.Entries (r.Entries.length:Int) x3 x4 x6 x7 (0,fun _=>Y2.mk 0 0)=some w:=f;rw[a,d]
theorem X3G (q:Zc) (h:X4U q.CoRecord) (a:q.seen.length<=8) (b:∀x∈q.seen,X2C q.CoRecord x) :
  Xn q=some (!(Xz q.CoRecord.Entries.length (q.seen.map (X2f q.CoRecord)) (X24 (X1Q q.CoRecord) [])).isEmpty):=by
 rw[X1M];unfold XY;rw[X1m];unfold Xx;simp only[X5g q.CoRecord h.1,jS];rw[X49 q _ rfl h.1 a b _ (X5h h)];simp only[jS];generalize Xz q.CoRecord.Entries.length (q.seen.map (X2f q.CoRecord)) (X24 (X1Q q.CoRecord) [])=L;cases L with
 | nil=>rfl
 | cons y ys=>rfl
structure X4V (r:CoRecord) (l:List Zr):Prop where
 ent:X4U r
 many:l.length<=8
 seen:∀x∈l,X2C r x
theorem X5y (r:CoRecord) (l:List Zr):∀w∈l.map (X2f r),X4X r.Entries.length w:=fun w a=>by
 obtain⟨x,_,rfl⟩:=List.mem_map.1 a;intro s b;obtain⟨t,ht,rfl⟩:=List.mem_map.1 b;exact((X5m x rfl).2 t ht).2
def X5o (r:CoRecord) (l:List Zr):List Con:=Xz r.Entries.length (l.map (X2f r)) (X24 (X1Q r) [])
theorem X2N {r:CoRecord} {l:List Zr} (h:X4V r l):Xn ⟨r,l⟩=some (!(X5o r l).isEmpty):=X3G ⟨r,l⟩ h.ent h.many h.seen
def X15 (lo hi:Int) (l:List Int):Bool:=l.any fun n=>decide (n<lo)||decide (n>hi)
theorem X3i (lo hi:Int):X15 lo hi []=false:=rfl
theorem X2Z (lo hi n:Int) (l:List Int):X15 lo hi (n::l)=(decide (n<lo)||decide (n>hi)||X15 lo hi l):=rfl
def inN (n lo hi:Int):Bool:=decide (lo<=n)&&decide (n<=hi)
theorem X2Q (n lo hi:Int):X2a n lo hi=some (inN n lo hi):=by
 unfold X2a inN
 by_cases h:lo<=n<;>simp[h]
def X2P:Int->List UInt8->Option Int
 | last,[]=>some last
 | last,c::l=>if 97<=(c.toNat:Int)/\(c.toNat:Int)<=122 then X2P c.toNat l else if(c.toNat:Int)≠45\/last=45 then none else X2P c.toNat l
def X2j:Option Int->Bool
 | none=>false
 | some last=>last != 45
def X38 (s:ByteArray):Bool:=decide (s.size<=14)&&X2j (X2P 45 s.toList)
theorem X5a (s:ByteArray) (i:Nat) (h:(s.get! i).toNat<128):Utf8.decode s i=((s.get! i).toNat,1):=by
 unfold Utf8.decode;simp only[Nat.add_zero];rw[if_pos h]
theorem X59 (s:ByteArray) (i:Nat) (h:¬(s.get! i).toNat<128):128<=(Utf8.decode s i).1:=by
 unfold Utf8.decode;simp only[Nat.add_zero,Utf8.runeError];rw[if_neg h]
 repeat' split
 all_goals simp_all
 all_goals omega
theorem X1d (s:ByteArray):s.toList.length=s.size:=by rw[ByteArray.toList_eq];rfl
theorem X4N (s:ByteArray) (i:Nat) (h:i<s.toList.length):s.get! i=s.toList[i]:=by
 have a:i<s.size:=by rw[<-X1d];exact h
 simp only[ByteArray.toList_eq];show(s.data[i]!)=_;have b:i<s.data.size:=a;rw[getElem!_pos s.data i b];rfl
theorem X43 (s:ByteArray):X2v s=some (X38 s):=by
 have key:=WZ (WH s s) (fun o0=>Sum.elim (fun y1:Bool×Nat=>some y1.fst) (fun y2:Int×Nat=>bif decide ((↑(ByteArray.size s):Int)<=14)then some (y2.fst != 45)else some false) o0) s.toList.length (fun i (b:Int)=>(b,i)) (fun _ _=>True) (fun i b=>some (decide (s.size<=14)&&X2j (X2P b (s.toList.drop i))))
  (by
   intro b _ R;have hh:(decide ((↑s.size:Int)<=14))=decide (s.size<=14):=by rw[decide_eq_decide];omega
   have j:s.toList.drop s.size=[]:=jd (by rw[X1d];exact Nat.le_refl _)
   simp only[j,X2P,X2j,WH,WJ,X1d,hh,Nat.lt_irrefl,decide_false,jA,jS,jy];cases decide (s.size<=14)<;>simp)
  (by
   intro i b hi _ R k;have f:i<s.size:=by rw[<-X1d];exact hi
   have g:=X4N s i hi;simp only[WH,WJ];rw[jb hi];simp only[X2P]
   by_cases h:(s.get! i).toNat<128
   ·rw[X5a s i h];have e:=k ((s.get! i).toNat:Int) trivial;rw[g]at *;generalize s.toList[i]=c at *;simp only[f,decide_true,jB]
    by_cases h1:97<=(c.toNat:Int)
    ·have q1:decide ((c.toNat:Int)>=97)=true:=decide_eq_true h1
     by_cases h2:(c.toNat:Int)<=122
     ·have q2:decide ((c.toNat:Int)<=122)=true:=decide_eq_true h2;simp only[decide_true,decide_false,q1,q2,jB,jS,jw,h1,h2,and_self,if_true];exact e
     ·have q2:decide ((c.toNat:Int)<=122)=false:=decide_eq_false h2;have a:¬((c.toNat:Int)=45):=by omega
      have q3:((c.toNat:Int) != 45)=true:=bne_iff_ne.2 a;simp only[decide_true,decide_false,q1,q2,q3,jB,jA,jS,jw,jy,h2,and_false,if_false,ne_eq,a,not_false_iff,true_or,if_true,X2j,Bool.and_false]
    ·have q1:decide ((c.toNat:Int)>=97)=false:=decide_eq_false h1
     by_cases a:(c.toNat:Int)=45
     ·have q3:((c.toNat:Int) != 45)=false:=by rw[a];rfl
      by_cases h4:b=45
      ·have q4:(b==45)=true:=by rw[h4];rfl
       rw[q1,q3,q4,if_neg (fun hc=>h1 hc.1),if_pos (Or.inr h4)];simp[X2j]
      ·have q4:(b==45)=false:=beq_eq_false_iff_ne.2 h4;simp only[decide_true,decide_false,q1,q3,q4,jB,jA,jS,jw,jy,h1,false_and,if_false,h4,ne_eq,a,not_true,or_self,if_true];rw[a]at e;exact e
     ·have q3:((c.toNat:Int) != 45)=true:=bne_iff_ne.2 a;simp only[decide_true,decide_false,q1,q3,jB,jA,jS,jw,jy,h1,false_and,if_false,ne_eq,a,not_false_iff,true_or,if_true,X2j,Bool.and_false]
   ·have h':=X59 s i h;rw[g]at h;generalize s.toList[i]=c at *;simp only[f,decide_true,jB];generalize (Utf8.decode s i)=d at *;have e1:((d.1:Nat):Int)>=97:=by omega
    have e2:¬((d.1:Nat):Int)<=122:=by omega
    have e3:¬((d.1:Nat):Int)=45:=by omega
    have e4:¬((c.toNat:Int)<=122):=by omega
    have e5:¬((c.toNat:Int)=45):=by omega
    have q1:decide (((d.1:Nat):Int)>=97)=true:=decide_eq_true e1;have q2:decide (((d.1:Nat):Int)<=122)=false:=decide_eq_false e2;have q3:(((d.1:Nat):Int) != 45)=true:=bne_iff_ne.2 e3;simp only[decide_true,decide_false,q1,q2,q3,jB,jA,jS,jw,jy,e4,and_false,if_false,ne_eq,e5,not_false_iff,true_or,if_true,X2j,Bool.and_false])
 exact(key 0 45 (by omega) trivial).trans (by simp[X38])
theorem X46 (s:ByteArray):X29 s=some (X38 s):=by
 unfold X29;rw[X2Q];simp only[jS]
 by_cases hsz:1<=s.size/\s.size<=14
 ·have e1:inN (↑s.size) 1 14=true:=by simp[inN];omega
  rw[e1];simp only[Bool.not_true,jA];have o:=X1d s;have key:=WZ (WI s) (fun o0=>Sum.elim (fun y76:Bool=>some y76) (fun _:Unit=>some true) o0) s.toList.length (fun i (_:Int)=>(i:Int)) (fun i b=>b=if i=0 then 45 else((s.toList.getD (i-1) 0).toNat:Int)) (fun i b=>some (if i<s.toList.length then X2j (X2P b (s.toList.drop i))else true))
   (by
    intro b _ R;simp[WI,WP,X1d])
   (by
    intro i b hi j R n;have m:i<s.size:=by rw[<-X1d];exact hi
    simp only[WI,WP];rw[jb hi];have a:=n ((s.toList[i]).toNat:Int) (by simp[List.getD,hi])
    have l:=wS i (by omega)
    have f:IntKind.wrap .i64 ((i:Int)-1)=((i:Int)-1):=by rw[w64]<;>omega
    have e:IntKind.wrap .i64 ((s.size:Int)-1)=((s.size:Int)-1):=by rw[w64]<;>omega
    simp only[X2P,kS,XN _ _ _ hi,l,f,e];have d1:decide ((i:Int)<↑s.size)=true:=by simp[m]
    have d2:=z0S i;simp only[d1,d2,ju,jB,hi,if_true];generalize hc:s.toList[i]=c at *
    by_cases h1:97<=(c.toNat:Int)/\(c.toNat:Int)<=122
    ·have q1:decide ((c.toNat:Int)>=97)=true:=decide_eq_true h1.1;have q2:decide ((c.toNat:Int)<=122)=true:=decide_eq_true h1.2;simp only[decide_true,decide_false,q1,q2,jB,jS,jw,h1,and_self,if_true];have d:¬((c.toNat:Int)=45):=by omega
     rw[a]
     by_cases hi2:i+1<s.toList.length
     ·simp[hi2]
     ·have:s.toList.drop (i+1)=[]:=jd (by omega)
      simp[hi2,this,X2P,X2j,d]
    ·have g:(bif decide ((c.toNat:Int)>=97)then bif decide ((c.toNat:Int)<=122)then true else false else false)=false:=by
      by_cases a1:(c.toNat:Int)>=97
      ·by_cases a2:(c.toNat:Int)<=122
       ·exact absurd ⟨a1,a2⟩ h1
       ·simp[a1,a2]
      ·simp[a1]
     have g2:∀(Z:Type) (x y:Z),(bif decide ((c.toNat:Int)>=97)then bif decide ((c.toNat:Int)<=122)then x else y else y)=y:=by
      intro Z x y
      by_cases a1:(c.toNat:Int)>=97
      ·by_cases a2:(c.toNat:Int)<=122
       ·exact absurd ⟨a1,a2⟩ h1
       ·simp[a1,a2]
      ·simp[a1]
     rw[g2,if_neg h1]
     by_cases h2:(c.toNat:Int)=45
     ·simp only[h2,bne_self_eq_false,jA]
      by_cases h3:i=0
      ·subst h3;simp[j,X2j]
      ·by_cases h4:i+1=s.size
       ·have:s.toList.drop (i+1)=[]:=jd (by omega)
        have e5:(i:Int)=(s.size:Int)-1:=by omega
        have e6:((s.size:Int)-1==0)=false:=by simp;omega
        simp only[e5,e6,this,X2P]
        by_cases h5:b=45<;>simp[h5,X2j]
       ·have e5:((i:Int)==(s.size:Int)-1)=false:=by simp;omega
        have e6:((i:Int)==0)=false:=by simp;omega
        have e7:(0:Int)<=(i:Int)-1:=by omega
        have e8:(i:Int)-1<(s.size:Int):=by omega
        have e9:((i:Int)-1).toNat=i-1:=by omega
        simp only[e5,e6,e7,e8,e9,jA,decide_true,ju,jB];simp only[h3,if_false]at j;rw[<-j]
        by_cases h5:b=45
        ·simp[h5,X2j]
        ·have q5:(b==45)=false:=beq_eq_false_iff_ne.2 h5;rw[h2]at a;rw[q5];simp only[jA,jS,jw,ne_eq,not_true,false_or,h5,if_false];rw[a];simp[show i+1<s.toList.length by omega]
     ·have:((c.toNat:Int) != 45)=true:=by simp[h2]
      simp[this,h2,X2j])
  have:=key 0 45 (by omega) (by simp)
  refine this.trans ?_;simp[X38,show 0<s.toList.length by omega,hsz.2]
 ·have e1:inN (↑s.size) 1 14=false:=by
   simp[inN];omega
  rw[e1];simp only[Bool.not_false,jB,X38]
  by_cases h:s.size<=14
  ·have k:s.toList=[]:=by
    apply List.eq_nil_of_length_eq_zero;rw[X1d];omega
   simp[k,X2P,X2j]
  ·simp[h]
theorem X2Y (n lo hi:Int):inN n lo hi = !X15 lo hi [n]:=by
 simp only[inN,X2Z,X3i,Bool.or_false,Bool.not_or];congr 1<;>rw[<-decide_not,decide_eq_decide]<;>omega
def X30 (lo hi:Int):Int->List Y2->Int
 | e,[]=>e
 | e,s::l=>if X15 lo hi [s.Lo,s.Hi]then 7 else X30 lo hi (if s.Lo>s.Hi then 2 else e) l
theorem X3H (l:List Y2) (lo hi:Int) (h:l.length<1000000):X1O l lo hi=some (X30 lo hi 0 l):=by
 unfold X1O;exact WZ (Wl lo l hi) _ l.length (fun i (b:Int)=>(b,(i:Int))) (fun _ _=>True) (fun i b=>some (X30 lo hi b (l.drop i)))
   (by
    intro b _ R;simp[Wl,Wo,X30])
   (by
    intro i b c _ R d;simp only[Wl,Wo];rw[jb c];have e:=wS i (by omega)
    simp only[kS,XN _ _ _ c,X30,e];rw[X2Q,X2Q,X2Y,X2Y];have g:decide ((i:Int)<↑l.length)=true:=by simp[c]
    have f:=z0S i;simp only[g,f,ju,jB,jS];have a:X15 lo hi [l[i].Lo,l[i].Hi]=(X15 lo hi [l[i].Lo]||X15 lo hi [l[i].Hi]):=by simp[X15]
    rw[a];cases h3:X15 lo hi [l[i].Lo]
    ·cases h4:X15 lo hi [l[i].Hi]
     ·by_cases h5:l[i].Lo>l[i].Hi
      ·have:=d 2 trivial;simp only[h5];simp;simpa using this
      ·have:=d b trivial;simp only[h5];simp;simpa using this
     ·simp
    ·simp) 0 0 (by omega) trivial
theorem Z98 (a b:ByteArray):(a==b)=(a.data==b.data):=by cases a;cases b;rfl
instance:LawfulBEq ByteArray where
 rfl:=by intro a;rw[Z98];simp
 eq_of_beq:=by
  intro a b h;rw[Z98]at h;have:=eq_of_beq h;cases a;cases b;simp only at this;rw[this]
instance:DecidableEq ByteArray:=fun a b=>if h:(a==b)=true then isTrue (eq_of_beq h)else isFalse (fun e=>h (by rw[e];simp))
def X2O (s:ByteArray) (names:List ByteArray):Int:=if X38 s then(if s∈names then 5 else 0)else 6
theorem X40 {a b:ByteArray} (h:a.toList=b.toList):a=b:=by
 cases a;cases b;simp only[ByteArray.toList_eq]at h;congr 1;exact Array.ext' h
theorem X3U (s:ByteArray) (names:List ByteArray) (j:names.length<1000000):X1X s names=some (X2O s names):=by
 unfold X1X X2O;rw[X46];simp only[jS];cases X38 s
 ·simp
 ·simp only[Bool.not_true,jA,if_true];unfold X2m;have key:=WZ (W9 s names) (fun o78=>Option.bind (Sum.elim (fun y79:Int=>some y79) (fun _:Unit=>some (-1)) o78) fun r82=>bif decide (r82>=0)then some (5:Int)else some 0) names.length (fun i (_:Unit)=>(i:Int)) (fun _ _=>True) (fun i _=>some (if s∈names.drop i then 5 else 0))
   (by
    intro b _ R;simp[W9,Wy])
   (by
    intro i b hi _ R f;have c:=f () trivial;simp only[W9,Wy];rw[jb hi];have d:=wS i (by omega)
    simp only[kS,XN _ _ _ hi,d];have g:decide ((i:Int)<↑names.length)=true:=by simp[hi]
    have e:=z0S i;simp only[g,e,ju,jB]
    by_cases h:names[i]=s
    ·simp[h]
    ·have h':(names[i].toList==s.toList)=false:=by
      simp only[beq_eq_false_iff_ne];intro hh;exact h (X40 hh)
     have a:¬s=names[i]:=fun hh=>h hh.symm;simp only[h',jA,jS,jw,jv,a,false_or];exact c)
  have:=key 0 () (by omega) trivial
  simp only[List.drop_zero]at this;rw[<-this];show Option.bind (Option.bind _ _) _=Option.bind _ _;unfold X1E;simp only[Int.natCast_zero];cases Za4 (W9 s names) 0<;>rfl
theorem Ws (lo up:Int) (l:List Int) (g:l.length<1000000):XW lo up l=some (X15 lo up l):=by
 rw[X2r];unfold WT;have key:=WZ (Wc (↑l.length) l up lo) (fun o3=>Sum.elim (fun y4:Int=>some (decide (y4>=0))) (fun _=>some (decide ((-1:Int)>=0))) o3) l.length (fun i (_:Unit)=>(i:Int)) (fun _ _=>True) (fun i _=>some (X15 lo up (l.drop i)))
  (by
   intro b _ R;simp[Wc,Wh,X3i])
  (by
   intro i b hi _ R e;have a:=e () trivial;simp only[Wc,Wh];rw[jb hi];simp only[kS,XN _ _ _ hi,X2Z];have c:=wS i (by omega)
   rw[c];have f:decide ((i:Int)<↑l.length)=true:=by simp[hi]
   have d:=z0S i;simp only[f,d,ju,jB]
   by_cases h3:l[i]<lo
   ·simp[h3]
   ·by_cases h4:l[i]>up
    ·simp[h3,h4]
    ·simp[h3,h4];exact a)
 exact(key 0 () (by omega) trivial).trans (by simp)
theorem X21 (n lo hi:Int):X1Y n lo hi=some (inN n lo hi):=by
 rw[X3z];unfold X1P inN
 by_cases h:lo<=n<;>simp[h]
def X1p (r:CoRecord) (dev st:Int) (s:Y2):Int :=
 if X15 0 ((r.Devices.length:Int)-1) [dev]then 4 else
 if X15 0 (IntKind.wrap .i64 ((r.Devices.getD dev.toNat (Zm.mk ByteArray.empty 0 0)).States-1)) [st]then 7 else
 if X15 0 9999 [s.Lo,s.Hi]then 7 else if s.Lo>s.Hi then 2 else 0
theorem X1L {lo hi n:Int} (h:X15 lo hi [n]=false):lo<=n/\n<=hi:=by
 simp only[X2Z,X3i,Bool.or_false,Bool.or_eq_false_iff,decide_eq_false_iff_not]at h;omega
theorem X4O {lo hi n m:Int} (h:X15 lo hi [n,m]=false):lo<=n/\n<=hi/\lo<=m/\m<=hi:=by
 simp only[X2Z,X3i,Bool.or_false,Bool.or_eq_false_iff,decide_eq_false_iff_not]at h;omega
theorem X2M (r:CoRecord) (x:Zr) (hr:r.Devices.length<=1000000):X28 r x=some (X1p r x.Device x.State x.At):=by
 rw[X34];unfold X1q;have w1:IntKind.wrap .i64 ((r.Devices.length:Int)-1)=(r.Devices.length:Int)-1:=by rw[w64]<;>omega
 rw[w1,Ws _ _ _ (by simp)]
 simp only[jS];unfold X1p;cases h1:X15 0 ((r.Devices.length:Int)-1) [x.Device]with
 | true=>rfl
 | false =>
  have h:=X1L h1;have c1:decide (0<=x.Device)=true:=by simp[h.1]
  have c2:decide (x.Device<(r.Devices.length:Int))=true:=by simp;omega
  simp only[jA,c1,c2,ju,jB];rw[Ws _ _ _ (by simp)]
  simp only[jS];cases h2:X15 0 (IntKind.wrap .i64 ((r.Devices.getD x.Device.toNat (Zm.mk ByteArray.empty 0 0)).States-1)) [x.State]with
  | true=>rfl
  | false =>
   simp only[jA];rw[Ws _ _ _ (by simp)]
   simp only[jS];cases h3:X15 0 9999 [x.At.Lo,x.At.Hi]with
   | true=>rfl
   | false=>by_cases h4:x.At.Lo>x.At.Hi<;>simp[h4]
theorem X2T (r:CoRecord) (dev st:Int) (s:Y2) (hr:r.Devices.length<=1000000):X2d r dev st s=some (X1p r dev st s):=by
 rw[X39];unfold X1t;have w1:IntKind.wrap .i64 ((r.Devices.length:Int)-1)=(r.Devices.length:Int)-1:=by rw[w64]<;>omega
 rw[w1,X21,X2Y];simp only[jS];unfold X1p;cases h1:X15 0 ((r.Devices.length:Int)-1) [dev]with
 | true=>rfl
 | false =>
  have h:=X1L h1;have c1:decide (0<=dev)=true:=by simp[h.1]
  have c2:decide (dev<(r.Devices.length:Int))=true:=by simp;omega
  simp only[Bool.not_false,Bool.not_true,jA,c1,c2,ju,jB];rw[X21,X2Y];simp only[jS];cases h2:X15 0 (IntKind.wrap .i64 ((r.Devices.getD dev.toNat (Zm.mk ByteArray.empty 0 0)).States-1)) [st]with
  | true=>rfl
  | false =>
   simp only[Bool.not_false,Bool.not_true,jA];unfold X2n;rw[X3H _ _ _ (by simp)]
   simp only[jS,X30];cases h3:X15 0 9999 [s.Lo,s.Hi]with
   | true=>rfl
   | false=>by_cases h4:s.Lo>s.Hi<;>simp[h4]
def WO {α:Type} (f:Nat->α->Int):Nat->List α->Int×Int
 | _,[]=>(0,0)
 | i,x::xs=>if f i x≠0 then((i:Int),f i x)else WO f (i+1) xs
theorem X1b {α:Type} (f:Nat->α->Int) (i:Nat) (x:α) (xs:List α):WO f i (x::xs)=if f i x≠0 then((i:Int),f i x)else WO f (i+1) xs:=rfl
def Xm:Int->Nat->List Zq->Int×Int
 | _,_,[]=>(0,0)
 | least,i,x::xs=>if(if x.At.Lo>least then x.At.Lo else least)>x.At.Hi then((i:Int),9)else Xm (if x.At.Lo>least then x.At.Lo else least) (i+1) xs
theorem X2k (least:Int) (i:Nat) (x:Zq) (xs:List Zq):Xm least i (x::xs)=if(if x.At.Lo>least then x.At.Lo else least)>x.At.Hi then((i:Int),9)else Xm (if x.At.Lo>least then x.At.Lo else least) (i+1) xs:=rfl
def X45 (names:List ByteArray) (d:Zm):Int :=
 if X2O d.Name names≠0 then X2O d.Name names else if X15 2 4 [d.States]||X15 0 (IntKind.wrap .i64 (d.States-1)) [d.First]then 7 else 0
def X1U (r:CoRecord):Int×Int:=WO (fun i d=>X45 ((r.Devices.take i).map (·.Name)) d) 0 r.Devices
def X1w (r:CoRecord):Int×Int:=WO (fun _ x=>X1p r x.Device x.State x.At) 0 r.Entries
def WR (r:CoRecord):Int×Int×Int :=
 if X15 1 4 [(r.Devices.length:Int)]||decide ((r.Entries.length:Int)>10)then(1,0,3)else
 if(X1U r).2≠0 then(2,(X1U r).1,(X1U r).2)else
 if(X1w r).2≠0 then(3,(X1w r).1,(X1w r).2)else
 if(Xm 0 0 r.Entries).2≠0 then(3,(Xm 0 0 r.Entries).1,(Xm 0 0 r.Entries).2)else(0,0,0)
def WQ (r:CoRecord) (l:List Zr):Int×Int :=
 if(WR r).2.2≠0 then(0,(WR r).2.2)else if(l.length:Int)>4 then(0,3)else WO (fun _ x=>X1p r x.Device x.State x.At) 0 l
theorem X3s (r:CoRecord) (d:r.Devices.length<=1000000) (f:r.Entries.length<=1000000):XO (r.Entries,r)=some ((X1w r).1,(X1w r).2,r):=by
 rw[X17];unfold Xo W5;refine Eq.trans (WZ _ _ r.Entries.length (fun i (_:Unit)=>(i:Int)) (fun _ _=>True) (fun i _=>some ((WO (fun _ x=>X1p r x.Device x.State x.At) i (r.Entries.drop i)).1,(WO (fun _ x=>X1p r x.Device x.State x.At) i (r.Entries.drop i)).2,r)) ?_ ?_ 0 () (Nat.zero_le _) trivial) rfl
 ·intro b _ R;have e1:decide ((r.Entries.length:Int)<(r.Entries.length:Int))=false:=by simp
  simp only[Xj,Xe,e1,jA,List.drop_length];rfl
 ·intro i b hi _ R c;have a:=c () trivial;have e1:decide ((i:Int)<(r.Entries.length:Int))=true:=by simp[hi]
  have w1:=wS i (by omega)
  rw[jb hi,X1b];simp only[Xj,Xe,e1,z0S,kS,ju,jB,XN _ _ _ hi,X2M r _ d,jS,w1];generalize X1p r r.Entries[i].Device r.Entries[i].State r.Entries[i].At=e
  by_cases he:e=0
  ·have c1:(e != 0)=false:=by simp[he]
   simp only[c1,jA,if_neg (fun h:e≠0=>h he)];exact a
  ·have c1:(e != 0)=true:=X2g he;simp only[c1,jB,if_pos he];rfl
theorem X3t (r:CoRecord) (l:List Zr) (d:r.Devices.length<=1000000) (f:l.length<=1000000):XR (l,r)=some ((WO (fun _ (x:Zr)=>X1p r x.Device x.State x.At) 0 l).1,(WO (fun _ (x:Zr)=>X1p r x.Device x.State x.At) 0 l).2,r):=by
 rw[X1k];unfold Xw W8;refine Eq.trans (WZ _ _ l.length (fun i (_:Unit)=>(i:Int)) (fun _ _=>True) (fun i _=>some ((WO (fun _ (x:Zr)=>X1p r x.Device x.State x.At) i (l.drop i)).1,(WO (fun _ (x:Zr)=>X1p r x.Device x.State x.At) i (l.drop i)).2,r)) ?_ ?_ 0 () (Nat.zero_le _) trivial) rfl
 ·intro b _ R;have e1:decide ((l.length:Int)<(l.length:Int))=false:=by simp
  simp only[Xl,Xh,e1,jA,List.drop_length];rfl
 ·intro i b hi _ R c;have a:=c () trivial;have e1:decide ((i:Int)<(l.length:Int))=true:=by simp[hi]
  have w1:=wS i (by omega)
  rw[jb hi,X1b];simp only[Xl,Xh,e1,z0S,kS,ju,jB,XN _ _ _ hi,X2M r _ d,jS,w1];generalize X1p r l[i].Device l[i].State l[i].At=e
  by_cases he:e=0
  ·have c1:(e != 0)=false:=by simp[he]
   simp only[c1,jA,if_neg (fun h:e≠0=>h he)];exact a
  ·have c1:(e != 0)=true:=X2g he;simp only[c1,jB,if_pos he];rfl
theorem X3d (l:List Zq) (g:l.length<=1000000):∃q,XP (l,0)=some ((Xm 0 0 l).1,(Xm 0 0 l).2,q):=by
 rw[X19];unfold Xp W6;simp only
 let k:((Int×Int×Int×Zq×Zq)⊕Int)->Option (Int×Int×Int):=fun o41=>Sum.elim (fun y42=>some (y42.snd.fst,y42.fst,y42.snd.snd.fst)) (fun y43=>some (0,0,y43)) o41
 obtain⟨w,e,d⟩:=X16 (X3 l (l.length:Int)) l.length (fun i (b:Int)=>((i:Int),b)) (fun i b=>Xm b i (l.drop i)=Xm 0 0 l) (fun w=>∃q,k w=some ((Xm 0 0 l).1,(Xm 0 0 l).2,q))
  (fun b a=>by
   have e1:decide ((l.length:Int)<(l.length:Int))=false:=by simp
   simp only[X3,Xf,e1,jA];refine⟨_,rfl,b,?_⟩;rw[List.drop_length]at a;rw[<-a];rfl)
  (fun i b hi a=>by
   have e1:decide ((i:Int)<(l.length:Int))=true:=by simp[hi]
   have w1:=wS i (by omega)
   rw[jb hi,X2k]at a;have f:(bif decide (l[i].At.Lo>b)then l[i].At.Lo else b)=(if l[i].At.Lo>b then l[i].At.Lo else b):=by by_cases h:l[i].At.Lo>b<;>simp[h]
   simp only[X3,Xf,e1,z0S,kS,ju,jB,XN _ _ _ hi,w1,f]
   by_cases hc:(if l[i].At.Lo>b then l[i].At.Lo else b)>l[i].At.Hi
   ·left;rw[if_pos hc]at a;simp only[hc,decide_true,jB];refine⟨_,rfl,(if l[i].At.Lo>b then l[i].At.Lo else b),?_⟩;rw[<-a];rfl
   ·right;rw[if_neg hc]at a;simp only[hc,decide_false,jA];exact⟨_,rfl,a⟩) 0 0 (Nat.zero_le _) rfl
 have c:Za4 (X3 l (l.length:Int)) (0,0)=some w:=e;rw[c];exact d
theorem X3S (l:List Zm) (j:l.length<=1000000) (d:Zm) :
  (∃(i:Nat) (y:Zm),Xd (l.length:Int) l d 0=some (.inl ((i:Int),y))/\d.Name∈l.map (·.Name))\/(Xd (l.length:Int) l d 0=some (.inr ())/\¬d.Name∈l.map (·.Name)):=by
 obtain⟨w,f,e⟩:=X16 (X5 (l.length:Int) l d) l.length (fun i (_:Unit)=>(i:Int)) (fun i _=>∀x∈l.take i,x.Name≠d.Name)
  (fun w=>(∃(i:Nat) (y:Zm),w=.inl ((i:Int),y)/\d.Name∈l.map (·.Name))\/(w=.inr ()/\¬d.Name∈l.map (·.Name)))
  (fun _ c=>by
   have e1:decide ((l.length:Int)<(l.length:Int))=false:=by simp
   simp only[X5,Xc,e1,jA];refine⟨_,rfl,.inr ⟨rfl,fun h=>?_⟩⟩;obtain⟨x,a,g⟩:=List.mem_map.1 h;rw[List.take_length]at c;exact c x a g)
  (fun i _ hi c=>by
   have e1:decide ((i:Int)<(l.length:Int))=true:=by simp[hi]
   have w1:=wS i (by omega)
   simp only[X5,Xc,e1,z0S,kS,ju,jB,XN _ _ _ hi,w1]
   by_cases hn:l[i].Name=d.Name
   ·left;have c1:(l[i].Name.toList==d.Name.toList)=true:=by rw[hn];simp
    simp only[c1,jB];exact⟨_,rfl,.inl ⟨i,_,rfl,List.mem_map.2 ⟨l[i],jl hi,hn⟩⟩⟩
   ·right;have c1:(l[i].Name.toList==d.Name.toList)=false:=beq_eq_false_iff_ne.2 fun h=>hn (X40 h);simp only[c1,jA];refine⟨(),by first|rfl|trivial,fun x a=>?_⟩
    rw[List.take_succ_eq_append_getElem hi]at a;rcases List.mem_append.1 a with q|q
    ·exact c x q
    ·rw[List.mem_singleton.1 q];exact hn) 0 () (Nat.zero_le _) (fun x a=>by simp at a)
 have b:Xd (l.length:Int) l d 0=some w:=f;rcases e with⟨i,y,rfl,h⟩|⟨rfl,h⟩
 ·exact .inl ⟨i,y,b,h⟩
 ·exact .inr ⟨b,h⟩
theorem X3r (r:CoRecord) (k:r.Devices.length<=1000000):XF (r.Devices,r)=some ((X1U r).1,(X1U r).2,r):=by
 rw[X11];unfold Xk XX;refine Eq.trans (WZ _ _ r.Devices.length (fun i (_:Unit)=>(i:Int)) (fun _ _=>True) (fun i _=>some ((WO (fun i d=>X45 ((r.Devices.take i).map (·.Name)) d) i (r.Devices.drop i)).1,(WO (fun i d=>X45 ((r.Devices.take i).map (·.Name)) d) i (r.Devices.drop i)).2,r)) ?_ ?_ 0 () (Nat.zero_le _) trivial) rfl
 ·intro b _ R;have e1:decide ((r.Devices.length:Int)<(r.Devices.length:Int))=false:=by simp
  simp only[Xg,Xb,e1,jA,List.drop_length];rfl
 ·intro i b hi _ R h;have g:=h () trivial;have e1:decide ((i:Int)<(r.Devices.length:Int))=true:=by simp[hi]
  have e2:decide ((i:Int)<=(r.Devices.length:Int))=true:=by simp;omega
  have w1:=wS i (by omega)
  rw[jb hi,X1b];simp only[Xg,Xb,e1,e2,z0S,kS,ju,jB,XN _ _ _ hi,X43,jS,w1,List.drop_zero];generalize r.Devices[i]=d;have c:X45 ((r.Devices.take i).map (·.Name)) d=if X38 d.Name then(if d.Name∈(r.Devices.take i).map (·.Name)then 5 else if X15 2 4 [d.States]||X15 0 (IntKind.wrap .i64 (d.States-1)) [d.First]then 7 else 0)else 6:=by
   unfold X45 X2O;generalize (r.Devices.take i).map (·.Name)=names;cases q1:X38 d.Name with
   | false=>rfl
   | true =>
    by_cases q2:d.Name∈names
    ·simp only[q2,if_true];rfl
    ·simp only[q2,if_true,if_false];rfl
  rw[c];cases hn:X38 d.Name with
  | false=>rfl
  | true =>
   simp only[Bool.not_true,jA,if_true];have a:(r.Devices.take i).length<=1000000:=by rw[List.length_take];omega
   rcases X3S (r.Devices.take i) a d with⟨j,y,f,e⟩|⟨f,e⟩
   ·have c1:decide ((j:Int)>=0)=true:=by simp
    simp only[f,jS,jw,c1,jB,if_pos e];rfl
   ·simp only[f,jS,jy,if_neg e];rw[Ws _ _ _ (by simp),Ws _ _ _ (by simp)]
    simp only[jS];cases q1:X15 2 4 [d.States]with
    | true=>rfl
    | false =>
     cases q2:X15 0 (IntKind.wrap .i64 (d.States-1)) [d.First]with
     | true=>rfl
     | false=>exact g
theorem X3E (r:CoRecord):X2i r=some (WR r):=by
 rw[X2H];unfold X1i;rw[Ws _ _ _ (by simp)]
 simp only[jS];unfold WR;cases q1:X15 1 4 [(r.Devices.length:Int)]with
 | true=>rfl
 | false =>
  have d:=X1L q1;have b:r.Devices.length<=1000000:=by omega
  by_cases q2:(r.Entries.length:Int)>10
  ·simp only[jA,q2,decide_true,jB,Bool.false_or,if_true]
  ·have a:r.Entries.length<=1000000:=by omega
   simp only[jA,q2,decide_false,Bool.false_or,X3r r b,jS];simp only[jg,if_false]
   by_cases q3:(X1U r).2=0
   ·have c3:((X1U r).2 != 0)=false:=by simp[q3]
    simp only[c3,jA,X3s r b a,jS,if_neg (fun h:(X1U r).2≠0=>h q3)]
    by_cases q4:(X1w r).2=0
    ·have c4:((X1w r).2 != 0)=false:=by simp[q4]
     obtain⟨q,c⟩:=X3d r.Entries a;simp only[c4,jA,c,jS,if_neg (fun h:(X1w r).2≠0=>h q4)]
     by_cases q5:(Xm 0 0 r.Entries).2=0
     ·have c5:((Xm 0 0 r.Entries).2 != 0)=false:=by simp[q5]
      simp only[c5,jA,if_neg (fun h:(Xm 0 0 r.Entries).2≠0=>h q5)]
     ·have c5:((Xm 0 0 r.Entries).2 != 0)=true:=X2g q5;simp only[c5,jB,if_pos q5]
    ·have c4:((X1w r).2 != 0)=true:=X2g q4;simp only[c4,jB,if_pos q4]
   ·have c3:((X1U r).2 != 0)=true:=X2g q3;simp only[c3,jB,if_pos q3]
theorem X3I (r:CoRecord):X2o r=some (WR r):=by
 rw[X2R];unfold X1o;rw[X21,X2Y];simp only[jS];unfold WR;cases q1:X15 1 4 [(r.Devices.length:Int)]with
 | true=>rfl
 | false =>
  have n:=X1L q1;have q:r.Devices.length<=4:=by omega
  by_cases q2:(r.Entries.length:Int)>10
  ·simp only[Bool.not_false,Bool.not_true,jA,q2,decide_true,jB,Bool.false_or,if_true]
  ·have p:r.Entries.length<=10:=by omega
   simp only[Bool.not_false,Bool.not_true,jA,q2,decide_false,Bool.false_or,jg,if_false];unfold X1F;refine Eq.trans (WZ _ _ r.Devices.length (fun i (b:List ByteArray)=>((i:Int),b)) (fun i b=>b=(r.Devices.take i).map (·.Name))
    (fun i _=>if(WO (fun i d=>X45 ((r.Devices.take i).map (·.Name)) d) i (r.Devices.drop i)).2≠0 then some (2,(WO (fun i d=>X45 ((r.Devices.take i).map (·.Name)) d) i (r.Devices.drop i)).1,(WO (fun i d=>X45 ((r.Devices.take i).map (·.Name)) d) i (r.Devices.drop i)).2)else
     some (if(X1w r).2≠0 then(3,(X1w r).1,(X1w r).2)else if(Xm 0 0 r.Entries).2≠0 then(3,(Xm 0 0 r.Entries).1,(Xm 0 0 r.Entries).2)else(0,0,0))) ?_ ?_ 0 [] (Nat.zero_le _) rfl) ?_
   ·intro b _ R;have e1:decide ((r.Devices.length:Int)<(r.Devices.length:Int))=false:=by simp
    simp only[WV,WA,e1,jA,List.drop_length];show Option.bind (X1f r 0) _=some (if(X1w r).2≠0 then(3,(X1w r).1,(X1w r).2)else if(Xm 0 0 r.Entries).2≠0 then(3,(Xm 0 0 r.Entries).1,(Xm 0 0 r.Entries).2)else(0,0,0));unfold X1f;refine Eq.trans (WZ _ _ r.Entries.length (fun i (_:Unit)=>(i:Int)) (fun _ _=>True)
     (fun i _=>some (if(WO (fun _ (x:Zq)=>X1p r x.Device x.State x.At) i (r.Entries.drop i)).2≠0 then(3,(WO (fun _ (x:Zq)=>X1p r x.Device x.State x.At) i (r.Entries.drop i)).1,(WO (fun _ (x:Zq)=>X1p r x.Device x.State x.At) i (r.Entries.drop i)).2)else if(Xm 0 0 r.Entries).2≠0 then(3,(Xm 0 0 r.Entries).1,(Xm 0 0 r.Entries).2)else(0,0,0))) ?_ ?_ 0 () (Nat.zero_le _) trivial) rfl
    ·intro b _ R;have e1:decide ((r.Entries.length:Int)<(r.Entries.length:Int))=false:=by simp
     simp only[WW,WB,e1,jA,List.drop_length];show Option.bind (X1g r (0,0)) _=some (if(Xm 0 0 r.Entries).2≠0 then(3,(Xm 0 0 r.Entries).1,(Xm 0 0 r.Entries).2)else(0,0,0));unfold X1g;refine Eq.trans (WZ _ _ r.Entries.length (fun i (b:Int)=>((i:Int),b)) (fun _ _=>True)
      (fun i b=>some (if(Xm b i (r.Entries.drop i)).2≠0 then(3,(Xm b i (r.Entries.drop i)).1,(Xm b i (r.Entries.drop i)).2)else(0,0,0))) ?_ ?_ 0 0 (Nat.zero_le _) trivial) rfl
     ·intro b _ R;simp only[WX,WC,e1,jA,List.drop_length];rfl
     ·intro i b hi _ R c;have e1:decide ((i:Int)<(r.Entries.length:Int))=true:=by simp[hi]
      have w1:=wS i (by omega)
      have o:(bif decide (r.Entries[i].At.Lo>b)then r.Entries[i].At.Lo else b)=(if r.Entries[i].At.Lo>b then r.Entries[i].At.Lo else b):=by by_cases h:r.Entries[i].At.Lo>b<;>simp[h]
      rw[jb hi,X2k];simp only[WX,WC,e1,z0S,kS,ju,jB,XN _ _ _ hi,w1,o]
      by_cases hc:(if r.Entries[i].At.Lo>b then r.Entries[i].At.Lo else b)>r.Entries[i].At.Hi
      ·rw[if_pos hc];simp only[hc,decide_true,jB];rfl
      ·rw[if_neg hc];simp only[hc,decide_false,jA];exact c _ trivial
    ·intro i b hi _ R c;have m:=c () trivial;have e1:decide ((i:Int)<(r.Entries.length:Int))=true:=by simp[hi]
     have w1:=wS i (by omega)
     rw[jb hi,X1b];simp only[WW,WB,e1,z0S,kS,ju,jB,XN _ _ _ hi,X2T r _ _ _ (by omega:r.Devices.length<=1000000),jS,w1]
     generalize X1p r r.Entries[i].Device r.Entries[i].State r.Entries[i].At=e
     by_cases he:e=0
     ·have c1:(e != 0)=false:=by simp[he]
      simp only[c1,jA,if_neg (fun h:e≠0=>h he)];exact m
     ·have c1:(e != 0)=true:=X2g he;simp only[c1,jB,if_pos he];rfl
   ·intro i b hi j R c;have e1:decide ((i:Int)<(r.Devices.length:Int))=true:=by simp[hi]
    have w1:=wS i (by omega)
    have f:b.length=i:=by rw[j,List.length_map,List.length_take];omega
    have b1:Nat.ble ((i+1)*(16+1)) 200000000000000=true:=by rw[Nat.ble_eq];omega
    have g:=X3U r.Devices[i].Name b (by omega)
    have a:=c ((r.Devices.take (i+1)).map (·.Name)) rfl;rw[jb hi,X1b];simp only[WV,WA,e1,z0S,kS,ju,jB,XN _ _ _ hi,g,jS,w1,f,List.length_singleton,b1];have k:b++[r.Devices[i].Name]=(r.Devices.take (i+1)).map (·.Name):=by rw[j,List.take_succ_eq_append_getElem hi,List.map_append];rfl
    rw[<-j];have l:X45 b r.Devices[i]=if X2O r.Devices[i].Name b≠0 then X2O r.Devices[i].Name b else if X15 2 4 [r.Devices[i].States]||X15 0 (IntKind.wrap .i64 (r.Devices[i].States-1)) [r.Devices[i].First]then 7 else 0:=rfl;rw[l];generalize X2O r.Devices[i].Name b=e
    by_cases he:e=0
    ·have c1:(e==0)=true:=by simp[he]
     have c2:(e != 0)=false:=by simp[he]
     simp only[c1,c2,jB,jA,if_neg (fun h:e≠0=>h he),X21,X2Y,jS,Bool.not_not];cases q5:X15 2 4 [r.Devices[i].States]with
     | true=>rfl
     | false =>
      simp only[jA,Bool.false_or];cases q6:X15 0 (IntKind.wrap .i64 (r.Devices[i].States-1)) [r.Devices[i].First]with
      | true=>rfl
      | false =>
       simp only[jA];rw[k];exact a
    ·have c1:(e==0)=false:=X3b he;have c2:(e != 0)=true:=X2g he;simp only[c1,c2,jB,jA,if_pos he];rfl
   ·simp only[List.drop_zero];show(if(X1U r).2≠0 then some (2,(X1U r).1,(X1U r).2)else some (if(X1w r).2≠0 then(3,(X1w r).1,(X1w r).2)else if(Xm 0 0 r.Entries).2≠0 then(3,(Xm 0 0 r.Entries).1,(Xm 0 0 r.Entries).2)else(0,0,0)))=some (if(X1U r).2≠0 then(2,(X1U r).1,(X1U r).2)else if(X1w r).2≠0 then(3,(X1w r).1,(X1w r).2)else if(Xm 0 0 r.Entries).2≠0 then(3,(Xm 0 0 r.Entries).1,(Xm 0 0 r.Entries).2)else(0,0,0))
    by_cases q3:(X1U r).2=0
    ·simp only[ne_eq,q3,not_true_eq_false,if_false]
    ·simp only[ne_eq,q3,not_false_eq_true,if_true]
structure X4W (r:CoRecord):Prop where
 devs:1<=r.Devices.length/\r.Devices.length<=4
 many:r.Entries.length<=10
 dev:∀d∈r.Devices,(2<=d.States/\d.States<=4)/\0<=d.First/\d.First<d.States
 ent:∀x∈r.Entries,X1p r x.Device x.State x.At=0
 order:Xm 0 0 r.Entries=(0,0)
theorem X2X {α:Type} (f:Nat->α->Int):∀(l:List α) (i:Nat),(WO f i l).2=0->∀(j:Nat) (h:j<l.length),f (i+j) l[j]=0
 | x::xs,i,h,j,hj=>by
  rw[X1b]at h
  by_cases he:f i x=0
  ·rw[if_neg (fun q=>q he)]at h;cases j with
   | zero=>exact he
   | succ j =>
    have:=X2X f xs (i+1) h j (by simpa using hj)
    rw[show i+(j+1)=i+1+j by omega]
    exact this
  ·rw[if_pos he]at h;exact absurd h he
theorem X4e:∀(l:List Zq) (a:Int) (i:Nat),(Xm a i l).2=0->Xm a i l=(0,0)
 | [],_,_,_=>rfl
 | x::xs,a,i,h=>by
  rw[X2k]at h⊢
  by_cases hc:(if x.At.Lo>a then x.At.Lo else a)>x.At.Hi
  ·rw[if_pos hc]at h;exact absurd h (by simp)
  ·rw[if_neg hc]at h⊢;exact X4e xs _ _ h
theorem X3P {r:CoRecord} (h:(WR r).2.2=0):X4W r:=by
 unfold WR at h;cases q1:X15 1 4 [(r.Devices.length:Int)]with
 | true=>rw[q1]at h;exact absurd h (by simp)
 | false =>
  have b:=X1L q1
  by_cases q2:(r.Entries.length:Int)>10
  ·simp only[q1,q2,decide_true,Bool.or_true,if_true]at h;exact absurd h (by simp)
  ·simp only[q1,q2,decide_false,Bool.or_self,jg,if_false]at h
   by_cases q3:(X1U r).2=0
   ·rw[if_neg (fun k=>k q3)]at h
    by_cases q4:(X1w r).2=0
    ·rw[if_neg (fun k=>k q4)]at h
     by_cases q5:(Xm 0 0 r.Entries).2=0
     ·refine⟨by omega,by omega,fun d b=>?_,fun x c=>?_,X4e _ _ _ q5⟩
      ·obtain⟨j,a,rfl⟩:=List.getElem_of_mem b;have:=X2X _ _ 0 q3 j a;simp only[X45]at this;split at this
       ·rename_i k;exact absurd this k
       ·split at this
        ·exact absurd this (by simp)
        ·rename_i k;simp only[Bool.or_eq_true,not_or,Bool.not_eq_true]at k;have k1:=X1L k.1;have k2:=X1L k.2;rw[w64 (by omega) (by omega)]at k2
         omega
      ·obtain⟨j,a,rfl⟩:=List.getElem_of_mem c;exact X2X _ _ 0 q4 j a
     ·rw[if_pos q5]at h;exact absurd h q5
    ·rw[if_pos q4]at h;exact absurd h q4
   ·rw[if_pos q3]at h;exact absurd h q3
theorem X51 {r:CoRecord} {x:Zr} (h:X1p r x.Device x.State x.At=0):X2C r x/\0<=x.At.Lo/\x.At.Lo<=x.At.Hi/\x.At.Hi<=9999:=by
 unfold X1p at h;cases q1:X15 0 ((r.Devices.length:Int)-1) [x.Device]with
 | true=>rw[q1]at h;exact absurd h (by simp)
 | false =>
  rw[q1]at h;have k1:=X1L q1;cases q2:X15 0 (IntKind.wrap .i64 ((r.Devices.getD x.Device.toNat (Zm.mk ByteArray.empty 0 0)).States-1)) [x.State]with
  | true=>rw[q2]at h;exact absurd h (by simp)
  | false =>
   rw[q2]at h;cases q3:X15 0 9999 [x.At.Lo,x.At.Hi]with
   | true=>rw[q3]at h;exact absurd h (by simp)
   | false =>
    rw[q3]at h;have k3:=X4O q3
    by_cases q4:x.At.Lo>x.At.Hi
    ·simp only[jg,if_false,q4,if_true]at h;exact absurd h (by simp)
    ·exact⟨⟨by omega,by omega,by omega⟩,by omega,by omega,by omega⟩
theorem X5x {r:CoRecord} (h:X4W r):X4U r:=⟨h.many,fun x a=>by
 have:=(X51 (x:=⟨x.Device,x.State,x.At⟩) (h.ent x a)).2;simp only at this;omega⟩
theorem X3K {r:CoRecord} {l:List Zr} (h:(WQ r l).2=0):X4W r/\l.length<=4/\∀x∈l,X1p r x.Device x.State x.At=0:=by
 unfold WQ at h
 by_cases q1:(WR r).2.2=0
 ·rw[if_neg (fun k=>k q1)]at h
  by_cases q2:(l.length:Int)>4
  ·rw[if_pos q2]at h;exact absurd h (by simp)
  ·rw[if_neg q2]at h;refine⟨X3P q1,by omega,fun x b=>?_⟩
   obtain⟨j,a,rfl⟩:=List.getElem_of_mem b;exact X2X _ _ 0 h j a
 ·rw[if_pos q1]at h;exact absurd h q1
theorem X5j {r:CoRecord} {l:List Zr} (h:(WQ r l).2=0):X4V r l:=by
 obtain⟨a,d,b⟩:=X3K h;exact⟨X5x a,by omega,fun x c=>(X51 (b x c)).1⟩
theorem X32 (r:CoRecord) (l:List Zr):X1A r l=some (WQ r l):=by
 rw[X2b];unfold Wz;rw[X3I r];simp only[jS];unfold WQ
 by_cases q1:(WR r).2.2=0
 ·have c1:((WR r).2.2==0)=true:=by simp[q1]
  have c2:((WR r).2.2 != 0)=false:=by simp[q1]
  have hr:=X3P q1;simp only[c1,c2,jB,jA,if_neg (fun h:(WR r).2.2≠0=>h q1)]
  by_cases q2:(l.length:Int)>4
  ·simp only[q2,decide_true,jB,if_true]
  ·have f:l.length<=4:=by omega
   simp only[q2,decide_false,jA,if_false];unfold WG;refine Eq.trans (WZ _ _ l.length (fun i (_:Unit)=>(i:Int)) (fun _ _=>True) (fun i _=>some (WO (fun _ (x:Zr)=>X1p r x.Device x.State x.At) i (l.drop i))) ?_ ?_ 0 () (Nat.zero_le _) trivial) rfl
   ·intro b _ R;have e1:decide ((l.length:Int)<(l.length:Int))=false:=by simp
    simp only[Wj,W0,e1,jA,List.drop_length];rfl
   ·intro i b hi _ R d;have a:=d () trivial;have e1:decide ((i:Int)<(l.length:Int))=true:=by simp[hi]
    have w1:=wS i (by omega)
    have c:=hr.devs;rw[jb hi,X1b];simp only[Wj,W0,e1,z0S,kS,ju,jB,XN _ _ _ hi,X2T r _ _ _ (by omega:r.Devices.length<=1000000),jS,w1]
    generalize X1p r l[i].Device l[i].State l[i].At=e
    by_cases he:e=0
    ·have c1:(e != 0)=false:=by simp[he]
     simp only[c1,jA,if_neg (fun h:e≠0=>h he)];exact a
    ·have c1:(e != 0)=true:=X2g he;simp only[c1,jB,if_pos he];rfl
 ·have c1:((WR r).2.2==0)=false:=X3b q1;have c2:((WR r).2.2 != 0)=true:=X2g q1;simp only[c1,c2,jB,jA,if_pos q1]
theorem X31 (r:CoRecord) (l:List Zr):X1z r l=some (WQ r l):=by
 rw[X25];unfold Wv;rw[X3E r];simp only[jS];unfold WQ
 by_cases q1:(WR r).2.2=0
 ·have c1:((WR r).2.2 != 0)=false:=by simp[q1]
  have hr:=(X3P q1).devs;simp only[c1,jA,if_neg (fun h:(WR r).2.2≠0=>h q1)]
  by_cases q2:(l.length:Int)>4
  ·simp only[q2,decide_true,jB,if_true]
  ·simp only[q2,decide_false,jA,if_false,X3t r l (by omega) (by omega),jS]
 ·have c1:((WR r).2.2 != 0)=true:=X2g q1;simp only[c1,jB,if_pos q1]
theorem X1Z (r:CoRecord) (l:List Zr):X1S r l=some (⟨r,l⟩,(WQ r l).2):=by
 rw[X2K];unfold X1j;rw[X31 r l];rfl
def X4L (r:CoRecord) (l:List Zr):Bool×Int:=if(WQ r l).2≠0 then(false,(WQ r l).2)else(!(X5o r l).isEmpty,0)
theorem X3D (r:CoRecord) (l:List Zr):X1I r l=some (X4L r l):=by
 rw[X2F];unfold X1h;rw[X1Z r l];simp only[jS];unfold X4L
 by_cases q:(WQ r l).2=0
 ·have c:((WQ r l).2 != 0)=false:=by simp[q]
  simp only[c,jA,if_neg (fun h:(WQ r l).2≠0=>h q),X2N (X5j q),jS]
 ·have c:((WQ r l).2 != 0)=true:=X2g q;simp only[c,jB,if_pos q]
end Nore
open Go Go.Ab
namespace Nore
def XA {α:Type} (m:Nat):Nat->List α->List α
 | _,[]=>[]
 | i,x::xs=>if m.testBit i then XA m (i+1) xs else x::XA m (i+1) xs
def X4 {α:Type} (m:Nat):Nat->List α->List Int
 | _,[]=>[]
 | i,x::xs=>if m.testBit i then(i:Int)::X4 m (i+1) xs else X4 m (i+1) xs
theorem X1c {α:Type} (m i:Nat) (x:α) (xs:List α):XA m i (x::xs)=if m.testBit i then XA m (i+1) xs else x::XA m (i+1) xs:=rfl
theorem Wb {α:Type} (m i:Nat) (x:α) (xs:List α):X4 m i (x::xs)=if m.testBit i then(i:Int)::X4 m (i+1) xs else X4 m (i+1) xs:=rfl
theorem X2A {α:Type} (m:Nat):∀(l:List α) (i:Nat),∀x∈XA m i l,x∈l
 | y::l,i,x,h=>by
  rw[X1c]at h;split at h
  ·exact List.mem_cons_of_mem _ (X2A m l _ x h)
  ·rcases jv.1 h with rfl|h
   ·exact List.mem_cons_self
   ·exact List.mem_cons_of_mem _ (X2A m l _ x h)
theorem X2e {α:Type} (m:Nat):∀(l:List α) (i:Nat),(XA m i l).length<=l.length
 | [],_=>Nat.le_refl _
 | y::l,i=>by
  have:=X2e m l (i+1);rw[X1c];split
  ·simp only[List.length_cons];omega
  ·simp only[List.length_cons];omega
theorem X22 {α:Type} (m:Nat):∀(l:List α) (i:Nat),(X4 m i l).length<=l.length
 | [],_=>Nat.le_refl _
 | y::l,i=>by
  have:=X22 m l (i+1);rw[Wb];split
  ·simp only[List.length_cons];omega
  ·simp only[List.length_cons];omega
theorem X3W {α:Type} (m N:Nat):∀(l:List α) (i:Nat),i+l.length<=N->XA (m % 2 ^ N) i l=XA m i l
 | [],_,_=>rfl
 | y::l,i,h=>by
  simp only[List.length_cons]at h;rw[X1c,X1c,X3W m N l (i+1) (by omega),Nat.testBit_mod_two_pow]
  have:decide (i<N)=true:=by simp;omega
  rw[this,Bool.true_and]
theorem X4j {α:Type} (m N:Nat):∀(l:List α) (i:Nat),i+l.length<=N->X4 (m % 2 ^ N) i l=X4 m i l
 | [],_,_=>rfl
 | y::l,i,h=>by
  simp only[List.length_cons]at h;rw[Wb,Wb,X4j m N l (i+1) (by omega),Nat.testBit_mod_two_pow]
  have:decide (i<N)=true:=by simp;omega
  rw[this,Bool.true_and]
theorem X3B {α:Type} (N:Nat):∀(l:List α) (i:Nat),i+l.length<=N->XA (2 ^ N-1) i l=[]
 | [],_,_=>rfl
 | y::l,i,h=>by
  simp only[List.length_cons]at h;rw[X1c,Nat.testBit_two_pow_sub_one];have:decide (i<N)=true:=by simp;omega
  rw[this,if_pos rfl];exact X3B N l (i+1) (by omega)
theorem X2U {α:Type} (m:Nat) (x:α):∀(l:List α) (i:Nat),XA m i (l++[x])=XA m i l++if m.testBit (i+l.length)then []else [x]
 | [],i=>by rw[List.nil_append,X1c];rfl
 | y::l,i=>by
  rw[List.cons_append,X1c,X1c,X2U m x l (i+1),show i+(y::l).length=i+1+l.length by simp only[List.length_cons];omega]
  split
  ·rfl
  ·rfl
theorem X2B {α:Type} (m:Nat) (x:α):∀(l:List α) (i:Nat),X4 m i (l++[x])=X4 m i l++if m.testBit (i+l.length)then [((i+l.length:Nat):Int)]else []
 | [],i=>by rw[List.nil_append,Wb];rfl
 | y::l,i=>by
  rw[List.cons_append,Wb,Wb,X2B m x l (i+1),show i+(y::l).length=i+1+l.length by simp only[List.length_cons];omega]
  split
  ·rfl
  ·rfl
theorem X5z (m i:Nat) (a:m<16) (hi:i<4):(IntKind.wrap .i64 (↑(BitVec.toNat (BitVec.ofInt (IntKind.bits .i64) (Int.fdiv (m:Int) (2 ^ min i (IntKind.bits .i64))) &&& BitVec.ofInt (IntKind.bits .i64) 1)):Int)==0) = !m.testBit i:=by
 have:∀m:Fin 16,∀i:Fin 4,(IntKind.wrap .i64 (↑(BitVec.toNat (BitVec.ofInt (IntKind.bits .i64) (Int.fdiv (m.val:Int) (2 ^ min i.val (IntKind.bits .i64))) &&& BitVec.ofInt (IntKind.bits .i64) 1)):Int)==0) = !m.val.testBit i.val:=by decide +kernel
 exact this ⟨m,a⟩ ⟨i,hi⟩
theorem X5A (x:Int) (h:0<=x/\x<256) (i:Nat) (hi:i<4):(Int.tmod (Int.fdiv x (2 ^ min i (IntKind.bits .u8))) 2==1)=x.toNat.testBit i:=by
 have:∀m:Fin 256,∀i:Fin 4,(Int.tmod (Int.fdiv (m.val:Int) (2 ^ min i.val (IntKind.bits .u8))) 2==1)=m.val.testBit i.val:=by decide +kernel
 obtain⟨n,rfl⟩:=Int.eq_ofNat_of_zero_le h.1;exact this ⟨n,by omega⟩ ⟨i,hi⟩
def X3q:List Int->List Int->Int
 | [],[]=>0
 | [],_::_ => -1
 | _::_,[]=>1
 | a::s,b::t=>if a<b then -1 else if a>b then 1 else X3q s t
theorem X2W (a b:Int) (s t:List Int):X3q (a::s) (b::t)=if a<b then -1 else if a>b then 1 else X3q s t:=rfl
theorem X4C (a b:List Int) (f:a.length<=1000000):Wa a b=some (X3q a b):=by
 unfold Wa Wp;refine Eq.trans (WZ _ _ a.length (fun i (_:Unit)=>(i:Int)) (fun i _=>i<=b.length) (fun i _=>some (X3q (a.drop i) (b.drop i))) ?_ ?_ 0 () (Nat.zero_le _) (Nat.zero_le _)) rfl
 ·intro _ d R;have e1:decide ((a.length:Int)<(a.length:Int))=false:=by simp
  simp only[XE,Xv,e1,jA,List.drop_length,jS,jy]
  by_cases h:a.length<b.length
  ·have c:decide ((a.length:Int)<(b.length:Int))=true:=by simp;omega
   rw[c,jb h];rfl
  ·have c:decide ((a.length:Int)<(b.length:Int))=false:=by simp;omega
   rw[c,jd (by omega)]
   rfl
 ·intro i _ hi d R e;have e1:decide ((i:Int)<(a.length:Int))=true:=by simp;omega
  have w1:=wS i (by omega)
  simp only[XE,Xv,e1,z0S,kS,ju,jB,XN _ _ _ hi,w1];rw[jb hi]
  by_cases h:i<b.length
  ·have c1:decide ((i:Int)>=(b.length:Int))=false:=by simp;omega
   have c2:decide ((i:Int)<(b.length:Int))=true:=by simp;omega
   rw[jb h,X2W];simp only[c1,c2,jB,jA,XN _ _ _ h,X1y];have b1:∀a:Int,(a != a)=false:=fun a=>by simp
   simp only[b1,jA]
   by_cases h1:a[i]<b[i]
   ·simp only[h1,decide_true,jB,jS,if_true];rfl
   ·by_cases h2:a[i]>b[i]
    ·simp only[h1,h2,decide_true,decide_false,jB,jA,jS,if_true,if_false];rfl
    ·simp only[h1,h2,decide_false,jA,jS,if_false];exact e () (by omega)
  ·have c1:decide ((i:Int)>=(b.length:Int))=true:=by simp;omega
   rw[jd (by omega:b.length<=i)]
   simp only[c1,jB];rfl
def X1B (r:CoRecord) (l:List Zr):Bool := !(X5o r l).isEmpty
theorem X4m (l:List Zr) (v:l.length<=4) (m:Nat) (t:m<16) (fd:Bool) (best:List Int) :
  (∃p,WK (m:Int) l (l.length:Int) fd best (0,[],[])=some (.inl p)/\fd=true/\best.length<(X4 m 0 l).length) ∨
  (WK (m:Int) l (l.length:Int) fd best (0,[],[])=some (.inr (XA m 0 l,X4 m 0 l))/\(fd=true->(X4 m 0 l).length<=best.length)):=by
 obtain⟨w,r,o⟩:=X16 (Wr (m:Int) l (l.length:Int) fd best) l.length (fun i (b:List Zr×List Int)=>((i:Int),b.1,b.2))
  (fun i b=>b.1=XA m 0 (l.take i)/\b.2=X4 m 0 (l.take i)/\(fd=true->b.2.length<=best.length))
  (fun w=>(∃p,w=.inl p/\fd=true/\best.length<(X4 m 0 l).length)\/(w=.inr (XA m 0 l,X4 m 0 l)/\(fd=true->(X4 m 0 l).length<=best.length)))
  (fun b d=>by
   obtain⟨q1,q2,q3⟩:=d;rw[List.take_length]at q1 q2;have e1:decide ((l.length:Int)<(l.length:Int))=false:=by simp
   exact⟨.inr (b.1,b.2),by simp only[Wr,Wx,e1,jA],.inr ⟨by rw[q1,q2],by rw[<-q2];exact q3⟩⟩)
  (fun i b hi d=>by
   obtain⟨q1,q2,q3⟩:=d;obtain⟨br,bs⟩:=b;simp only at q1 q2 q3;have e1:decide ((i:Int)<(l.length:Int))=true:=by simp;omega
   have e2:decide ((i:Int)<0)=false:=by simp
   have w1:=wS i (by omega)
   have ht:l.take (i+1)=l.take i++[l[i]]:=List.take_succ_eq_append_getElem hi;have n:(l.take i).length=i:=by rw[List.length_take];omega
   have s:br.length<=i:=by rw[q1];have:=X2e m (l.take i) 0;omega
   have q:bs.length<=i:=by rw[q2];have:=X22 m (l.take i) 0;omega
   have b1:Nat.ble ((br.length+1)*(32+1)) 200000000000000=true:=by rw[Nat.ble_eq];omega
   have b2:Nat.ble ((bs.length+1)*(8+1)) 200000000000000=true:=by rw[Nat.ble_eq];omega
   have hr:=X2U m l[i] (l.take i) 0;have j:=X2B m l[i] (l.take i) 0;rw[<-ht,n,Nat.zero_add]at hr j;simp only[Wr,Wx,e1,e2,z0S,kS,ju,jB,jA,XN _ _ _ hi,w1,X5z m i t (by omega),b1,b2,List.length_singleton]
   cases d:m.testBit i with
   | false =>
    right;rw[d]at hr j;simp only[Bool.not_false,jB];refine⟨(br++[l[i]],bs),rfl,?_,?_,q3⟩
    ·rw[hr,q1];rfl
    ·rw[j,q2];simp
   | true =>
    rw[d]at hr j;simp only[Bool.not_true,jA];have e:br=XA m 0 (l.take (i+1)):=by rw[hr,q1];simp
    have c:bs++[(i:Int)]=X4 m 0 (l.take (i+1)):=by rw[j,q2];simp
    cases fd with
    | false =>
     right;exact⟨(br,bs++[(i:Int)]),rfl,e,c,fun h=>by cases h⟩
    | true =>
     by_cases hc:((bs++[(i:Int)]).length:Int)>(best.length:Int)
     ·left;simp only[hc,decide_true,jB];refine⟨_,rfl,.inl ⟨_,rfl,by first|rfl|trivial,?_⟩⟩
      have u:(X4 m 0 (l.take (i+1))).length<=(X4 m 0 l).length:=by
       have:∀(a b:List Zr) (k:Nat),(X4 m k a).length<=(X4 m k (a++b)).length:=by
        intro a
        induction a with
        | nil=>intro b k;exact Nat.zero_le _
        | cons x a ih =>
         intro b k;rw[List.cons_append,Wb,Wb];split
         ·simp only[List.length_cons];exact Nat.succ_le_succ (ih b (k+1))
         ·exact ih b (k+1)
       have h:=this (l.take (i+1)) (l.drop (i+1)) 0
       rwa [List.take_append_drop]at h
      rw[c]at hc;omega
     ·right;simp only[hc,decide_false,jB,jA];exact⟨(br,bs++[(i:Int)]),rfl,e,c,fun _=>by show(bs++[(i:Int)]).length<=best.length;omega⟩) 0 ([],[]) (Nat.zero_le _) ⟨rfl,rfl,fun _=>Nat.zero_le _⟩
 have f:WK (m:Int) l (l.length:Int) fd best (0,[],[])=some w:=r;rcases o with⟨p,rfl,g1,g2⟩|⟨rfl,g⟩
 ·exact .inl ⟨p,f,g1,g2⟩
 ·exact .inr ⟨f,g⟩
def Z3y (a b:List Int):Prop:=a.length<b.length\/(a.length=b.length/\X3q a b<=0)
structure X23 (r:CoRecord) (l:List Zr) (k:Nat) (fd:Bool) (best:List Int):Prop where
 yes:fd=true->∃m,m<k/\best=X4 m 0 l/\X1B r (XA m 0 l)=true
 least:fd=true->∀m,m<k->X1B r (XA m 0 l)=true->Z3y best (X4 m 0 l)
 no:fd=false->best=[]/\∀m,m<k->X1B r (XA m 0 l)=false
theorem X3Q:∀{a b c:List Int},X3q a b<=0->X3q b c<=0->X3q a c<=0
 | [],[],[],_,_=>by decide
 | [],_,_::_,_,_=>by show(-1:Int)<=0;decide
 | [],_::_,[],_,h=>absurd h (by show ¬(1:Int)<=0;decide)
 | _::_,[],_,h,_=>absurd h (by show ¬(1:Int)<=0;decide)
 | _::_,_::_,[],_,h=>absurd h (by show ¬(1:Int)<=0;decide)
 | x::a,y::b,z::c,h1,h2=>by
  rw[X2W]at h1 h2⊢
  by_cases e1:x<y
  ·by_cases e2:y<z
   ·rw[if_pos (by omega)];decide
   ·rw[if_neg e2]at h2
    by_cases e3:y>z
    ·rw[if_pos e3]at h2;omega
    ·rw[if_pos (by omega)];decide
  ·rw[if_neg e1]at h1
   by_cases e4:x>y
   ·rw[if_pos e4]at h1;omega
   ·rw[if_neg e4]at h1
    by_cases e2:y<z
    ·rw[if_pos (by omega)];decide
    ·rw[if_neg e2]at h2
     by_cases e3:y>z
     ·rw[if_pos e3]at h2;omega
     ·rw[if_neg e3]at h2;rw[if_neg (by omega),if_neg (by omega)]
      exact X3Q h1 h2
theorem X4c:∀a:List Int,X3q a a=0
 | []=>rfl
 | x::a=>by rw[X2W,if_neg (Int.lt_irrefl x),if_neg (Int.lt_irrefl x),X4c a]
theorem X4b:∀(a b:List Int),X3q a b>0->X3q b a<=0
 | [],[],h=>absurd h (by decide)
 | [],_::_,h=>absurd h (by show ¬(-1:Int)>0;decide)
 | _::_,[],_=>by show(-1:Int)<=0;decide
 | x::a,y::b,h=>by
  rw[X2W]at h⊢
  by_cases e1:x<y
  ·rw[if_pos e1]at h;omega
  ·rw[if_neg e1]at h
   by_cases e2:x>y
   ·rw[if_pos (by omega)];decide
   ·rw[if_neg e2]at h;rw[if_neg (by omega),if_neg (by omega)]
    exact X4b a b h
theorem X4M (a:List Int):Z3y a a:=.inr ⟨rfl,by rw[X4c];exact Int.le_refl 0⟩
theorem X4B {a b c:List Int} (e:Z3y a b) (d:Z3y b c):Z3y a c:=by
 rcases e with e|⟨e,g⟩<;>rcases d with d|⟨d,f⟩
 ·exact .inl (by omega)
 ·exact .inl (by omega)
 ·exact .inl (by omega)
 ·exact .inr ⟨by omega,X3Q g f⟩
theorem X4l (r:CoRecord) (l:List Zr) (y:l.length<=4) (u:X4V r l) :
  ∃fd best,X1C ((2 ^ l.length:Nat):Int) l r (0,false,[])=some best/\X23 r l (2 ^ l.length) fd best:=by
 have h16:2 ^ l.length<=16:=by
  have:2 ^ l.length<=2 ^ 4:=Nat.pow_le_pow_right (by omega) y
  omega
 obtain⟨w,h1,fd,z⟩:=X16 (Wq ((2 ^ l.length:Nat):Int) l r) (2 ^ l.length) (fun k (b:Bool×List Int)=>((k:Int),b.1,b.2)) (fun k b=>X23 r l k b.1 b.2) (fun w=>∃fd,X23 r l (2 ^ l.length) fd w)
  (fun b g=>⟨b.2,by
   have e1:decide (((2 ^ l.length:Nat):Int)<((2 ^ l.length:Nat):Int))=false:=by simp
   simp only[Wq,Ww,e1,jA],b.1,g⟩)
  (fun k b hk g=>by
   right;obtain⟨fd,best⟩:=b;simp only at g;have e1:decide ((k:Int)<((2 ^ l.length:Nat):Int))=true:=by rw[jk];exact Int.ofNat_lt.2 hk
   have w1:=wS k (by omega)
   have n:X4V r (XA k 0 l):=⟨u.ent,Nat.le_trans (X2e _ _ _) u.many,fun x i=>u.seen x (X2A _ _ _ x i)⟩;have t:Xn ⟨r,XA k 0 l⟩=some (X1B r (XA k 0 l)):=X2N n;have keep:fd=true->Z3y best (X4 k 0 l)->X23 r l (k+1) fd best:=fun d f=>⟨fun h=>by
     obtain⟨m,a,b,c⟩:=g.yes h;exact⟨m,by omega,b,c⟩,fun h m q j=>by
     by_cases e:m=k
     ·subst e;exact f
     ·exact g.least h m (by omega) j,fun h=>by rw[d]at h;cases h⟩
   have drop:X1B r (XA k 0 l)=false->X23 r l (k+1) fd best:=fun j=>⟨fun h=>by
     obtain⟨m,a,b,c⟩:=g.yes h;exact⟨m,by omega,b,c⟩,fun h m q i=>by
     by_cases e:m=k
     ·subst e;rw[j]at i;cases i
     ·exact g.least h m (by omega) i,fun h=>⟨(g.no h).1,fun m q=>by
     by_cases e:m=k
     ·subst e;exact j
     ·exact(g.no h).2 m (by omega)⟩⟩
   have take:X1B r (XA k 0 l)=true->(fd=true->Z3y (X4 k 0 l) best)->X23 r l (k+1) true (X4 k 0 l):=fun j f=>⟨fun _=>⟨k,by omega,rfl,j⟩,fun _ m q i=>by
     by_cases e:m=k
     ·subst e;exact X4M _
     ·cases d:fd with
      | true=>exact X4B (f d) (g.least d m (by omega) i)
      | false=>rw[(g.no d).2 m (by omega)]at i;(cases i),fun h=>by cases h⟩
   simp only[Wq,Ww,e1,jB,w1];rcases X4m l y k (by omega) fd best with⟨p,v,d,f⟩|⟨v,o⟩
   ·simp only[v,jS,jw];exact⟨(fd,best),rfl,keep d (.inl f)⟩
   ·simp only[v,jS,jy,t];have fin:(fd=true->Z3y (X4 k 0 l) best)->∃b':Bool×List Int,(bif X1B r (XA k 0 l)then some (Sum.inl (((k+1:Nat):Int),true,X4 k 0 l))else some (Sum.inl (((k+1:Nat):Int),fd,best)))=(some (Sum.inl (((k+1:Nat):Int),b'.1,b'.2)):Option ((Int×Bool×List Int)⊕List Int))/\X23 r l (k+1) b'.1 b'.2:=fun s=>by
     cases j:X1B r (XA k 0 l)with
     | true=>exact⟨(true,X4 k 0 l),rfl,take j s⟩
     | false=>exact⟨(fd,best),rfl,drop j⟩
    cases d:fd with
    | false =>
     simp only[jA];have:=fin (fun h=>by rw[d]at h;cases h)
     rw[d]at this;exact this
    | true =>
     have o:=o d;simp only[jB]
     by_cases hlen:(X4 k 0 l).length=best.length
     ·have c1:(((X4 k 0 l).length:Int)==(best.length:Int))=true:=by simp[hlen]
      have hc:=X4C (X4 k 0 l) best (by have:=X22 k l 0;omega)
      simp only[c1,jB,hc,jS]
      by_cases hgt:X3q (X4 k 0 l) best>0
      ·simp only[hgt,decide_true,jB];refine⟨(true,best),rfl,?_⟩;have:=keep d (.inr ⟨hlen.symm,X4b _ _ hgt⟩);rw[d]at this;exact this
      ·simp only[hgt,decide_false,jA];have:=fin (fun _=>.inr ⟨hlen,by omega⟩)
       rw[d]at this;exact this
     ·have c1:(((X4 k 0 l).length:Int)==(best.length:Int))=false:=X3b (by omega)
      simp only[c1,jA];have:=fin (fun _=>.inl (by omega))
      rw[d]at this;exact this) 0 (false,[]) (Nat.zero_le _) ⟨fun h=>(by cases h),fun h=>(by cases h),fun _=>⟨rfl,fun m q=>by omega⟩⟩
 exact⟨fd,w,h1,z⟩
end Nore
open Go Go.Ab
namespace Nore
theorem X4f:∀(l:List Zq) (a:Int) (i:Nat),Xm a i l=(0,0)->∃x:Nat->Int,(∀j (h:j<l.length),l[j].At.Lo<=x j/\x j<=l[j].At.Hi/\a<=x j)/\∀j,j+1<l.length->x j<=x (j+1)
 | [],_,_,_=>⟨fun _=>0,fun j h=>by simp at h,fun j h=>by simp at h⟩
 | e::l,a,i,h=>by
  rw[X2k]at h
  by_cases hc:(if e.At.Lo>a then e.At.Lo else a)>e.At.Hi
  ·rw[if_pos hc]at h;have:=congrArg Prod.snd h;simp at this
  ·rw[if_neg hc]at h;obtain⟨x,d,f⟩:=X4f l _ _ h;generalize hm:(if e.At.Lo>a then e.At.Lo else a)=m at hc d;have b:e.At.Lo<=m/\a<=m:=by rw[<-hm];split<;>omega
   refine⟨fun j=>if j=0 then m else x (j-1),fun j c=>?_,fun j c=>?_⟩
   ·cases j with
    | zero=>exact⟨b.1,by simp only[if_true];show m<=e.At.Hi;omega,b.2⟩
    | succ j =>
     have:=d j (by simpa using c)
     simp only[Nat.add_one_ne_zero,if_false,Nat.add_sub_cancel,List.getElem_cons_succ];omega
   ·cases j with
    | zero =>
     have:=d 0 (by simpa using c)
     simp only[if_true,Nat.add_one_ne_zero,if_false];exact this.2.2
    | succ j =>
     have:=f j (by simpa using c)
     simp only[Nat.add_one_ne_zero,if_false,Nat.add_sub_cancel];exact this
theorem X4A {r:CoRecord} (h:X4W r):X1B r []=true:=by
 unfold X1B X5o;have b:Xz r.Entries.length (([]:List Zr).map (X2f r)) (X24 (X1Q r) [])≠[]:=by
  rw[X4E (X5y r []) (fun p a=>by cases a)]
  obtain⟨x,d,c⟩:=X4f r.Entries 0 0 h.order;have e:∀i (hi:i<r.Entries.length),(X24 (X1Q r) []).lo i=r.Entries[i].At.Lo/\(X24 (X1Q r) []).hi i=r.Entries[i].At.Hi:=fun i hi=>by
   show((r.Entries.getD i (Zq.mk 0 0 (Y2.mk 0 0))).At).Lo=_/\((r.Entries.getD i (Zq.mk 0 0 (Y2.mk 0 0))).At).Hi=_;rw[XN _ _ _ hi];exact⟨rfl,rfl⟩
  exact⟨x,⟨⟨fun i hi=>by rw[(e i hi).1];exact(d i hi).1,fun i hi=>c i hi,fun p a=>by cases a⟩,⟨fun i hi=>by rw[(e i hi).2];exact(d i hi).2.1,fun i hi=>c i hi,fun p a=>by cases a⟩⟩,fun w f=>by cases f⟩
 cases hq:Xz r.Entries.length (([]:List Zr).map (X2f r)) (X24 (X1Q r) [])with
 | nil=>exact absurd hq b
 | cons=>rfl
theorem X3R {r:CoRecord} {l:List Zr} (h:(WQ r l).2=0) :
  ∃m,X1R r l=some (X4 m 0 l,0)/\X1B r (XA m 0 l)=true/\∀m',X1B r (XA m' 0 l)=true->Z3y (X4 m 0 l) (X4 m' 0 l):=by
 obtain⟨hr,f,_⟩:=X3K h;obtain⟨fd,best,i,d⟩:=X4l r l f (X5j h);have b:fd=true:=by
  cases hf:fd with
  | true=>rfl
  | false =>
   have:=(d.no hf).2 (2 ^ l.length-1) (by have:=Nat.two_pow_pos l.length;omega)
   rw[X3B l.length l 0 (by omega),X4A hr]at this
   cases this
 obtain⟨m,j,rfl,g⟩:=d.yes b;refine⟨m,?_,g,fun m' h'=>?_⟩
 ·rw[X27];unfold WS;rw[X1Z];have c:((WQ r l).2 != 0)=false:=by simp[h]
  have a:IntKind.wrap .i64 (1*2 ^ min (Int.toNat (l.length:Int)) (IntKind.bits .i64))=((2 ^ l.length:Nat):Int):=by
   have:∀n:Fin 5,IntKind.wrap .i64 (1*2 ^ min (Int.toNat (n.val:Int)) (IntKind.bits .i64))=((2 ^ n.val:Nat):Int):=by decide +kernel
   exact this ⟨l.length,by omega⟩
  simp only[jS,c,jA,a,i]
 ·have e:=Nat.two_pow_pos l.length;have:=d.least b (m' % 2 ^ l.length) (Nat.mod_lt _ e);rw[X3W m' l.length l 0 (by omega),X4j m' l.length l 0 (by omega)]at this
  exact this h'
theorem X3F {r:CoRecord} {l:List Zr} (h:(WQ r l).2≠0):X1R r l=some ([],(WQ r l).2):=by
 rw[X27];unfold WS;rw[X1Z];have c:((WQ r l).2 != 0)=true:=X2g h;simp only[jS,c,jB]
theorem X4i {α:Type} (m:Nat):∀(a b:List α) (i:Nat),X4 m i (a++b)=X4 m i a++X4 m (i+a.length) b
 | [],b,i=>rfl
 | x::a,b,i=>by
  rw[List.cons_append,Wb,Wb,X4i m a b (i+1),show i+(x::a).length=i+1+a.length by simp only[List.length_cons];omega]
  split<;>rfl
theorem X3l {α:Type} (m:Nat):∀(l:List α) (i:Nat),∀v∈X4 m i l,(i:Int)<=v/\v<((i+l.length:Nat):Int)
 | x::l,i,v,h=>by
  have ih:=X3l m l (i+1) v;rw[Wb]at h;simp only[List.length_cons];split at h
  ·rcases jv.1 h with rfl|h
   ·omega
   ·have:=ih h;omega
  ·have:=ih h;omega
theorem X3u {α:Type} (m:Nat):∀(l:List α) (i:Nat),(X4 m i l).Pairwise (· < ·)
 | [],_=>List.Pairwise.nil
 | x::l,i=>by
  rw[Wb];split
  ·exact List.Pairwise.cons (fun v hv=>by have:=(X3l m l (i+1) v hv).1;omega) (X3u m l (i+1))
  ·exact X3u m l (i+1)
theorem X2p (l:List Zr) (u:l.length<=1000) (m:Nat):X10 l (X4 m 0 l)=some (XA m 0 l):=by
 rw[X2t];unfold WY;obtain⟨w,t,q⟩:=X16 (Wd (X4 m 0 l) l) l.length (fun i (b:Int×List Zr)=>((i:Int),b.1,b.2))
  (fun i b=>b.1=((X4 m 0 (l.take i)).length:Int)/\b.2=XA m 0 (l.take i)) (fun w=>w=XA m 0 l)
  (fun b e=>⟨b.2,by
   have e1:decide ((l.length:Int)<(l.length:Int))=false:=by simp
   simp only[Wd,Wk,e1,jA],by rw[e.2,List.take_length]⟩)
  (fun i b hi e=>by
   right;obtain⟨k,left⟩:=b;obtain⟨q1,q2⟩:=e;simp only at q1 q2;have e1:decide ((i:Int)<(l.length:Int))=true:=by simp;omega
   have w1:=wS i (by omega)
   have ht:l.take (i+1)=l.take i++[l[i]]:=List.take_succ_eq_append_getElem hi;have f:(l.take i).length=i:=by rw[List.length_take];omega
   have hr:=X2U m l[i] (l.take i) 0;have j:=X2B m l[i] (l.take i) 0;rw[<-ht,f,Nat.zero_add]at hr j;have a:X4 m 0 l=X4 m 0 (l.take i)++X4 m i (l.drop i):=by
    have:=X4i m (l.take i) (l.drop i) 0
    rwa [List.take_append_drop,f,Nat.zero_add]at this
   have c:l.drop i=l[i]::l.drop (i+1):=jb hi;have o:=X22 m (l.take i) 0;have n:=X2e m (l.take i) 0;rw[f]at o n;have w2:=wS (X4 m 0 (l.take i)).length (by omega)
   have b1:Nat.ble ((left.length+1)*(32+1)) 200000000000000=true:=by rw[Nat.ble_eq,q2];omega
   simp only[Wd,Wk,e1,z0S,kS,ju,jB,XN _ _ _ hi,w1,q1,w2,List.length_singleton,b1];cases e:m.testBit i with
   | true =>
    rw[e]at hr j;rw[c,Wb,e,if_pos rfl]at a;have c1:decide (((X4 m 0 (l.take i)).length:Int)<((X4 m 0 l).length:Int))=true:=by
     rw[a];simp only[List.length_append,List.length_cons,jk];omega
    have d:(X4 m 0 l).getD (X4 m 0 (l.take i)).length 0=(i:Int):=by
     rw[a];simp[List.getD]
    have c2:((i:Int)==(i:Int))=true:=by simp
    simp only[c1,jB,d,c2];refine⟨(_,left),rfl,?_,?_⟩
    ·rw[j];simp
    ·rw[hr,q2];simp
   | false =>
    rw[e]at hr j;rw[c,Wb,e,if_neg (by decide)]at a
    have h:left++[l[i]]=XA m 0 (l.take (i+1)):=by rw[hr,q2];rfl
    have g:((X4 m 0 (l.take i)).length:Int)=((X4 m 0 (l.take (i+1))).length:Int):=by rw[j];simp
    by_cases hk:(X4 m 0 (l.take i)).length<(X4 m 0 l).length
    ·have c1:decide (((X4 m 0 (l.take i)).length:Int)<((X4 m 0 l).length:Int))=true:=by simp;omega
     have d:∃v∈X4 m (i+1) (l.drop (i+1)),(X4 m 0 l).getD (X4 m 0 (l.take i)).length 0=v:=by
      rw[a]at hk⊢;rw[List.length_append]at hk;refine⟨(X4 m (i+1) (l.drop (i+1)))[0]'(by omega),jl _,?_⟩
      rw[XN _ _ _ (by rw[List.length_append];omega),List.getElem_append_right (Nat.le_refl _)]
      congr 1;omega
     obtain⟨v,hv,s⟩:=d;have r:=X3l m _ _ v hv;have c2:(v==(i:Int))=false:=X3b (by omega)
     simp only[c1,jB,s,c2,jA];exact⟨(_,_),rfl,g,h⟩
    ·have c1:decide (((X4 m 0 (l.take i)).length:Int)<((X4 m 0 l).length:Int))=false:=by simp;omega
     simp only[c1,jA];exact⟨(_,_),rfl,g,h⟩) 0 (0,[]) (Nat.zero_le _) ⟨by simp[X4],by simp[XA]⟩
 have p:X1s (X4 m 0 l) l (0,0,[])=some w:=t;rw[p,q];rfl
theorem X3w {α:Type} (f:Nat->α->Int):∀(l:List α) (i:Nat),(∀x∈l,∀j,f j x=0)->WO f i l=(0,0)
 | [],_,_=>rfl
 | x::l,i,h=>by
  rw[X1b,if_neg (fun q=>q (h x (by simp) i))]
  exact X3w f l (i+1) fun y hy=>h y (by simp[hy])
theorem X4R {r:CoRecord} {l:List Zr} (h:(WQ r l).2=0):(WR r).2.2=0:=by
 unfold WQ at h
 by_cases q1:(WR r).2.2=0
 ·exact q1
 ·rw[if_pos q1]at h;exact absurd h q1
theorem X5u {r:CoRecord} {l:List Zr} (a:(WR r).2.2=0) (d:l.length<=4) (b:∀x∈l,X1p r x.Device x.State x.At=0):WQ r l=(0,0):=by
 unfold WQ;rw[if_neg (fun q=>q a),if_neg (by omega)]
 exact X3w _ l 0 fun x c _=>b x c
theorem X4S {r:CoRecord} {l:List Zr} (h:(WQ r l).2=0) (m:Nat):WQ r (XA m 0 l)=(0,0):=by
 obtain⟨_,a,b⟩:=X3K h;exact X5u (X4R h) (Nat.le_trans (X2e m l 0) a) fun x c=>b x (X2A m l 0 x c)
theorem X4z {r:CoRecord} {l:List Zr} (h:(WQ r l).2=0) (m:Nat):X1I r (XA m 0 l)=some (X1B r (XA m 0 l),0):=by
 rw[X3D];unfold X4L X1B;rw[X4S h m];rfl
theorem X56 (w:List Int) (l:List Zr) (d:w.length<=1000) (c:∀v∈w,0<=v/\v<(l.length:Int)) (b:w.Pairwise (· < ·)):Wm w l 0=some (.inr ()):=by
 obtain⟨y,g1,g2⟩:=X16 (XJ w l) w.length (fun i (_:Unit)=>(i:Int)) (fun _ _=>True) (fun y=>y=.inr ())
  (fun _ _=>⟨.inr (),by simp[XJ,XS],rfl⟩)
  (fun i _ hi _=>by
   right;refine⟨(),?_,trivial⟩;have e1:decide ((i:Int)<(w.length:Int))=true:=by simp;omega
   have w1:=wS i (by omega)
   have e:=c _ (jl hi);have c1:decide (w[i]<0)=false:=by simp;omega
   have c2:decide (w[i]>=(l.length:Int))=false:=by simp;omega
   simp only[XJ,XS,e1,z0S,kS,ju,jB,XN _ _ _ hi,w1,c1,c2,jA];cases i with
   | zero=>rfl
   | succ i =>
    have w2:IntKind.wrap .i64 (((i+1:Nat):Int)-1)=(i:Int):=by rw[w64]<;>omega
    have c3:decide (((i+1:Nat):Int)>0)=true:=by rw[jk];omega
    have c4:decide ((i:Int)<(w.length:Int))=true:=by simp;omega
    have a:w[i]<w[i+1]:=(List.pairwise_iff_getElem.1 b) i (i+1) (by omega) hi (by omega)
    have c5:decide (w[i+1]<=w[i])=false:=by simp;omega
    simp only[w2,c3,c4,jB,z0S,kS,ju,XN _ _ _ (by omega:i<w.length),c5,jA]) 0 () (Nat.zero_le _) trivial
 have g1':Wm w l 0=some y:=g1;rw[g1',g2]
theorem X57 (l:List Zr) (g:l.length<=4) (o:Int) (f:0<=o/\o<256):Wn l o (0,[])=some (X4 o.toNat 0 l):=by
 obtain⟨y,g1,g2⟩:=X16 (XK l o) l.length (fun i (b:List Int)=>((i:Int),b)) (fun i b=>b=X4 o.toNat 0 (l.take i)) (fun y=>y=X4 o.toNat 0 l)
  (fun b a=>⟨b,by simp[XK,XT],by rw[List.take_length]at a;exact a⟩)
  (fun i b hi a=>by
   right;have e1:decide ((i:Int)<(l.length:Int))=true:=by simp;omega
   have e2:decide ((i:Int)<0)=false:=by simp
   have w1:=wS i (by omega)
   have ht:l.take (i+1)=l.take i++[l[i]]:=List.take_succ_eq_append_getElem hi;have d:(l.take i).length=i:=by rw[List.length_take];omega
   have c:=X2B o.toNat l[i] (l.take i) 0;rw[<-ht,d,Nat.zero_add]at c;have e:b.length<=i:=by rw[a];have:=X22 o.toNat (l.take i) 0;omega
   have b1:Nat.ble ((b.length+1)*(8+1)) 200000000000000=true:=by rw[Nat.ble_eq];omega
   simp only[XK,XT,e1,e2,kS,jB,jA,w1,X5A o f i (by omega),List.length_singleton,b1]
   cases hb2:o.toNat.testBit i with
   | true =>
    rw[hb2]at c;simp only[jB];exact⟨b++[(i:Int)],rfl,by rw[c,a];simp⟩
   | false =>
    rw[hb2]at c;simp only[jA];exact⟨b,rfl,by rw[c,a];simp⟩) 0 [] (Nat.zero_le _) rfl
 have g1':Wn l o (0,[])=some y:=g1;rw[g1',g2]
theorem X3T (r:CoRecord) (l:List Zr):X2x r l=some ((WQ r l).2==0):=by
 rw[X36];unfold X1r;rw[X32];rfl
theorem X3m (r:CoRecord) (l:List Zr) (o:Int) (f:0<=o/\o<256):WU r l o=some true:=by
 rw[X1V];unfold Wi;rw[X3T]
 by_cases h:(WQ r l).2=0
 ·obtain⟨m,p,i,j⟩:=X3R h;obtain⟨_,g,_⟩:=X3K h;have hz:((WQ r l).2==0)=true:=by simp[h]
  have n:=X22 m l 0;have a:X10 l (X4 o.toNat 0 l)=some (XA o.toNat 0 l):=X2p l (by omega) o.toNat
  have e:X10 l (X4 m 0 l)=some (XA m 0 l):=X2p l (by omega) m
  have d:=X56 (X4 m 0 l) l (by omega) (fun v hv=>by have:=X3l m l 0 v hv;omega) (X3u m l 0)
  have b3:((0:Int)==0)=true:=rfl;simp only[p,jS,hz,Bool.not_true,jA,d,jy,X57 l g o f,e,a,X4z h,b3,jB,i];cases hb:X1B r (XA o.toNat 0 l)with
  | false=>rfl
  | true =>
   have b:=j o.toNat hb;have c:decide (((X4 o.toNat 0 l).length:Int)>=((X4 m 0 l).length:Int))=true:=by
    rw[jk];rcases b with q|q
    ·omega
    ·omega
   simp only[Bool.not_true,jA,c,jB]
 ·have hz:((WQ r l).2==0)=false:=X3b h;have k:((WQ r l).2 != 0)=true:=X2g h;simp only[X3F h,jS,hz,k,Bool.not_false,jB];rfl
theorem X3n (r:CoRecord) (l:List Zr) (o:Int) (a:(Lit.int .u8 o).wf=true):WU r l o=some true:=by
 refine X3m r l o ?_;simp[Lit.wf,IntKind.has,IntKind.min,IntKind.max,IntKind.signed,IntKind.bits]at a;omega
end Nore
