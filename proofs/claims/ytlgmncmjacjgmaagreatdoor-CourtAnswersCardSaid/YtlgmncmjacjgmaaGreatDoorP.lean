/- The plain functions of the program and of the document answer alike. -/
import Derived.Test.YtlgmncmjacjgmaaGreatDoorY
import Derived.Test.YtlgmncmjacjgmaaGreatDoorD
set_option linter.unusedSectionVars false
set_option linter.unusedVariables false
set_option linter.unusedSimpArgs false
open Go Go.Ab
namespace Nore
theorem w64 {x:Int} (a : -9223372036854775808<=x) (b:x<=9223372036854775807):IntKind.wrap .i64 x=x:=by
  simp only[IntKind.wrap,IntKind.signed,IntKind.bits];simp;omega
theorem jS {α β:Type} (a:α) (f:α->Option β):Option.bind (some a) f=f a:=rfl
theorem kS (n:Nat):Int.toNat (n:Int)=n:=rfl
theorem wS (i:Nat) (h:i<9223372036854775807):IntKind.wrap .i64 ((i:Int)+1)=((i+1:Nat):Int):=by rw[w64]<;>omega
theorem z0S (i:Nat):decide ((0:Int)<=↑i)=true:=by simp
theorem X9o {σ ω γ:Type} (st:σ->Option (σ⊕ω)) (k:ω->Option γ) (s:σ):Option.bind (Z8I st s) k=Option.bind (st s) (Sum.elim (fun s'=>Option.bind (Z8I st s') k) k):=by
  rw[ZjJ];cases st s with
  | none=>rfl
  | some r=>cases r<;>rfl
theorem X1V {β σ ω γ:Type} (st:σ->Option (σ⊕ω)) (k:ω->Option γ) (n:Nat) (emb:Nat->β->σ) (P:Nat->β->Prop) (nice:Nat->β->Option γ)
    (d:∀b,P n b->∀R:σ->Option γ,Option.bind (st (emb n b)) (Sum.elim R k)=nice n b)
    (e:∀i b,i<n->P i b->∀R:σ->Option γ,(∀b',P (i+1) b'->R (emb (i+1) b')=nice (i+1) b')->Option.bind (st (emb i b)) (Sum.elim R k)=nice i b) :
    ∀i b,i<=n->P i b->Option.bind (Z8I st (emb i b)) k=nice i b:=by
  intro i b hi c
  induction hj:n-i generalizing i b with
  | zero =>
    have:i=n:=by omega
    subst this;rw[X9o];exact d b c _
  | succ j ih =>
    rw[X9o];exact e i b (by omega) c _ fun b' a=>ih (i+1) b' (by omega) a (by omega)
theorem X3a {a b:Int} (h:¬a=b):(a==b)=false:=beq_eq_false_iff_ne.2 h
theorem X3g {a b:Int} (h:¬a=b):(a != b)=true:=bne_iff_ne.2 h
theorem X5 {α:Type} (l:List α) (i:Nat) (d:α) (h:i<l.length):l.getD i d=l[i]:=by simp[List.getD,h]
theorem XA {β σ ω:Type} (st:σ->Option (σ⊕ω)) (n:Nat) (emb:Nat->β->σ) (P:Nat->β->Prop) (Q:ω->Prop)
    (e:∀b,P n b->∃w,st (emb n b)=some (.inr w)/\Q w)
    (g:∀i b,i<n->P i b->(∃w,st (emb i b)=some (.inr w)/\Q w)\/∃b',st (emb i b)=some (.inl (emb (i+1) b'))/\P (i+1) b') :
    ∀i b,i<=n->P i b->∃w,Z8I st (emb i b)=some w/\Q w:=by
  intro i b hi d
  induction hj:n-i generalizing i b with
  | zero =>
    have:i=n:=by omega
    subst this;obtain⟨w,c,a⟩:=e b d;exact⟨w,by rw[ZjJ,c];rfl,a⟩
  | succ j ih =>
    rcases g i b (by omega) d with⟨w,c,a⟩|⟨b',c,a⟩
    · exact⟨w,by rw[ZjJ,c];rfl,a⟩
    · obtain⟨w,f,h⟩:=ih (i+1) b' (by omega) a (by omega)
      exact⟨w,by rw[ZjJ,c];exact f,h⟩
end Nore
namespace Nore
structure Con where
  lo:Nat->Int
  hi:Nat->Int
  ap:List (Nat×Nat)
def X7B (n:Nat) (x:Nat->Int):Prop:=∀i,i+1<n->x i<=x (i+1)
def ApN (ap:List (Nat×Nat)) (x:Nat->Int):Prop:=∀p∈ap,x p.1+1<=x p.2
def UpN (n:Nat) (c:Con) (x:Nat->Int):Prop:=(∀i,i<n->c.lo i<=x i)/\X7B n x/\ApN c.ap x
def DnN (n:Nat) (c:Con) (x:Nat->Int):Prop:=(∀i,i<n->x i<=c.hi i)/\X7B n x/\ApN c.ap x
def Sol (n:Nat) (c:Con) (x:Nat->Int):Prop:=UpN n c x/\DnN n c x
structure X71 (n:Nat) (c:Con) (L:Nat->Int):Prop where
  up:UpN n c L
  least:∀x,UpN n c x->∀i,i<n->L i<=x i
structure X70 (n:Nat) (c:Con) (H:Nat->Int):Prop where
  dn:DnN n c H
  great:∀x,DnN n c x->∀i,i<n->x i<=H i
def X60 (n:Nat) (ap:List (Nat×Nat)):Prop:=∀p∈ap,p.1<p.2/\p.2<n
theorem Xaf {n:Nat} {c c':Con} {L L':Nat->Int} (h:X71 n c L) (h':X71 n c' L') (e:∀x,UpN n c x↔UpN n c' x):∀i,i<n->L i=L' i:=fun i hi =>
  Int.le_antisymm (h.least _ ((e _).2 h'.up) i hi) (h'.least _ ((e _).1 h.up) i hi)
theorem Xae {n:Nat} {c c':Con} {H H':Nat->Int} (h:X70 n c H) (h':X70 n c' H') (e:∀x,DnN n c x↔DnN n c' x):∀i,i<n->H i=H' i:=fun i hi =>
  Int.le_antisymm (h'.great _ ((e _).1 h.dn) i hi) (h.great _ ((e _).2 h'.dn) i hi)
theorem X8M {n:Nat} {c:Con} {L H:Nat->Int} (hL:X71 n c L) (a:X70 n c H) (h:∀i,i<n->L i<=H i):Sol n c L :=
  ⟨hL.up,fun i hi=>Int.le_trans (h i hi) (a.dn.1 i hi),hL.up.2.1,hL.up.2.2⟩
theorem Xa1 {n:Nat} {c:Con} {L H:Nat->Int} (hL:X71 n c L) (a:X70 n c H) (h:∀i,i<n->L i<=H i):Sol n c H :=
  ⟨⟨fun i hi=>Int.le_trans (hL.up.1 i hi) (h i hi),a.dn.2.1,a.dn.2.2⟩,a.dn⟩
theorem X9P {n:Nat} {c:Con} {L H:Nat->Int} (hL:X71 n c L) (a:X70 n c H):(∃x,Sol n c x)↔∀i,i<n->L i<=H i :=
  ⟨fun⟨x,h1,h2⟩ i hi=>Int.le_trans (hL.least x h1 i hi) (a.great x h2 i hi),fun h=>⟨L,X8M hL a h⟩⟩
def X7c (L:Nat->Int):List (Nat×Nat)->Nat->Int->Int
  | [],_,a=>a
  | p::ps,i,a=>X7c L ps i (if p.2=i then(if L p.1+1>a then L p.1+1 else a)else a)
def up1 (ap:List (Nat×Nat)) (L:Nat->Int) (i:Nat):Int:=X7c L ap i (if 0<i then(if L (i-1)>L i then L (i-1)else L i)else L i)
def WJ (ap:List (Nat×Nat)):Nat->(Nat->Int)->Nat->Int
  | 0,L=>L
  | k+1,L=>fun j=>if j=k then up1 ap (WJ ap k L) k else WJ ap k L j
theorem X8Y (L:Nat->Int) (i:Nat):∀(ap:List (Nat×Nat)) (a:Int),a<=X7c L ap i a/\∀p∈ap,p.2=i->L p.1+1<=X7c L ap i a
  | [],a=>⟨Int.le_refl _,by simp⟩
  | p::ps,a=>by
    unfold X7c;have b:a<=(if p.2=i then(if L p.1+1>a then L p.1+1 else a)else a)/\(p.2=i->L p.1+1<=(if p.2=i then(if L p.1+1>a then L p.1+1 else a)else a)):=by
      by_cases e:p.2=i
      · by_cases e2:L p.1+1>a
        · simp only[e,e2,if_true];exact⟨by omega,fun _=>Int.le_refl _⟩
        · simp only[e,e2,if_true,if_false];exact⟨Int.le_refl _,fun _=>by omega⟩
      · simp only[e,if_false];exact⟨Int.le_refl _,fun h=>h.elim⟩
    generalize (if p.2=i then(if L p.1+1>a then L p.1+1 else a)else a)=a' at b⊢;obtain⟨d,f⟩:=X8Y L i ps a';refine⟨Int.le_trans b.1 d,fun q c e=>?_⟩;rcases jv.1 c with rfl|c
    · exact Int.le_trans (b.2 e) d
    · exact f q c e
theorem X8Z (L:Nat->Int) (i:Nat) (b:Int):∀(ap:List (Nat×Nat)) (a:Int),a<=b->(∀p∈ap,p.2=i->L p.1+1<=b)->X7c L ap i a<=b
  | [],_,h,_=>h
  | p::ps,a,h,hp=>by
    unfold X7c;refine X8Z L i b ps _ ?_ fun q c=>hp q (by simp[c])
    have:=hp p (by simp)
    split
    · rename_i e
      have:=this e;split<;>omega
    · exact h
theorem X9c (ap:List (Nat×Nat)) (L:Nat->Int):∀(k j:Nat),k<=j->WJ ap k L j=L j
  | 0,_,_=>rfl
  | k+1,j,h=>by
    unfold WJ;rw[if_neg (by omega)]
    exact X9c ap L k j (by omega)
theorem X1Y {n:Nat} {c:Con} (g:X60 n c.ap):X71 n c (WJ c.ap n c.lo):=by
  have main:∀k,k<=n->(∀i,i<k->c.lo i<=WJ c.ap k c.lo i)/\(∀i,i+1<k->WJ c.ap k c.lo i<=WJ c.ap k c.lo (i+1))/\(∀p∈c.ap,p.2<k->WJ c.ap k c.lo p.1+1<=WJ c.ap k c.lo p.2) ∧
      ∀x,UpN n c x->∀i,i<k->WJ c.ap k c.lo i<=x i:=by
    intro k
    induction k with
    | zero=>intro _;exact⟨fun i h=>by omega,fun i h=>by omega,fun p _ h=>by omega,fun x _ i h=>by omega⟩
    | succ k ih =>
      intro w;obtain⟨r,o,q,m⟩:=ih (by omega)
      have a:∀j,j≠k->WJ c.ap (k+1) c.lo j=WJ c.ap k c.lo j:=fun j v=>by show(if j=k then _ else _)=_;rw[if_neg v]
      have b:WJ c.ap (k+1) c.lo k=up1 c.ap (WJ c.ap k c.lo) k:=by show(if k=k then _ else _)=_;rw[if_pos rfl]
      have f:WJ c.ap k c.lo k=c.lo k:=X9c _ _ _ _ (Nat.le_refl _);obtain⟨g1,g2⟩:=X8Y (WJ c.ap k c.lo) k c.ap (if 0<k then(if WJ c.ap k c.lo (k-1)>WJ c.ap k c.lo k then WJ c.ap k c.lo (k-1)else WJ c.ap k c.lo k)else WJ c.ap k c.lo k);have g0:WJ c.ap k c.lo k<=(if 0<k then(if WJ c.ap k c.lo (k-1)>WJ c.ap k c.lo k then WJ c.ap k c.lo (k-1)else WJ c.ap k c.lo k)else WJ c.ap k c.lo k):=by
        split
        · split<;>omega
        · exact Int.le_refl _
      refine⟨fun i hi=>?_,fun i hi=>?_,fun p d hi=>?_,fun x l i hi=>?_⟩
      · by_cases e:i=k
        · subst e;rw[b,<-f];exact Int.le_trans g0 g1
        · rw[a i e];exact r i (by omega)
      · by_cases e:i+1=k
        · subst e
          rw[b,a i (by omega)]
          refine Int.le_trans ?_ g1;rw[if_pos (by omega),Nat.add_sub_cancel]
          split<;>omega
        · rw[a i (by omega),a (i+1) e];exact o i (by omega)
      · have:=g p d
        by_cases e:p.2=k
        · rw[e,b,a p.1 (by omega)];exact g2 p d e
        · rw[a p.1 (by omega),a p.2 e];exact q p d (by omega)
      · by_cases e:i=k
        · subst e
          rw[b];refine X8Z _ _ _ _ _ ?_ fun p d e=>?_
          · have s:=l.1 i (by omega)
            rw[f];split
            · have:=m x l (i-1) (by omega)
              have t:=l.2.1 (i-1) (by omega)
              rw[Nat.sub_add_cancel (by omega)]at t
              split<;>omega
            · exact s
          · have y:=g p d
            have:=m x l p.1 (by omega)
            have u:=l.2.2 p d;rw[e]at u;omega
        · rw[a i e];exact m x l i (by omega)
  obtain⟨r,o,q,m⟩:=main n (Nat.le_refl _);exact⟨⟨r,o,fun p d=>q p d (g p d).2⟩,m⟩
def X7d (H:Nat->Int):List (Nat×Nat)->Nat->Int->Int
  | [],_,a=>a
  | p::ps,i,a=>X7d H ps i (if p.1=i then(if H p.2-1<a then H p.2-1 else a)else a)
def dn1 (n:Nat) (ap:List (Nat×Nat)) (H:Nat->Int) (i:Nat):Int:=X7d H ap i (if i+1<n then(if H (i+1)<H i then H (i+1)else H i)else H i)
def Wx (n:Nat) (ap:List (Nat×Nat)):Nat->(Nat->Int)->Nat->Int
  | 0,H=>H
  | k+1,H=>fun j=>if j=n-1-k then dn1 n ap (Wx n ap k H) (n-1-k)else Wx n ap k H j
theorem X91 (H:Nat->Int) (i:Nat):∀(ap:List (Nat×Nat)) (a:Int),X7d H ap i a<=a/\∀p∈ap,p.1=i->X7d H ap i a<=H p.2-1
  | [],a=>⟨Int.le_refl _,by simp⟩
  | p::ps,a=>by
    unfold X7d;have b:(if p.1=i then(if H p.2-1<a then H p.2-1 else a)else a)<=a/\(p.1=i->(if p.1=i then(if H p.2-1<a then H p.2-1 else a)else a)<=H p.2-1):=by
      by_cases e:p.1=i
      · by_cases e2:H p.2-1<a
        · simp only[e,e2,if_true];exact⟨by omega,fun _=>Int.le_refl _⟩
        · simp only[e,e2,if_true,if_false];exact⟨Int.le_refl _,fun _=>by omega⟩
      · simp only[e,if_false];exact⟨Int.le_refl _,fun h=>h.elim⟩
    generalize (if p.1=i then(if H p.2-1<a then H p.2-1 else a)else a)=a' at b⊢;obtain⟨d,f⟩:=X91 H i ps a';refine⟨Int.le_trans d b.1,fun q c e=>?_⟩;rcases jv.1 c with rfl|c
    · exact Int.le_trans d (b.2 e)
    · exact f q c e
theorem X90 (H:Nat->Int) (i:Nat) (b:Int):∀(ap:List (Nat×Nat)) (a:Int),b<=a->(∀p∈ap,p.1=i->b<=H p.2-1)->b<=X7d H ap i a
  | [],_,h,_=>h
  | p::ps,a,h,hp=>by
    unfold X7d;refine X90 H i b ps _ ?_ fun q c=>hp q (by simp[c])
    have:=hp p (by simp)
    split
    · rename_i e
      have:=this e;split<;>omega
    · exact h
theorem X9K (n:Nat) (ap:List (Nat×Nat)) (H:Nat->Int):∀(k j:Nat),k<=n->j+k<n->Wx n ap k H j=H j
  | 0,_,_,_=>rfl
  | k+1,j,hk,h=>by
    unfold Wx;rw[if_neg (by omega)]
    exact X9K n ap H k j (by omega) (by omega)
theorem X1S {n:Nat} {c:Con} (l:X60 n c.ap):X70 n c (Wx n c.ap n c.hi):=by
  have main:∀k,k<=n->(∀i,i<n->n<=i+k->Wx n c.ap k c.hi i<=c.hi i)/\(∀i,i+1<n->n<=i+k->Wx n c.ap k c.hi i<=Wx n c.ap k c.hi (i+1))/\(∀p∈c.ap,n<=p.1+k->Wx n c.ap k c.hi p.1+1<=Wx n c.ap k c.hi p.2) ∧
      ∀x,DnN n c x->∀i,i<n->n<=i+k->x i<=Wx n c.ap k c.hi i:=by
    intro k
    induction k with
    | zero=>intro _;exact⟨fun i h h'=>by omega,fun i h h'=>by omega,fun p d h=>by have:=l p d;omega,fun x _ i h h'=>by omega⟩
    | succ k ih =>
      intro y;obtain⟨t,r,s,o⟩:=ih (by omega)
      have a:∀j,j≠n-1-k->Wx n c.ap (k+1) c.hi j=Wx n c.ap k c.hi j:=fun j v=>by show(if j=n-1-k then _ else _)=_;rw[if_neg v]
      have b:Wx n c.ap (k+1) c.hi (n-1-k)=dn1 n c.ap (Wx n c.ap k c.hi) (n-1-k):=by show(if n-1-k=n-1-k then _ else _)=_;rw[if_pos rfl]
      have f:Wx n c.ap k c.hi (n-1-k)=c.hi (n-1-k):=X9K _ _ _ _ _ (by omega) (by omega)
      obtain⟨g1,g2⟩:=X91 (Wx n c.ap k c.hi) (n-1-k) c.ap (if n-1-k+1<n then(if Wx n c.ap k c.hi (n-1-k+1)<Wx n c.ap k c.hi (n-1-k)then Wx n c.ap k c.hi (n-1-k+1)else Wx n c.ap k c.hi (n-1-k))else Wx n c.ap k c.hi (n-1-k));have g0:(if n-1-k+1<n then(if Wx n c.ap k c.hi (n-1-k+1)<Wx n c.ap k c.hi (n-1-k)then Wx n c.ap k c.hi (n-1-k+1)else Wx n c.ap k c.hi (n-1-k))else Wx n c.ap k c.hi (n-1-k))<=Wx n c.ap k c.hi (n-1-k):=by
        split
        · split<;>omega
        · exact Int.le_refl _
      refine⟨fun i hi m=>?_,fun i hi m=>?_,fun p d hi=>?_,fun x g i hi m=>?_⟩
      · by_cases e:i=n-1-k
        · rw[e,b,<-f];exact Int.le_trans g1 g0
        · rw[a i e];exact t i hi (by omega)
      · by_cases e:i=n-1-k
        · rw[e,b,a (n-1-k+1) (by omega)]
          refine Int.le_trans g1 ?_;rw[if_pos (by omega)]
          split<;>omega
        · rw[a i e,a (i+1) (by omega)];exact r i hi (by omega)
      · have:=l p d
        by_cases e:p.1=n-1-k
        · have:=g2 p d e
          rw[e,b,a p.2 (by omega)]
          unfold dn1;omega
        · rw[a p.1 e,a p.2 (by omega)];exact s p d (by omega)
      · by_cases e:i=n-1-k
        · rw[e,b]
          refine X90 _ _ _ _ _ ?_ fun p d e'=>?_
          · have q:=g.1 i hi
            rw[e]at q;rw[f];split
            · have:=o x g (n-1-k+1) (by omega) (by omega)
              have w:=g.2.1 (n-1-k) (by omega)
              split<;>omega
            · exact q
          · have z:=l p d
            have:=o x g p.2 (by omega) (by omega)
            have u:=g.2.2 p d;rw[e']at u;omega
        · rw[a i e];exact o x g i hi (by omega)
  obtain⟨t,r,s,o⟩:=main n (Nat.le_refl _);exact⟨⟨fun i hi=>t i hi (by omega),fun i hi=>r i hi (by omega),fun p d=>s p d (by omega)⟩,fun x g i hi=>o x g i hi (by omega)⟩
def X39 (n:Nat) (c:Con):Nat->Int:=WJ c.ap n c.lo
def X38 (n:Nat) (c:Con):Nat->Int:=Wx n c.ap n c.hi
def okN (n:Nat) (c:Con):Bool:=(List.range n).all fun i=>decide (X39 n c i<=X38 n c i)
theorem X4M {n:Nat} {c:Con}:okN n c=true↔∀i,i<n->X39 n c i<=X38 n c i:=by
  unfold okN;rw[List.all_eq_true];exact⟨fun h i hi=>by simpa using h i (List.mem_range.2 hi),fun h i hi=>by simpa using h i (List.mem_range.1 hi)⟩
abbrev Str:=Int×Nat
def WE (n:Nat) (c:Con) (s:Str) (a b:Int):Con where
  hi:=fun i=>if 0<=s.1/\i=s.1.toNat then(if b<c.hi i then b else c.hi i)else c.hi i
  lo:=fun i=>if s.2<n/\i=s.2 then(if a+1>c.lo i then a+1 else c.lo i)else c.lo i
  ap:=if 0<=s.1/\s.2<n then c.ap++[(s.1.toNat,s.2)]else c.ap
def X5x (n:Nat) (s:Str):Prop:=s.1<s.2/\s.2<=n /\ -1<=s.1
theorem X7V {n:Nat} {c:Con} (h:X60 n c.ap) {s:Str} (e:X5x n s) (a b:Int):X60 n (WE n c s a b).ap:=by
  unfold WE;simp only;split
  · rename_i hc
    intro p d;rcases List.mem_append.1 d with d|d
    · exact h p d
    · simp only[List.mem_singleton]at d
      subst d;unfold X5x at e;simp only;omega
  · exact h
def X8E (n:Nat) (x:Nat->Int) (s:Str) (a b:Int):Prop:=(0<=s.1->x s.1.toNat<=b)/\(s.2<n->a+1<=x s.2)/\(0<=s.1->s.2<n->x s.1.toNat+1<=x s.2)
theorem X7J {n:Nat} {c:Con} {s:Str} {a b:Int} {x:Nat->Int}:ApN (WE n c s a b).ap x↔ApN c.ap x/\(0<=s.1->s.2<n->x s.1.toNat+1<=x s.2):=by
  unfold WE ApN;simp only;split
  · rename_i hc
    constructor
    · intro h
      exact⟨fun p d=>h p (List.mem_append.2 (.inl d)),fun _ _=>h (s.1.toNat,s.2) (List.mem_append.2 (.inr (by simp)))⟩
    · rintro⟨f,e⟩ p d
      rcases List.mem_append.1 d with d|d
      · exact f p d
      · simp only[List.mem_singleton]at d
        subst d;exact e hc.1 hc.2
  · rename_i hc
    exact⟨fun h=>⟨h,fun f e=>absurd ⟨f,e⟩ hc⟩,fun h=>h.1⟩
theorem X96 {n:Nat} {c:Con} {s:Str} {a b:Int} {x:Nat->Int}:UpN n (WE n c s a b) x↔UpN n c x/\(s.2<n->a+1<=x s.2)/\(0<=s.1->s.2<n->x s.1.toNat+1<=x s.2):=by
  unfold UpN;rw[X7J];have e:(∀i,i<n->(WE n c s a b).lo i<=x i)↔(∀i,i<n->c.lo i<=x i)/\(s.2<n->a+1<=x s.2):=by
    unfold WE;simp only;constructor
    · intro h
      refine⟨fun i hi=>?_,fun l=>?_⟩
      · have:=h i hi
        split at this
        · split at this<;>omega
        · exact this
      · have:=h s.2 l
        rw[if_pos ⟨l,rfl⟩]at this;split at this<;>omega
    · rintro⟨f,d⟩ i hi
      have:=f i hi;split
      · rename_i hc
        have g:=d hc.1;rw[<-hc.2]at g;split<;>omega
      · exact this
  rw[e];constructor
  · rintro⟨⟨f,d⟩,g,j,k⟩;exact⟨⟨f,g,j⟩,d,k⟩
  · rintro⟨⟨f,g,j⟩,d,k⟩;exact⟨⟨f,d⟩,g,j,k⟩
theorem X95 {n:Nat} {c:Con} {s:Str} (m:X5x n s) {a b:Int} {x:Nat->Int}:DnN n (WE n c s a b) x↔DnN n c x/\(0<=s.1->x s.1.toNat<=b)/\(0<=s.1->s.2<n->x s.1.toNat+1<=x s.2):=by
  unfold DnN;rw[X7J];have e:(∀i,i<n->x i<=(WE n c s a b).hi i)↔(∀i,i<n->x i<=c.hi i)/\(0<=s.1->x s.1.toNat<=b):=by
    unfold WE;unfold X5x at m;simp only;constructor
    · intro h
      refine⟨fun i hi=>?_,fun l=>?_⟩
      · have:=h i hi
        split at this
        · split at this<;>omega
        · exact this
      · have:=h s.1.toNat (by omega)
        rw[if_pos ⟨l,rfl⟩]at this;split at this<;>omega
    · rintro⟨g,d⟩ i hi
      have:=g i hi;split
      · rename_i hc
        have f:=d hc.1;rw[<-hc.2]at f;split<;>omega
      · exact this
  rw[e];constructor
  · rintro⟨⟨g,d⟩,f,j,k⟩;exact⟨⟨g,f,j⟩,d,k⟩
  · rintro⟨⟨g,f,j⟩,d,k⟩;exact⟨⟨g,d⟩,f,j,k⟩
theorem X9q {n:Nat} {c:Con} {s:Str} (i:X5x n s) {a b:Int} {x:Nat->Int}:Sol n (WE n c s a b) x↔Sol n c x/\X8E n x s a b:=by
  unfold Sol X8E;rw[X96,X95 i];constructor
  · rintro⟨⟨g,e,d⟩,f,h,_⟩;exact⟨⟨g,f⟩,h,e,d⟩
  · rintro⟨⟨g,f⟩,h,e,d⟩;exact⟨⟨g,e,d⟩,f,h,d⟩
def EqC (n:Nat) (c c':Con):Prop:=(∀x,UpN n c x↔UpN n c' x)/\∀x,DnN n c x↔DnN n c' x
theorem EqC.saw {n:Nat} {c c':Con} (h:EqC n c c') {s:Str} (d:X5x n s) (a b:Int):EqC n (WE n c s a b) (WE n c' s a b) :=
  ⟨fun x=>by rw[X96,X96,h.1],fun x=>by rw[X95 d,X95 d,h.2]⟩
theorem EqC.lo {n:Nat} {c c':Con} (h:EqC n c c') (a:X60 n c.ap) (b:X60 n c'.ap) (i:Nat) (hi:i<n):X39 n c i=X39 n c' i:=Xaf (X1Y a) (X1Y b) h.1 i hi
theorem EqC.hi {n:Nat} {c c':Con} (h:EqC n c c') (a:X60 n c.ap) (b:X60 n c'.ap) (i:Nat) (hi:i<n):X38 n c i=X38 n c' i:=Xae (X1S a) (X1S b) h.2 i hi
theorem EqC.ok {n:Nat} {c c':Con} (h:EqC n c c') (b:X60 n c.ap) (a:X60 n c'.ap):okN n c=okN n c':=by
  have:okN n c=true↔okN n c'=true:=by
    rw[X4M,X4M];exact⟨fun k i hi=>by rw[<-h.lo b a i hi,<-h.hi b a i hi];exact k i hi,fun k i hi=>by rw[h.lo b a i hi,h.hi b a i hi];exact k i hi⟩
  cases h3:okN n c<;>cases h4:okN n c'<;>simp_all
def X3S (n:Nat) (c:Con):Con:=⟨X39 n c,X38 n c,c.ap⟩
theorem X8J {n:Nat} {c:Con} (h:X60 n c.ap):EqC n c (X3S n c) :=
  ⟨fun x=>⟨fun a=>⟨fun i hi=>(X1Y h).least x a i hi,a.2⟩,fun a=>⟨fun i hi=>Int.le_trans ((X1Y h).up.1 i hi) (a.1 i hi),a.2⟩⟩,
   fun x=>⟨fun a=>⟨fun i hi=>(X1S h).great x a i hi,a.2⟩,fun a=>⟨fun i hi=>Int.le_trans (a.1 i hi) ((X1S h).dn.1 i hi),a.2⟩⟩⟩
structure Wit where
  strs:List Str
  a:Int
  b:Int
def X9e (n:Nat) (w:Wit):Prop:=∀s∈w.strs,X5x n s
def Xm (n:Nat):List Wit->Con->List Con
  | [],c=>if okN n c then [X3S n c]else []
  | w::ws,c=>if okN n c then w.strs.flatMap fun s=>Xm n ws (WE n c s w.a w.b)else []
def X2h (n:Nat):List Wit->Con->List Con
  | [],c=>if okN n c then [X3S n c]else []
  | w::ws,c=>if okN n c then w.strs.flatMap fun s=>X2h n ws (WE n (X3S n c) s w.a w.b)else []
def Xar (n:Nat) (c c':Con):Prop:=(∀i,i<n->c.lo i=c'.lo i)/\∀i,i<n->c.hi i=c'.hi i
def X8Q {α β:Type} (R:α->β->Prop):List α->List β->Prop
  | [],[]=>True
  | a::la,b::lb=>R a b/\X8Q R la lb
  | _,_=>False
theorem X9h {α β:Type} {R:α->β->Prop}:∀{la:List α} {lb:List β} {la':List α} {lb':List β},X8Q R la lb->X8Q R la' lb'->X8Q R (la++la') (lb++lb')
  | [],[],_,_,_,h=>h
  | _::_,_::_,_,_,h,h'=>⟨h.1,X9h h.2 h'⟩
  | [],_::_,_,_,h,_=>h.elim
  | _::_,[],_,_,h,_=>h.elim
theorem X8H {α β γ:Type} {R:β->γ->Prop} {f:α->List β} {g:α->List γ}:∀(l:List α),(∀a∈l,X8Q R (f a) (g a))->X8Q R (l.flatMap f) (l.flatMap g)
  | [],_=>trivial
  | a::l,h=>by
    rw[List.flatMap_cons,List.flatMap_cons];exact X9h (h a (by simp)) (X8H l fun b c=>h b (by simp[c]))
theorem X7E {n:Nat}:∀(ws:List Wit) (c c':Con),(∀w∈ws,X9e n w)->X60 n c.ap->X60 n c'.ap->EqC n c c'->X8Q (Xar n) (Xm n ws c) (X2h n ws c')
  | [],c,c',_,h1,h2,h=>by
    unfold Xm X2h;rw[h.ok h1 h2];split
    · exact⟨⟨fun i hi=>h.lo h1 h2 i hi,fun i hi=>h.hi h1 h2 i hi⟩,trivial⟩
    · exact trivial
  | w::ws,c,c',hw,h1,h2,h=>by
    unfold Xm X2h;rw[h.ok h1 h2];split
    · refine X8H _ fun s a=>X7E ws _ _ (fun v hv=>hw v (by simp[hv])) (X7V h1 (hw w (by simp) s a) _ _) (X7V (c:=X3S n c') h2 (hw w (by simp) s a) _ _) ?_
      have:EqC n c (X3S n c'):=⟨fun x=>(h.1 x).trans ((X8J h2).1 x),fun x=>(h.2 x).trans ((X8J h2).2 x)⟩;exact this.saw (hw w (by simp) s a) _ _
    · exact trivial
def Xa5 (n:Nat) (c:Con) (ws:List Wit) (x:Nat->Int):Prop:=Sol n c x/\∀w∈ws,∃s∈w.strs,X8E n x s w.a w.b
theorem X7b {n:Nat}:∀(ws:List Wit) (c:Con),(∀w∈ws,X9e n w)->X60 n c.ap->∀d∈Xm n ws c,Xa5 n c ws d.lo/\Xa5 n c ws d.hi/\∀i,i<n->d.lo i<=d.hi i
  | [],c,_,h1,d,a=>by
    unfold Xm at a;split at a
    · rename_i g
      simp only[List.mem_singleton]at a;subst a;have b:=X4M.1 g;exact⟨⟨X8M (X1Y h1) (X1S h1) b,by simp⟩,⟨Xa1 (X1Y h1) (X1S h1) b,by simp⟩,b⟩
    · cases a
  | w::ws,c,hw,h1,d,a=>by
    unfold Xm at a;split at a
    · obtain⟨s,f,a⟩:=List.mem_flatMap.1 a
      have e:=hw w (by simp) s f
      obtain⟨⟨k1,k2⟩,⟨k3,k4⟩,k5⟩:=X7b ws _ (fun v hv=>hw v (by simp[hv])) (X7V h1 e _ _) d a
      rw[X9q e]at k1 k3;refine⟨⟨k1.1,fun v hv=>?_⟩,⟨k3.1,fun v hv=>?_⟩,k5⟩
      · rcases jv.1 hv with rfl|hv
        · exact⟨s,f,k1.2⟩
        · exact k2 v hv
      · rcases jv.1 hv with rfl|hv
        · exact⟨s,f,k3.2⟩
        · exact k4 v hv
    · cases a
theorem X7D {n:Nat}:∀(ws:List Wit) (c:Con),(∀w∈ws,X9e n w)->X60 n c.ap->∀x,Xa5 n c ws x->∃d∈Xm n ws c,∀i,i<n->d.lo i<=x i/\x i<=d.hi i
  | [],c,_,h1,x,hx=>by
    have g:okN n c=true:=X4M.2 ((X9P (X1Y h1) (X1S h1)).1 ⟨x,hx.1⟩);unfold Xm;rw[if_pos g];exact⟨X3S n c,List.mem_singleton.2 rfl,fun i hi=>⟨(X1Y h1).least x hx.1.1 i hi,(X1S h1).great x hx.1.2 i hi⟩⟩
  | w::ws,c,hw,h1,x,hx=>by
    have g:okN n c=true:=X4M.2 ((X9P (X1Y h1) (X1S h1)).1 ⟨x,hx.1⟩);unfold Xm;rw[if_pos g];obtain⟨s,j,e⟩:=hx.2 w (by simp)
    have f:=hw w (by simp) s j
    obtain⟨d,k,h⟩:=X7D ws (WE n c s w.a w.b) (fun v hv=>hw v (by simp[hv])) (X7V h1 f _ _) x ⟨(X9q f).2 ⟨hx.1,e⟩,fun v hv=>hx.2 v (by simp[hv])⟩
    exact⟨d,List.mem_flatMap.2 ⟨s,j,k⟩,h⟩
theorem X7F {n:Nat} {ws:List Wit} {c:Con} (b:∀w∈ws,X9e n w) (e:X60 n c.ap):Xm n ws c≠[]↔∃x,Xa5 n c ws x:=by
  constructor
  · intro h
    obtain⟨d,a⟩:=List.exists_mem_of_ne_nil _ h;exact⟨_,(X7b ws c b e d a).1⟩
  · rintro⟨x,f⟩ h
    obtain⟨d,a,_⟩:=X7D ws c b e x f;rw[h]at a;cases a
end Nore
open Go Go.Ab
namespace Nore
def X1F (lo hi:Int) (l:List Int):Bool:=l.any fun n=>decide (n<lo)||decide (n>hi)
theorem X7g (lo hi:Int):X1F lo hi []=false:=rfl
theorem X6E (lo hi n:Int) (l:List Int):X1F lo hi (n::l)=(decide (n<lo)||decide (n>hi)||X1F lo hi l):=rfl
def inN (n lo hi:Int):Bool:=decide (lo<=n)&&decide (n<=hi)
theorem X6j (n lo hi:Int):X55 n lo hi=some (inN n lo hi):=by
  unfold X55 inN
  by_cases h:lo<=n<;>simp[h]
def X6h:Int->List UInt8->Option Int
  | last,[]=>some last
  | last,c::l=>if 97<=(c.toNat:Int)/\(c.toNat:Int)<=122 then X6h c.toNat l else if(c.toNat:Int)≠45\/last=45 then none else X6h c.toNat l
def X5h:Option Int->Bool
  | none=>false
  | some last=>last != 45
def X6Q (s:ByteArray):Bool:=decide (s.size<=14)&&X5h (X6h 45 s.toList)
theorem X9T (s:ByteArray) (i:Nat) (h:(s.get! i).toNat<128):Utf8.decode s i=((s.get! i).toNat,1):=by
  unfold Utf8.decode;simp only[Nat.add_zero];rw[if_pos h]
theorem X9S (s:ByteArray) (i:Nat) (h:¬(s.get! i).toNat<128):128<=(Utf8.decode s i).1:=by
  unfold Utf8.decode;simp only[Nat.add_zero,Utf8.runeError];rw[if_neg h]
  repeat' split
  all_goals simp_all
  all_goals omega
theorem X2C (s:ByteArray):s.toList.length=s.size:=by rw[ByteArray.toList_eq];rfl
theorem X9A (s:ByteArray) (i:Nat) (h:i<s.toList.length):s.get! i=s.toList[i]:=by
  have a:i<s.size:=by rw[<-X2C];exact h
  simp only[ByteArray.toList_eq];show(s.data[i]!)=_;have b:i<s.data.size:=a;rw[getElem!_pos s.data i b];rfl
theorem X8u (s:ByteArray):X5G s=some (X6Q s):=by
  have key:=X1V (X1J s s) (fun o0=>Sum.elim (fun y1:Bool×Nat=>some y1.fst) (fun y2:Int×Nat=>bif decide ((↑(ByteArray.size s):Int)<=14)then some (y2.fst != 45)else some false) o0) s.toList.length (fun i (b:Int)=>(b,i)) (fun _ _=>True) (fun i b=>some (decide (s.size<=14)&&X5h (X6h b (s.toList.drop i))))
    (by
      intro b _ R;have hh:(decide ((↑s.size:Int)<=14))=decide (s.size<=14):=by rw[decide_eq_decide];omega
      have j:s.toList.drop s.size=[]:=jd (by rw[X2C];exact Nat.le_refl _)
      simp only[j,X6h,X5h,X1J,X1N,X2C,hh,Nat.lt_irrefl,decide_false,jA,jS,jy];cases decide (s.size<=14)<;>simp)
    (by
      intro i b hi _ R k;have f:i<s.size:=by rw[<-X2C];exact hi
      have g:=X9A s i hi;simp only[X1J,X1N];rw[jb hi];simp only[X6h]
      by_cases h:(s.get! i).toNat<128
      · rw[X9T s i h]
        have e:=k ((s.get! i).toNat:Int) trivial;rw[g]at *;generalize s.toList[i]=c at *;simp only[f,decide_true,jB]
        by_cases h1:97<=(c.toNat:Int)
        · have q1:decide ((c.toNat:Int)>=97)=true:=decide_eq_true h1
          by_cases h2:(c.toNat:Int)<=122
          · have q2:decide ((c.toNat:Int)<=122)=true:=decide_eq_true h2
            simp only[decide_true,decide_false,q1,q2,jB,jS,jw,h1,h2,and_self,if_true];exact e
          · have q2:decide ((c.toNat:Int)<=122)=false:=decide_eq_false h2
            have a:¬((c.toNat:Int)=45):=by omega
            have q3:((c.toNat:Int) != 45)=true:=bne_iff_ne.2 a;simp only[decide_true,decide_false,q1,q2,q3,jB,jA,jS,jw,jy,h2,and_false,if_false,ne_eq,a,not_false_iff,true_or,if_true,X5h,Bool.and_false]
        · have q1:decide ((c.toNat:Int)>=97)=false:=decide_eq_false h1
          by_cases a:(c.toNat:Int)=45
          · have q3:((c.toNat:Int) != 45)=false:=by rw[a];rfl
            by_cases h4:b=45
            · have q4:(b==45)=true:=by rw[h4];rfl
              rw[q1,q3,q4,if_neg (fun hc=>h1 hc.1),if_pos (Or.inr h4)];simp[X5h]
            · have q4:(b==45)=false:=beq_eq_false_iff_ne.2 h4
              simp only[decide_true,decide_false,q1,q3,q4,jB,jA,jS,jw,jy,h1,false_and,if_false,h4,ne_eq,a,not_true,or_self,if_true];rw[a]at e;exact e
          · have q3:((c.toNat:Int) != 45)=true:=bne_iff_ne.2 a
            simp only[decide_true,decide_false,q1,q3,jB,jA,jS,jw,jy,h1,false_and,if_false,ne_eq,a,not_false_iff,true_or,if_true,X5h,Bool.and_false]
      · have h':=X9S s i h
        rw[g]at h;generalize s.toList[i]=c at *;simp only[f,decide_true,jB];generalize (Utf8.decode s i)=d at *;have e1:((d.1:Nat):Int)>=97:=by omega
        have e2:¬((d.1:Nat):Int)<=122:=by omega
        have e3:¬((d.1:Nat):Int)=45:=by omega
        have e4:¬((c.toNat:Int)<=122):=by omega
        have e5:¬((c.toNat:Int)=45):=by omega
        have q1:decide (((d.1:Nat):Int)>=97)=true:=decide_eq_true e1;have q2:decide (((d.1:Nat):Int)<=122)=false:=decide_eq_false e2;have q3:(((d.1:Nat):Int) != 45)=true:=bne_iff_ne.2 e3;simp only[decide_true,decide_false,q1,q2,q3,jB,jA,jS,jw,jy,e4,and_false,if_false,ne_eq,e5,not_false_iff,true_or,if_true,X5h,Bool.and_false])
  exact(key 0 45 (by omega) trivial).trans (by simp[X6Q])
theorem X8y (s:ByteArray):X54 s=some (X6Q s):=by
  unfold X54;rw[X6j];simp only[jS]
  by_cases hsz:1<=s.size/\s.size<=14
  · have e1:inN (↑s.size) 1 14=true:=by simp[inN];omega
    rw[e1];simp only[Bool.not_true,jA];have o:=X2C s;have key:=X1V (X1L s) (fun o0=>Sum.elim (fun y76:Bool=>some y76) (fun _:Unit=>some true) o0) s.toList.length (fun i (_:Int)=>(i:Int)) (fun i b=>b=if i=0 then 45 else((s.toList.getD (i-1) 0).toNat:Int)) (fun i b=>some (if i<s.toList.length then X5h (X6h b (s.toList.drop i))else true))
      (by
        intro b _ R;simp[X1L,X1U,X2C])
      (by
        intro i b hi j R n;have m:i<s.size:=by rw[<-X2C];exact hi
        simp only[X1L,X1U];rw[jb hi];have a:=n ((s.toList[i]).toNat:Int) (by simp[List.getD,hi])
        have l:=wS i (by omega)
        have f:IntKind.wrap .i64 ((i:Int)-1)=((i:Int)-1):=by rw[w64]<;>omega
        have e:IntKind.wrap .i64 ((s.size:Int)-1)=((s.size:Int)-1):=by rw[w64]<;>omega
        simp only[X6h,kS,X5 _ _ _ hi,l,f,e];have d1:decide ((i:Int)<↑s.size)=true:=by simp[m]
        have d2:=z0S i;simp only[d1,d2,ju,jB,hi,if_true];generalize hc:s.toList[i]=c at *
        by_cases h1:97<=(c.toNat:Int)/\(c.toNat:Int)<=122
        · have q1:decide ((c.toNat:Int)>=97)=true:=decide_eq_true h1.1
          have q2:decide ((c.toNat:Int)<=122)=true:=decide_eq_true h1.2;simp only[decide_true,decide_false,q1,q2,jB,jS,jw,h1,and_self,if_true];have d:¬((c.toNat:Int)=45):=by omega
          rw[a]
          by_cases hi2:i+1<s.toList.length
          · simp[hi2]
          · have:s.toList.drop (i+1)=[]:=jd (by omega)
            simp[hi2,this,X6h,X5h,d]
        · have g:(bif decide ((c.toNat:Int)>=97)then bif decide ((c.toNat:Int)<=122)then true else false else false)=false:=by
            by_cases a1:(c.toNat:Int)>=97
            · by_cases a2:(c.toNat:Int)<=122
              · exact absurd ⟨a1,a2⟩ h1
              · simp[a1,a2]
            · simp[a1]
          have g2:∀(Z:Type) (x y:Z),(bif decide ((c.toNat:Int)>=97)then bif decide ((c.toNat:Int)<=122)then x else y else y)=y:=by
            intro Z x y
            by_cases a1:(c.toNat:Int)>=97
            · by_cases a2:(c.toNat:Int)<=122
              · exact absurd ⟨a1,a2⟩ h1
              · simp[a1,a2]
            · simp[a1]
          rw[g2,if_neg h1]
          by_cases h2:(c.toNat:Int)=45
          · simp only[h2,bne_self_eq_false,jA]
            by_cases h3:i=0
            · subst h3
              simp[j,X5h]
            · by_cases h4:i+1=s.size
              · have:s.toList.drop (i+1)=[]:=jd (by omega)
                have e5:(i:Int)=(s.size:Int)-1:=by omega
                have e6:((s.size:Int)-1==0)=false:=by simp;omega
                simp only[e5,e6,this,X6h]
                by_cases h5:b=45<;>simp[h5,X5h]
              · have e5:((i:Int)==(s.size:Int)-1)=false:=by simp;omega
                have e6:((i:Int)==0)=false:=by simp;omega
                have e7:(0:Int)<=(i:Int)-1:=by omega
                have e8:(i:Int)-1<(s.size:Int):=by omega
                have e9:((i:Int)-1).toNat=i-1:=by omega
                simp only[e5,e6,e7,e8,e9,jA,decide_true,ju,jB];simp only[h3,if_false]at j;rw[<-j]
                by_cases h5:b=45
                · simp[h5,X5h]
                · have q5:(b==45)=false:=beq_eq_false_iff_ne.2 h5
                  rw[h2]at a;rw[q5];simp only[jA,jS,jw,ne_eq,not_true,false_or,h5,if_false];rw[a];simp[show i+1<s.toList.length by omega]
          · have:((c.toNat:Int) != 45)=true:=by simp[h2]
            simp[this,h2,X5h])
    have:=key 0 45 (by omega) (by simp)
    refine this.trans ?_;simp[X6Q,show 0<s.toList.length by omega,hsz.2]
  · have e1:inN (↑s.size) 1 14=false:=by
      simp[inN];omega
    rw[e1];simp only[Bool.not_false,jB,X6Q]
    by_cases h:s.size<=14
    · have k:s.toList=[]:=by
        apply List.eq_nil_of_length_eq_zero;rw[X2C];omega
      simp[k,X6h,X5h]
    · simp[h]
theorem X6D (n lo hi:Int):inN n lo hi = !X1F lo hi [n]:=by
  simp only[inN,X6E,X7g,Bool.or_false,Bool.not_or];congr 1<;>rw[<-decide_not,decide_eq_decide]<;>omega
def X6H (lo hi:Int):Int->List Y2->Int
  | e,[]=>e
  | e,s::l=>if X1F lo hi [s.Lo,s.Hi]then 7 else X6H lo hi (if s.Lo>s.Hi then 2 else e) l
theorem X7P (l:List Y2) (lo hi:Int) (h:l.length<1000000):X4i l lo hi=some (X6H lo hi 0 l):=by
  unfold X4i;exact X1V (WR lo l hi) _ l.length (fun i (b:Int)=>(b,(i:Int))) (fun _ _=>True) (fun i b=>some (X6H lo hi b (l.drop i)))
      (by
        intro b _ R;simp[WR,WY,X6H])
      (by
        intro i b c _ R d;simp only[WR,WY];rw[jb c];have e:=wS i (by omega)
        simp only[kS,X5 _ _ _ c,X6H,e];rw[X6j,X6j,X6D,X6D];have g:decide ((i:Int)<↑l.length)=true:=by simp[c]
        have f:=z0S i;simp only[g,f,ju,jB,jS];have a:X1F lo hi [l[i].Lo,l[i].Hi]=(X1F lo hi [l[i].Lo]||X1F lo hi [l[i].Hi]):=by simp[X1F]
        rw[a];cases h3:X1F lo hi [l[i].Lo]
        · cases h4:X1F lo hi [l[i].Hi]
          · by_cases h5:l[i].Lo>l[i].Hi
            · have:=d 2 trivial
              simp only[h5];simp;simpa using this
            · have:=d b trivial
              simp only[h5];simp;simpa using this
          · simp
        · simp) 0 0 (by omega) trivial
theorem Z9a (a b:ByteArray):(a==b)=(a.data==b.data):=by cases a;cases b;rfl
instance:LawfulBEq ByteArray where
  rfl:=by intro a;rw[Z9a];simp
  eq_of_beq:=by
    intro a b h;rw[Z9a]at h;have:=eq_of_beq h;cases a;cases b;simp only at this;rw[this]
instance:DecidableEq ByteArray:=fun a b=>if h:(a==b)=true then isTrue (eq_of_beq h)else isFalse (fun e=>h (by rw[e];simp))
def X6f (s:ByteArray) (names:List ByteArray):Int:=if X6Q s then(if s∈names then 5 else 0)else 6
theorem X8s {a b:ByteArray} (h:a.toList=b.toList):a=b:=by
  cases a;cases b;simp only[ByteArray.toList_eq]at h;congr 1;exact Array.ext' h
theorem X8d (s:ByteArray) (names:List ByteArray) (j:names.length<1000000):X4A s names=some (X6f s names):=by
  unfold X4A X6f;rw[X8y];simp only[jS];cases X6Q s
  · simp
  · simp only[Bool.not_true,jA,if_true]
    unfold X5k;have key:=X1V (WC s names) (fun o78=>Option.bind (Sum.elim (fun y79:Int=>some y79) (fun _:Unit=>some (-1)) o78) fun r82=>bif decide (r82>=0)then some (5:Int)else some 0) names.length (fun i (_:Unit)=>(i:Int)) (fun _ _=>True) (fun i _=>some (if s∈names.drop i then 5 else 0))
      (by
        intro b _ R;simp[WC,X1q])
      (by
        intro i b hi _ R f;have c:=f () trivial;simp only[WC,X1q];rw[jb hi];have d:=wS i (by omega)
        simp only[kS,X5 _ _ _ hi,d];have g:decide ((i:Int)<↑names.length)=true:=by simp[hi]
        have e:=z0S i;simp only[g,e,ju,jB]
        by_cases h:names[i]=s
        · simp[h]
        · have h':(names[i].toList==s.toList)=false:=by
            simp only[beq_eq_false_iff_ne];intro hh;exact h (X8s hh)
          have a:¬s=names[i]:=fun hh=>h hh.symm;simp only[h',jA,jS,jw,jv,a,false_or];exact c)
    have:=key 0 () (by omega) trivial
    simp only[List.drop_zero]at this;rw[<-this];show Option.bind (Option.bind _ _) _=Option.bind _ _;unfold X3W;simp only[Int.natCast_zero];cases Z8I (WC s names) 0<;>rfl
end Nore
open Go Go.Ab
namespace Nore
def spN (L H:Nat->Int):Nat->Y2:=fun j=>⟨L j,H j⟩
def X3K (f:Nat->Y2) (k:Nat) (s:Y2):Nat->Y2:=fun j=>bif Nat.beq j k then s else f j
theorem X9s (f:Nat->Y2) (k:Nat) (s s':Y2):(fun j=>bif Nat.beq j k then s' else X3K f k s j)=X3K f k s':=by
  funext j;unfold X3K;cases Nat.beq j k<;>rfl
theorem X9r (f:Nat->Y2) (k:Nat) (s:Y2):X3K f k s k=s:=by unfold X3K;simp
theorem X8j (f:Nat->Y2) {k j:Nat} (s:Y2) (h:j≠k):X3K f k s j=f j:=by
  unfold X3K;cases e:Nat.beq j k with
  | false=>rfl
  | true=>exact absurd (je e) h
def X1 (ap:List Zb):List (Nat×Nat):=ap.map fun s=>(s.from_.toNat,s.to_.toNat)
def X9d (ap:List Zb):Prop:=ap.length<=1000/\∀s∈ap,0<=s.from_/\s.from_<s.to_/\s.to_<10
def BdN (L:Nat->Int):Prop:=∀i,-1000000<=L i/\L i<=1000000
theorem X9X (L:Nat->Int) (p:Nat×Nat) (ps:List (Nat×Nat)) (i:Nat) (a:Int):X7c L (p::ps) i a=X7c L ps i (if p.2=i then(if L p.1+1>a then L p.1+1 else a)else a):=rfl
theorem X9Y (H:Nat->Int) (p:Nat×Nat) (ps:List (Nat×Nat)) (i:Nat) (a:Int):X7d H (p::ps) i a=X7d H ps i (if p.1=i then(if H p.2-1<a then H p.2-1 else a)else a):=rfl
theorem X7j (ap:List Zb) (f:X9d ap) (L H:Nat->Int) (hL:BdN L) (k:Nat) (t:k<10) (a:Int) (s : -1000000<=a/\a<=1000001) (x1 x3:Int) (x6:List Zb) (x9:Zc) (x10:Nat->Y2) :
    Wr (ap.length:Int) x1 (k:Int) x3 (k:Int) x6 ap x9 x10 (0,X3K (spN L H) k ⟨a,H k⟩)=some (X3K (spN L H) k ⟨X7c L (X1 ap) k a,H k⟩):=by
  obtain⟨w,o,n⟩:=XA (Xv (ap.length:Int) x1 (k:Int) x3 (k:Int) x6 ap x9 x10) ap.length (fun i (b:Nat->Y2)=>((i:Int),b))
    (fun i b=>∃a',(-1000000<=a'/\a'<=1000001)/\b=X3K (spN L H) k ⟨a',H k⟩/\X7c L (X1 (ap.drop i)) k a'=X7c L (X1 ap) k a) (fun w=>w=X3K (spN L H) k ⟨X7c L (X1 ap) k a,H k⟩)
    (fun b ⟨a',_,e,h⟩=>⟨_,by simp[Xv,X9];rfl,by
      rw[e,<-h,List.drop_length];rfl⟩)
    (fun i b hi ⟨a',m,e,h⟩=>by
      right;have g:ap[i]∈ap:=jl hi;obtain⟨s1,s2,s3⟩:=f.2 _ g;have j:ap.getD i ⟨0,0⟩=ap[i]:=X5 _ _ _ hi;have e1:decide ((i:Int)<(ap.length:Int))=true:=by simp;omega
      have w1:=wS i (by have:=f.1;omega)
      have c:X1 (ap.drop i)=(ap[i].from_.toNat,ap[i].to_.toNat)::X1 (ap.drop (i+1)):=by
        rw[jb hi];rfl
      rw[c,X9X]at h;simp only at h;simp only[Xv,X9,e1,z0S,ju,jB,kS,j,w1]
      by_cases ht:ap[i].to_=(k:Int)
      · have p:ap[i].from_.toNat≠k:=by omega
        have c1:(ap[i].to_==(k:Int))=true:=by simp[ht]
        have c2:decide ((k:Int)<(10:Int))=true:=by simp;omega
        have c3:Nat.blt k 10=true:=by simp[Nat.blt_eq];omega
        have c4:decide (0<=ap[i].from_)=true:=by simp[s1]
        have c5:decide (ap[i].from_<(10:Int))=true:=by simp;omega
        have c6:Nat.blt ap[i].from_.toNat 10=true:=by rw[Nat.blt_eq];omega
        have hv:=hL ap[i].from_.toNat;have r:(b ap[i].from_.toNat).Lo=L ap[i].from_.toNat:=by rw[e,X8j _ _ p];rfl
        have q:b k=⟨a',H k⟩:=by rw[e,X9r]
        have w2:IntKind.wrap .i64 (L ap[i].from_.toNat+1)=L ap[i].from_.toNat+1:=by rw[w64]<;>omega
        simp only[c1,c2,c3,c4,c5,c6,jB,ju,r,q,w2];have d:ap[i].to_.toNat=k:=by omega
        rw[if_pos d]at h;refine⟨_,rfl,(if L ap[i].from_.toNat+1>a' then L ap[i].from_.toNat+1 else a'),by split<;>omega,?_,h⟩
        rw[e,X9s]
        by_cases hc:L ap[i].from_.toNat+1>a'<;>simp[hc]
      · have c1:(ap[i].to_==(k:Int))=false:=X3a ht
        simp only[c1,jA];have d:¬ap[i].to_.toNat=k:=by omega
        rw[if_neg d]at h;exact⟨_,rfl,a',m,e,h⟩) 0 _ (Nat.zero_le _) ⟨a,s,rfl,rfl⟩
  have l:Wr (ap.length:Int) x1 (k:Int) x3 (k:Int) x6 ap x9 x10 (0,X3K (spN L H) k ⟨a,H k⟩)=some w:=o;rw[l,n]
theorem X98 (ap:List Zb) (b:X9d ap) (L H:Nat->Int) (hL:BdN L) (k:Nat) (c:k<10) (a:Int) (d : -1000000<=a/\a<=1000001) (x1 x3:Int) (x6:List Zb) (x9:Zc) (x10:Nat->Y2) :
    X1A (ap.length:Int) x1 (k:Int) x3 (k:Int) x6 ap x9 x10 (0,X3K (spN L H) k ⟨a,H k⟩)=some (X3K (spN L H) k ⟨X7c L (X1 ap) k a,H k⟩) :=
  X7j ap b L H hL k c a d x1 x3 x6 x9 x10
theorem X7k (ap:List Zb) (f:X9d ap) (L H:Nat->Int) (r:BdN H) (k:Nat) (u:k<10) (a:Int) (t : -1000001<=a/\a<=1000000) (x2:Int) (x5:List Zb) (x7:Zc) (x8:Nat->Y2) :
    Wt ap x2 (ap.length:Int) (k:Int) x5 x7 x8 (0,X3K (spN L H) k ⟨L k,a⟩)=some (X3K (spN L H) k ⟨L k,X7d H (X1 ap) k a⟩):=by
  obtain⟨w,o,n⟩:=XA (Xx ap x2 (ap.length:Int) (k:Int) x5 x7 x8) ap.length (fun i (b:Nat->Y2)=>((i:Int),b))
    (fun i b=>∃a',(-1000001<=a'/\a'<=1000000)/\b=X3K (spN L H) k ⟨L k,a'⟩/\X7d H (X1 (ap.drop i)) k a'=X7d H (X1 ap) k a) (fun w=>w=X3K (spN L H) k ⟨L k,X7d H (X1 ap) k a⟩)
    (fun b ⟨a',_,e,h⟩=>⟨_,by simp[Xx,Xa];rfl,by
      rw[e,<-h,List.drop_length];rfl⟩)
    (fun i b hi ⟨a',m,e,h⟩=>by
      right;have g:ap[i]∈ap:=jl hi;obtain⟨s1,s2,s3⟩:=f.2 _ g;have j:ap.getD i ⟨0,0⟩=ap[i]:=X5 _ _ _ hi;have e1:decide ((i:Int)<(ap.length:Int))=true:=by simp;omega
      have w1:=wS i (by have:=f.1;omega)
      have c:X1 (ap.drop i)=(ap[i].from_.toNat,ap[i].to_.toNat)::X1 (ap.drop (i+1)):=by
        rw[jb hi];rfl
      rw[c,X9Y]at h;simp only at h;simp only[Xx,Xa,e1,z0S,ju,jB,kS,j,w1]
      by_cases ht:ap[i].from_=(k:Int)
      · have p:ap[i].to_.toNat≠k:=by omega
        have c1:(ap[i].from_==(k:Int))=true:=by simp[ht]
        have c2:decide ((k:Int)<(10:Int))=true:=by simp;omega
        have c3:Nat.blt k 10=true:=by simp[Nat.blt_eq];omega
        have c4:decide (0<=ap[i].to_)=true:=by simp;omega
        have c5:decide (ap[i].to_<(10:Int))=true:=by simp;omega
        have c6:Nat.blt ap[i].to_.toNat 10=true:=by rw[Nat.blt_eq];omega
        have hv:=r ap[i].to_.toNat;have s:(b ap[i].to_.toNat).Hi=H ap[i].to_.toNat:=by rw[e,X8j _ _ p];rfl
        have q:b k=⟨L k,a'⟩:=by rw[e,X9r]
        have w2:IntKind.wrap .i64 (H ap[i].to_.toNat-1)=H ap[i].to_.toNat-1:=by rw[w64]<;>omega
        simp only[c1,c2,c3,c4,c5,c6,jB,ju,s,q,w2];have d:ap[i].from_.toNat=k:=by omega
        rw[if_pos d]at h;refine⟨_,rfl,(if H ap[i].to_.toNat-1<a' then H ap[i].to_.toNat-1 else a'),by split<;>omega,?_,h⟩
        rw[e,X9s]
        by_cases hc:H ap[i].to_.toNat-1<a'<;>simp[hc]
      · have c1:(ap[i].from_==(k:Int))=false:=X3a ht
        simp only[c1,jA];have d:¬ap[i].from_.toNat=k:=by omega
        rw[if_neg d]at h;exact⟨_,rfl,a',m,e,h⟩) 0 _ (Nat.zero_le _) ⟨a,t,rfl,rfl⟩
  have l:Wt ap x2 (ap.length:Int) (k:Int) x5 x7 x8 (0,X3K (spN L H) k ⟨L k,a⟩)=some w:=o;rw[l,n]
theorem X9a (ap:List Zb) (b:X9d ap) (L H:Nat->Int) (e:BdN H) (k:Nat) (c:k<10) (a:Int) (d : -1000001<=a/\a<=1000000) (x2:Int) (x5:List Zb) (x7:Zc) (x8:Nat->Y2) :
    X1B ap x2 (ap.length:Int) (k:Int) x5 x7 x8 (0,X3K (spN L H) k ⟨L k,a⟩)=some (X3K (spN L H) k ⟨L k,X7d H (X1 ap) k a⟩) :=
  X7k ap b L H e k c a d x2 x5 x7 x8
end Nore
open Go Go.Ab
namespace Nore
theorem X9b (ap:List (Nat×Nat)) (L:Nat->Int) (a b:Int) (hL:∀i,a<=L i/\L i<=b):∀(k j:Nat),a<=WJ ap k L j/\WJ ap k L j<=b+k
  | 0,j=>by
    have:=hL j;show a<=L j/\L j<=b+((0:Nat):Int);omega
  | k+1,j=>by
    have ih:=X9b ap L a b hL k;unfold WJ;split
    · unfold up1
      obtain⟨g,_⟩:=X8Y (WJ ap k L) k ap (if 0<k then(if WJ ap k L (k-1)>WJ ap k L k then WJ ap k L (k-1)else WJ ap k L k)else WJ ap k L k);have i1:=ih k;have i2:=ih (k-1);refine⟨Int.le_trans ?_ g,X8Z _ _ _ _ _ ?_ fun p _ _=>?_⟩
      · split
        · split<;>omega
        · omega
      · split
        · split<;>omega
        · omega
      · have:=ih p.1
        omega
    · have:=ih j
      omega
theorem X8U (n:Nat) (ap:List (Nat×Nat)) (H:Nat->Int) (a b:Int) (c:∀i,a<=H i/\H i<=b):∀(k j:Nat),a-k<=Wx n ap k H j/\Wx n ap k H j<=b
  | 0,j=>by
    have:=c j;show a-((0:Nat):Int)<=H j/\H j<=b;omega
  | k+1,j=>by
    have ih:=X8U n ap H a b c k;unfold Wx;split
    · unfold dn1
      obtain⟨g,_⟩:=X91 (Wx n ap k H) (n-1-k) ap (if n-1-k+1<n then(if Wx n ap k H (n-1-k+1)<Wx n ap k H (n-1-k)then Wx n ap k H (n-1-k+1)else Wx n ap k H (n-1-k))else Wx n ap k H (n-1-k));have i1:=ih (n-1-k);have i2:=ih (n-1-k+1);refine⟨X90 _ _ _ _ _ ?_ fun p _ _=>?_,Int.le_trans g ?_⟩
      · split
        · split<;>omega
        · omega
      · have:=ih p.2
        omega
      · split
        · split<;>omega
        · omega
    · have:=ih j
      omega
theorem X8L (f:Nat->Y2) (k:Nat):X3K f k (f k)=f:=by
  funext j;unfold X3K;cases e:Nat.beq j k with
  | false=>rfl
  | true=>rw[je e];rfl
theorem X9O (ap:List (Nat×Nat)) (L H:Nat->Int) (i:Nat):X3K (spN (WJ ap i L) H) i ⟨up1 ap (WJ ap i L) i,H i⟩=spN (WJ ap (i+1) L) H:=by
  funext j;unfold X3K spN;cases e:Nat.beq j i with
  | false =>
    have:j≠i:=fun h=>by subst h;simp at e
    show(⟨WJ ap i L j,H j⟩:Y2)=⟨if j=i then _ else _,H j⟩;rw[if_neg this]
  | true =>
    have:=je e;subst this;show(⟨_,_⟩:Y2)=⟨if j=j then _ else _,H j⟩;rw[if_pos rfl]
theorem Xaq (n:Nat) (ap:List (Nat×Nat)) (L H:Nat->Int) (i:Nat):X3K (spN L (Wx n ap i H)) (n-1-i) ⟨L (n-1-i),dn1 n ap (Wx n ap i H) (n-1-i)⟩=spN L (Wx n ap (i+1) H):=by
  funext j;unfold X3K spN;cases e:Nat.beq j (n-1-i)with
  | false =>
    have:j≠n-1-i:=fun h=>by subst h;simp at e
    show(⟨L j,Wx n ap i H j⟩:Y2)=⟨L j,if j=n-1-i then _ else _⟩;rw[if_neg this]
  | true =>
    have:=je e;subst this;show(⟨_,_⟩:Y2)=⟨L (n-1-i),if n-1-i=n-1-i then _ else _⟩;rw[if_pos rfl]
theorem X97 (ap:List Zb) (c:X9d ap) (L H:Nat->Int) (hL:∀i,-900000<=L i/\L i<=900000) (n:Nat) (p:n<=10) (x1:Int) (x5:Zc) (x6:Nat->Y2) :
    Wq (n:Int) x1 ap x5 x6 (0,spN L H)=some (spN (WJ (X1 ap) n L) H):=by
  obtain⟨w,m,k⟩:=XA (Xu (n:Int) x1 ap x5 x6) n (fun i (b:Nat->Y2)=>((i:Int),b))
    (fun i b=>b=spN (WJ (X1 ap) i L) H) (fun w=>w=spN (WJ (X1 ap) n L) H)
    (fun b d=>⟨b,by simp[Xu,XK],d⟩)
    (fun i b hi d=>by
      right;have e1:decide ((i:Int)<(n:Int))=true:=by simp;omega
      have w1:=wS i (by omega)
      have f:=X9b (X1 ap) L _ _ hL i;have h:BdN (WJ (X1 ap) i L):=fun j=>by have:=f j;omega
      have o:=f i;simp only[Xu,XK,e1,jB,w1,kS]
      by_cases h0:0<i
      · have l:=f (i-1)
        have c1:decide ((i:Int)>0)=true:=by simp;omega
        have c2:decide ((i:Int)<(10:Int))=true:=by simp;omega
        have c3:Nat.blt i 10=true:=by rw[Nat.blt_eq];omega
        have w2:IntKind.wrap .i64 ((i:Int)-1)=((i-1:Nat):Int):=by rw[w64]<;>omega
        have c4:decide (((i-1:Nat):Int)<(10:Int))=true:=by simp;omega
        have c5:Nat.blt (i-1) 10=true:=by rw[Nat.blt_eq];omega
        simp only[c1,c2,c3,w2,c4,c5,z0S,kS,ju,jB];have a:(fun j=>bif Nat.beq j i then(⟨bif decide ((b (i-1)).Lo>(b i).Lo)then(b (i-1)).Lo else(b i).Lo,(b i).Hi⟩:Y2)else b j)=X3K (spN (WJ (X1 ap) i L) H) i ⟨if WJ (X1 ap) i L (i-1)>WJ (X1 ap) i L i then WJ (X1 ap) i L (i-1)else WJ (X1 ap) i L i,H i⟩:=by
          rw[d];funext j;unfold X3K spN
          by_cases hc:WJ (X1 ap) i L (i-1)>WJ (X1 ap) i L i<;>simp[hc]
        rw[a,X7j ap c _ H h i (by omega) _ (by split<;>omega)]
        refine⟨_,rfl,?_⟩;rw[<-X9O];unfold up1;rw[if_pos h0]
      · have g:i=0:=by omega
        subst g;have c1:decide (((0:Nat):Int)>0)=false:=rfl;simp only[c1,jA];have a:b=X3K (spN (WJ (X1 ap) 0 L) H) 0 ⟨WJ (X1 ap) 0 L 0,H 0⟩:=by
          rw[d];exact(X8L (spN (WJ (X1 ap) 0 L) H) 0).symm
        rw[a,X98 ap c _ H h 0 (by omega) _ (by omega)]
        refine⟨_,rfl,?_⟩;rw[<-X9O];rfl) 0 _ (Nat.zero_le _) rfl
  have e:Wq (n:Int) x1 ap x5 x6 (0,spN L H)=some w:=m;rw[e,k]
theorem X99 (ap:List Zb) (d:X9d ap) (L H:Nat->Int) (r:∀i,-900000<=H i/\H i<=900000) (n:Nat) (t:n<=10) (x4:Zc) (x5:Nat->Y2) :
    Ws (n:Int) ap x4 x5 ((n:Int)-1,spN L H)=some (spN L (Wx n (X1 ap) n H)):=by
  obtain⟨w,l,o⟩:=XA (Xw (n:Int) ap x4 x5) n (fun i (b:Nat->Y2)=>((n:Int)-1-i,b))
    (fun i b=>b=spN L (Wx n (X1 ap) i H)) (fun w=>w=spN L (Wx n (X1 ap) n H))
    (fun b e=>⟨b,by
      have e1:decide ((n:Int)-1-(n:Int)>=0)=false:=by simp;omega
      simp only[Xw,XM,e1,jA],e⟩)
    (fun i b hi e=>by
      right;obtain⟨k,q⟩:∃k:Nat,k=n-1-i:=⟨_,rfl⟩;have f:(n:Int)-1-i=(k:Int):=by omega
      have e1:decide ((k:Int)>=0)=true:=by simp
      have w1:=wS k (by omega)
      have w3:IntKind.wrap .i64 ((k:Int)-1)=(n:Int)-1-((i+1:Nat):Int):=by rw[w64]<;>omega
      have g:=X8U n (X1 ap) H _ _ r i;have m:BdN (Wx n (X1 ap) i H):=fun j=>by have:=g j;omega
      have p:=g k;have a:=Xaq n (X1 ap) L H i;rw[<-q]at a;unfold dn1 at a;simp only[f,Xw,XM,e1,jB,w1,kS,w3]
      by_cases h0:k+1<n
      · have s:=g (k+1)
        have c1:decide (((k+1:Nat):Int)<(n:Int))=true:=by simp;omega
        have c2:decide ((k:Int)<(10:Int))=true:=by simp;omega
        have c3:Nat.blt k 10=true:=by rw[Nat.blt_eq];omega
        have c4:decide (((k+1:Nat):Int)<(10:Int))=true:=by simp;omega
        have c5:Nat.blt (k+1) 10=true:=by rw[Nat.blt_eq];omega
        simp only[c1,c2,c3,c4,c5,z0S,kS,ju,jB];have c:(fun j=>bif Nat.beq j k then(⟨(b k).Lo,bif decide ((b (k+1)).Hi<(b k).Hi)then(b (k+1)).Hi else(b k).Hi⟩:Y2)else b j)=X3K (spN L (Wx n (X1 ap) i H)) k ⟨L k,if Wx n (X1 ap) i H (k+1)<Wx n (X1 ap) i H k then Wx n (X1 ap) i H (k+1)else Wx n (X1 ap) i H k⟩:=by
          rw[e];funext j;unfold X3K spN
          by_cases hc:Wx n (X1 ap) i H (k+1)<Wx n (X1 ap) i H k<;>simp[hc]
        rw[c,X7k ap d L _ m k (by omega) _ (by split<;>omega)]
        refine⟨_,rfl,?_⟩;rw[if_pos h0]at a;exact a
      · have c1:decide (((k+1:Nat):Int)<(n:Int))=false:=by simp;omega
        simp only[c1,jA];have c:b=X3K (spN L (Wx n (X1 ap) i H)) k ⟨L k,Wx n (X1 ap) i H k⟩:=by
          rw[e];exact(X8L (spN L (Wx n (X1 ap) i H)) k).symm
        rw[c,X9a ap d L _ m k (by omega) _ (by omega)]
        refine⟨_,rfl,?_⟩;rw[if_neg h0]at a;exact a) 0 _ (Nat.zero_le _) rfl
  have e0:(n:Int)-1-((0:Nat):Int)=(n:Int)-1:=by omega
  rw[e0]at l;have h:Ws (n:Int) ap x4 x5 ((n:Int)-1,spN L H)=some w:=l;rw[h,o]
def X8v (L H:Nat->Int) (ap:List Zb):Con:=⟨L,H,X1 ap⟩
theorem X9I (q:Zc) (L H:Nat->Int) (ap:List Zb) (g:X9d ap) (hL:∀i,-900000<=L i/\L i<=900000) (s:∀i,-900000<=H i/\H i<=900000) (m:q.CoRecord.Entries.length<=10) :
    Wm q (spN L H) ap=some (spN (X39 q.CoRecord.Entries.length (X8v L H ap)) (X38 q.CoRecord.Entries.length (X8v L H ap)),okN q.CoRecord.Entries.length (X8v L H ap)):=by
  rw[X45];unfold Wc;generalize q.CoRecord.Entries.length=n at m;have w1:IntKind.wrap .i64 ((n:Int)-1)=(n:Int)-1:=by rw[w64]<;>omega
  rw[X97 ap g L H hL n m];simp only[jS,w1];rw[X99 ap g _ H s n m];have c1:decide ((n:Int)<=(10:Int))=true:=by simp;omega
  simp only[jS,z0S,c1,ju,jB,kS,List.drop_zero];have c:(List.map (spN (WJ (X1 ap) n L) (Wx n (X1 ap) n H)) (List.range 10)).take n=(List.range n).map (spN (X39 n (X8v L H ap)) (X38 n (X8v L H ap))):=by
    rw[<-List.map_take,List.take_range,Nat.min_eq_left m];rfl
  rw[c];generalize hA:X39 n (X8v L H ap)=A;generalize hB:X38 n (X8v L H ap)=B;have a:((List.range n).map (spN A B)).length=n:=by simp
  obtain⟨w,u,r⟩:=XA (Xy (n:Int) ((List.range n).map (spN A B))) n (fun i (_:Unit)=>(i:Int)) (fun i _=>∀j,j<i->A j<=B j)
    (fun w=>(∃j:Nat,w=.inl (j:Int)/\¬∀i,i<n->A i<=B i)\/(w=.inr ()/\∀i,i<n->A i<=B i))
    (fun _ h=>⟨.inr (),by simp[Xy,XN],.inr ⟨rfl,h⟩⟩)
    (fun i _ hi h=>by
      have e1:decide ((i:Int)<(n:Int))=true:=by simp;omega
      have l:((List.range n).map (spN A B)).getD i ⟨0,0⟩=⟨A i,B i⟩:=by
        rw[X5 _ _ _ (by rw[a];exact hi)]
        simp[spN]
      have w1:=wS i (by omega)
      simp only[Xy,XN,e1,a,z0S,ju,jB,kS,l,w1];rw[X3z];unfold W5;simp only[jS]
      by_cases hc:A i>B i
      · left
        exact⟨.inl (i:Int),by simp[hc],.inl ⟨i,rfl,fun k=>by have:=k i hi;omega⟩⟩
      · right
        refine⟨(),by simp[hc],fun j t=>?_⟩
        by_cases e:j=i
        · subst e;omega
        · exact h j (by omega)) 0 () (Nat.zero_le _) (fun j t=>by omega)
  have p:X1C (n:Int) ((List.range n).map (spN A B)) 0=some w:=u;have d:WJ (X1 ap) n L=A:=hA;have b:Wx n (X1 ap) n H=B:=hB;rw[a,p,d,b];rcases r with⟨k,rfl,o⟩|⟨rfl,f⟩
  · have:okN n (X8v L H ap)=false:=by
      rw[Bool.eq_false_iff];intro h;rw[X4M,hA,hB]at h;exact o h
    rw[this];simp
  · have:okN n (X8v L H ap)=true:=by
      rw[X4M,hA,hB];exact f
    rw[this];simp
end Nore
open Go Go.Ab
namespace Nore
def gtN (l:List Int) (i:Nat):Int:=l.getD i 0
theorem X6C (l:List Int) (i:Nat) (v:Int) (j:Nat) (hi:i<l.length):gtN (l.set i v) j=if j=i then v else gtN l j:=by
  unfold gtN;simp only[List.getD_eq_getElem?_getD,List.getElem?_set]
  by_cases e:i=j
  · subst e;simp[hi]
  · simp[e,Ne.symm e]
theorem X7m:∀(l:List Int) (i:Nat) (v:Int),i<l.length->(l.set i v).sum=l.sum-gtN l i+v
  | a::l,0,v,_=>by simp[gtN];omega
  | a::l,i+1,v,h=>by
    have:=X7m l i v (by simpa using h)
    have e:gtN (a::l) (i+1)=gtN l i:=by simp[gtN]
    rw[e];simp only[List.set_cons_succ,List.sum_cons];omega
structure X4f (n:Nat) (c:Con) (A B:Nat->Int) (lo hi:List Int):Prop where
  l1:lo.length=n
  l2:hi.length=n
  bd:∀i,i<n->c.lo i<=gtN lo i/\gtN lo i<=A i/\B i<=gtN hi i/\gtN hi i<=c.hi i
theorem X4f.setLo {n:Nat} {c:Con} {A B:Nat->Int} {lo hi:List Int} (h:X4f n c A B lo hi) {i:Nat} (a:i<n) {v:Int} (f:gtN lo i<=v) (d:v<=A i):X4f n c A B (lo.set i v) hi:=by
  refine⟨by simp[h.l1],h.l2,fun j b=>?_⟩
  rw[X6C _ _ _ _ (by rw[h.l1];exact a)]
  have:=h.bd j b;split
  · rename_i e;subst e;omega
  · exact this
theorem X4f.setHi {n:Nat} {c:Con} {A B:Nat->Int} {lo hi:List Int} (h:X4f n c A B lo hi) {i:Nat} (a:i<n) {v:Int} (f:v<=gtN hi i) (d:B i<=v):X4f n c A B lo (hi.set i v):=by
  refine⟨h.l1,by simp[h.l2],fun j b=>?_⟩
  rw[X6C _ _ _ _ (by rw[h.l2];exact a)]
  have:=h.bd j b;split
  · rename_i e;subst e;omega
  · exact this
theorem X92 {n:Nat} {c:Con} {A B:Nat->Int} (r:X7B n A) (u:X7B n B) (y:n<=1000000) {lo hi:List Int} (h:X4f n c A B lo hi) :
    ∃(ag:Bool) (lo' a:List Int),X3G (0,false,lo,hi)=some (ag,lo',a)/\X4f n c A B lo' a/\(ag=true->a.sum-lo'.sum<hi.sum-lo.sum) ∧
      (ag=false->lo'=lo/\a=hi/\∀i,i<n-1->gtN lo i<=gtN lo (i+1)/\gtN hi i<=gtN hi (i+1)):=by
  obtain⟨w,p,o⟩:=XA WT (n-1) (fun i (b:Bool×List Int×List Int)=>((i:Int),b))
    (fun i b=>X4f n c A B b.2.1 b.2.2/\(b.1=true->b.2.2.sum-b.2.1.sum<hi.sum-lo.sum)/\(b.1=false->b.2.1=lo/\b.2.2=hi/\∀j,j<i->gtN lo j<=gtN lo (j+1)/\gtN hi j<=gtN hi (j+1)))
    (fun w=>X4f n c A B w.2.1 w.2.2/\(w.1=true->w.2.2.sum-w.2.1.sum<hi.sum-lo.sum)/\(w.1=false->w.2.1=lo/\w.2.2=hi/\∀j,j<n-1->gtN lo j<=gtN lo (j+1)/\gtN hi j<=gtN hi (j+1)))
    (fun b d=>⟨b,by
      obtain⟨ag,l,m⟩:=b;have f:=d.1.l1;simp only at f;have w1:=wS (n-1) (by omega)
      have e1:decide (((n-1+1:Nat):Int)<(n:Int))=false:=by simp;omega
      simp only[WT,X11,w1,f,e1,jA],d⟩)
    (fun i b a d=>by
      right;obtain⟨ag,l,m⟩:=b;obtain⟨k,s1,s2⟩:=d;simp only at k s1 s2;have f:=k.l1;have s:=k.l2;have w1:=wS i (by omega)
      have e1:decide (((i+1:Nat):Int)<(n:Int))=true:=by simp;omega
      have e2:decide ((i:Int)<(n:Int))=true:=by simp;omega
      have e3:Nat.blt (i+1) n=true:=by rw[Nat.blt_eq];omega
      have e4:Nat.blt i n=true:=by rw[Nat.blt_eq];omega
      have b1:=k.bd i (by omega)
      have b2:=k.bd (i+1) (by omega)
      have m1:=r i (by omega)
      have m2:=u i (by omega)
      have g:∀(x:List Int) (j:Nat),x.getD j 0=gtN x j:=fun _ _=>rfl;simp only[WT,X11,w1,f,s,e1,e2,e3,e4,z0S,kS,ju,jB,g];have kl:gtN l (i+1)<gtN l i->X4f n c A B (l.set (i+1) (gtN l i)) m:=fun hc=>k.setLo (by omega) (by omega) (by omega)
      have sl:=X7m l (i+1) (gtN l i) (by omega)
      have sm:=X7m m i (gtN m (i+1)) (by omega)
      have v:m.sum-l.sum<=hi.sum-lo.sum:=by
        cases ag with
        | true=>have:=s1 rfl;omega
        | false=>obtain⟨q1,q2,_⟩:=s2 rfl;rw[q1,q2];omega
      by_cases d1:gtN l (i+1)<gtN l i
      · have c1:decide (gtN l (i+1)<gtN l i)=true:=by simp[d1]
        by_cases d2:gtN m i>gtN m (i+1)
        · have c2:decide (gtN m i>gtN m (i+1))=true:=by simp[d2]
          simp only[c1,c2,jB];exact⟨(true,_,_),rfl,(kl d1).setHi (by omega) (by omega) (by omega),fun _=>by simp only;omega,fun q=>by cases q⟩
        · have c2:decide (gtN m i>gtN m (i+1))=false:=by simp at d2;simp[d2]
          simp only[c1,c2,jB,jA];exact⟨(true,_,_),rfl,kl d1,fun _=>by simp only;omega,fun q=>by cases q⟩
      · have c1:decide (gtN l (i+1)<gtN l i)=false:=by simp at d1;simp[d1]
        by_cases d2:gtN m i>gtN m (i+1)
        · have c2:decide (gtN m i>gtN m (i+1))=true:=by simp[d2]
          simp only[c1,c2,jB,jA];exact⟨(true,_,_),rfl,k.setHi (by omega) (by omega) (by omega),fun _=>by simp only;omega,fun q=>by cases q⟩
        · have c2:decide (gtN m i>gtN m (i+1))=false:=by simp at d2;simp[d2]
          simp only[c1,c2,jB,jA];refine⟨(ag,l,m),rfl,k,s1,fun q=>?_⟩;obtain⟨q1,q2,q3⟩:=s2 q;refine⟨q1,q2,fun j t=>?_⟩
          by_cases e:j=i
          · subst e;rw[<-q1,<-q2];omega
          · exact q3 j (by omega)) 0 (false,lo,hi) (Nat.zero_le _) ⟨h,(fun q=>by cases q),fun _=>⟨rfl,rfl,fun j t=>by omega⟩⟩
  obtain⟨ag,lo',a⟩:=w;exact⟨ag,lo',a,p,o⟩
end Nore
open Go Go.Ab
namespace Nore
def X4t (ap:List Z6):List (Nat×Nat):=ap.map fun s=>(s.from_.toNat,s.to_.toNat)
def OkR (n:Nat) (ap:List Z6):Prop:=ap.length<=1000000/\∀s∈ap,0<=s.from_/\s.from_<s.to_/\s.to_<n
theorem X93 {n:Nat} {c:Con} {A B:Nat->Int} (ap:List Z6) (o:OkR n ap) (hA:ApN (X4t ap) A) (hB:ApN (X4t ap) B)
    (u:∀i,i<n -> -2000000<=c.lo i/\A i<=2000000 /\ -2000000<=B i/\c.hi i<=2000000) (ag0:Bool) {lo hi:List Int} (h:X4f n c A B lo hi) :
    ∃(ag:Bool) (lo' d:List Int),X3H ap (ag0,0,hi,lo)=some (ag,d,lo')/\X4f n c A B lo' d ∧
      ((ag=ag0/\lo'=lo/\d=hi/\∀s∈ap,gtN lo s.from_.toNat+1<=gtN lo s.to_.toNat/\gtN hi s.from_.toNat+1<=gtN hi s.to_.toNat)\/(ag=true/\d.sum-lo'.sum<hi.sum-lo.sum)):=by
  obtain⟨w,h1,y⟩:=XA (WU ap) ap.length (fun i (b:Bool×List Int×List Int)=>(b.1,(i:Int),b.2.1,b.2.2))
    (fun i b=>X4f n c A B b.2.2 b.2.1/\((b.1=ag0/\b.2.2=lo/\b.2.1=hi/\∀s∈ap.take i,gtN lo s.from_.toNat+1<=gtN lo s.to_.toNat/\gtN hi s.from_.toNat+1<=gtN hi s.to_.toNat)\/(b.1=true/\b.2.1.sum-b.2.2.sum<hi.sum-lo.sum)))
    (fun w=>X4f n c A B w.2.2 w.2.1/\((w.1=ag0/\w.2.2=lo/\w.2.1=hi/\∀s∈ap,gtN lo s.from_.toNat+1<=gtN lo s.to_.toNat/\gtN hi s.from_.toNat+1<=gtN hi s.to_.toNat)\/(w.1=true/\w.2.1.sum-w.2.2.sum<hi.sum-lo.sum)))
    (fun b v=>⟨b,by simp[WU,X12],by rw[List.take_length]at v;exact v⟩)
    (fun i b d v=>by
      right;obtain⟨ag,m,l⟩:=b;obtain⟨k,s⟩:=v;simp only at k s;have hl:=k.l1;have hm:=k.l2;have w1:=wS i (by have:=o.1;omega)
      have e:ap[i]∈ap:=jl d;obtain⟨f1,f2,f3⟩:=o.2 _ e;have r:ap.getD i ⟨0,0⟩=ap[i]:=X5 _ _ _ d;have pm:(ap[i].from_.toNat,ap[i].to_.toNat)∈X4t ap:=List.mem_map.2 ⟨_,e,rfl⟩;have m1:=hA _ pm;have m2:=hB _ pm;have p:∀t∈ap.take (i+1),t∈ap.take i\/t=ap[i]:=fun t ht=>by
        rw[List.take_succ_eq_append_getElem d]at ht;rcases List.mem_append.1 ht with q|q
        · exact .inl q
        · exact .inr (List.mem_singleton.1 q)
      generalize ap[i]=z at *;obtain⟨fr,to_⟩:=z;simp only at f1 f2 f3 m1 m2;obtain⟨a,rfl⟩:=Int.eq_ofNat_of_zero_le f1;obtain⟨b,rfl⟩:=Int.eq_ofNat_of_zero_le (show 0<=to_ by omega)
      simp only[kS]at m1 m2;have a0:a<b:=by omega
      have f:b<n:=by omega
      have e1:decide ((i:Int)<(ap.length:Int))=true:=by simp;omega
      have e2:decide ((a:Int)<(n:Int))=true:=by simp;omega
      have e3:decide ((b:Int)<(n:Int))=true:=by simp;omega
      have e4:Nat.blt a n=true:=by rw[Nat.blt_eq];omega
      have e5:Nat.blt b n=true:=by rw[Nat.blt_eq];omega
      have b1:=k.bd a (by omega)
      have b2:=k.bd b f;have d1:=u a (by omega)
      have d2:=u b f;have g:∀(x:List Int) (j:Nat),x.getD j 0=gtN x j:=fun _ _=>rfl;have w2:IntKind.wrap .i64 (gtN l a+1)=gtN l a+1:=by rw[w64]<;>omega
      have w3:IntKind.wrap .i64 (gtN m b-1)=gtN m b-1:=by rw[w64]<;>omega
      simp only[WU,X12,w1,hl,hm,r,e1,e2,e3,e4,e5,z0S,kS,ju,jB,g,w2,w3];have sl:=X7m l b (gtN l a+1) (by omega)
      have sm:=X7m m a (gtN m b-1) (by omega)
      have hs:m.sum-l.sum<=hi.sum-lo.sum:=by
        rcases s with⟨_,q1,q2,_⟩|⟨_,q⟩
        · rw[q1,q2];omega
        · omega
      by_cases d1:gtN l b<gtN l a+1
      · have kl:X4f n c A B (l.set b (gtN l a+1)) m:=k.setLo f (by omega) (by omega)
        have c1:decide (gtN l b<gtN l a+1)=true:=by simp[d1]
        by_cases d2:gtN m a>gtN m b-1
        · have c2:decide (gtN m a>gtN m b-1)=true:=by simp[d2]
          simp only[c1,c2,jB];exact⟨(true,_,_),rfl,kl.setHi (by omega) (by omega) (by omega),.inr ⟨rfl,by simp only;omega⟩⟩
        · have c2:decide (gtN m a>gtN m b-1)=false:=by simp at d2;simp[d2]
          simp only[c1,c2,jB,jA];exact⟨(true,_,_),rfl,kl,.inr ⟨rfl,by simp only;omega⟩⟩
      · have c1:decide (gtN l b<gtN l a+1)=false:=by simp at d1;simp[d1]
        by_cases d2:gtN m a>gtN m b-1
        · have c2:decide (gtN m a>gtN m b-1)=true:=by simp[d2]
          simp only[c1,c2,jB,jA];exact⟨(true,_,_),rfl,k.setHi (by omega) (by omega) (by omega),.inr ⟨rfl,by simp only;omega⟩⟩
        · have c2:decide (gtN m a>gtN m b-1)=false:=by simp at d2;simp[d2]
          simp only[c1,c2,jB,jA];refine⟨(ag,m,l),rfl,k,?_⟩;rcases s with⟨q0,q1,q2,q3⟩|q
          · refine .inl ⟨q0,q1,q2,fun t ht=>?_⟩
            rcases p t ht with q|rfl
            · exact q3 t q
            · rw[<-q1,<-q2];simp only[kS];omega
          · exact .inr q) 0 (ag0,hi,lo) (Nat.zero_le _) ⟨h,.inl ⟨rfl,rfl,rfl,fun t ht=>by simp at ht⟩⟩
  obtain⟨ag,d,lo'⟩:=w;exact⟨ag,lo',d,h1,y⟩
theorem X94 {n:Nat} (f:n<=1000000) {lo hi:List Int} (b:lo.length=n) (c:hi.length=n) :
    (∃u,X3I hi lo 0=some u/\((u=.inl false/\¬∀i,i<n->gtN lo i<=gtN hi i)\/(u=.inr ()/\∀i,i<n->gtN lo i<=gtN hi i))):=by
  obtain⟨w,g1,g2⟩:=XA (WV hi lo) n (fun i (_:Unit)=>(i:Int)) (fun i _=>∀j,j<i->gtN lo j<=gtN hi j)
    (fun u=>(u=.inl false/\¬∀i,i<n->gtN lo i<=gtN hi i)\/(u=.inr ()/\∀i,i<n->gtN lo i<=gtN hi i))
    (fun _ h=>⟨.inr (),by simp[WV,X13,b],.inr ⟨rfl,h⟩⟩)
    (fun i _ a h=>by
      have e1:decide ((i:Int)<(n:Int))=true:=by simp;omega
      have e4:Nat.blt i n=true:=by rw[Nat.blt_eq];omega
      have w1:=wS i (by omega)
      have g:∀(x:List Int) (j:Nat),x.getD j 0=gtN x j:=fun _ _=>rfl;simp only[WV,X13,b,c,e1,e4,z0S,kS,ju,jB,g,w1]
      by_cases hc:gtN lo i>gtN hi i
      · left
        exact⟨.inl false,by simp[hc],.inl ⟨rfl,fun k=>by have:=k i a;omega⟩⟩
      · right
        refine⟨(),by simp[hc],fun j d=>?_⟩
        by_cases e:j=i
        · subst e;omega
        · exact h j (by omega)) 0 () (Nat.zero_le _) (fun j d=>by omega)
  exact⟨w,g1,g2⟩
end Nore
open Go Go.Ab
namespace Nore
theorem X9p {σ ω:Type} (st:σ->Option (σ⊕ω)) (P:σ->Prop) (Q:ω->Prop) (μ:σ->Nat)
    (h:∀s,P s->(∃w,st s=some (.inr w)/\Q w)\/∃s',st s=some (.inl s')/\P s'∧μ s'<μ s):∀(m:Nat) (s:σ),μ s<=m->P s->∃w,Z8I st s=some w/\Q w
  | m,s,hm,c=>by
    rcases h s c with⟨w,b,a⟩|⟨s',b,a,f⟩
    · exact⟨w,by rw[ZjJ,b];rfl,a⟩
    · cases m with
      | zero=>omega
      | succ m =>
        obtain⟨w,d,e⟩:=X9p st P Q μ h m s' (by omega) a
        exact⟨w,by rw[ZjJ,b];exact d,e⟩
theorem Xak:∀(l m:List Int),l.length=m.length->(∀i,i<l.length->gtN l i<=gtN m i)->l.sum<=m.sum
  | [],[],_,_=>Int.le_refl _
  | a::l,b::m,hl,h=>by
    have c:=h 0 (by simp)
    have:=Xak l m (by simpa using hl) fun i hi=>by
      have:=h (i+1) (by simpa using hi)
      simpa[gtN]using this
    simp only[gtN,List.getD_cons_zero]at c;simp only[List.sum_cons];omega
  | [],_::_,hl,_=>by simp at hl
  | _::_,[],hl,_=>by simp at hl
def XF (x:Z8):Con:=⟨gtN x.lo,gtN x.hi,X4t x.later⟩
structure X7A (n:Nat) (x:Z8):Prop where
  l1:x.lo.length=n
  l2:x.hi.length=n
  ap:OkR n x.later
  bd:∀i,i<n -> -900000<=gtN x.lo i/\gtN x.lo i<=900000 /\ -900000<=gtN x.hi i/\gtN x.hi i<=900000
theorem Xah {n:Nat} {ap:List Z6} (h:OkR n ap):X60 n (X4t ap):=fun p a=>by
  obtain⟨s,b,rfl⟩:=List.mem_map.1 a;have:=h.2 s b;simp only;omega
theorem X6B (l:List Int) (i:Nat) (h:l.length<=i):gtN l i=0:=by
  unfold gtN;simp[List.getD_eq_getElem?_getD,List.getElem?_eq_none h]
theorem X89 {n:Nat} {x:Z8} (h:X7A n x) (hn:n<=100000) :
    ∃y,X4P x=some (y,okN n (XF x))/\(okN n (XF x)=true->y.later=x.later/\y.lo.length=n/\y.hi.length=n/\∀i,i<n->gtN y.lo i=X39 n (XF x) i/\gtN y.hi i=X38 n (XF x) i):=by
  have b:=Xah h.ap;have hL:X71 n (XF x) (X39 n (XF x)):=X1Y (c:=XF x) b;have g:X70 n (XF x) (X38 n (XF x)):=X1S (c:=XF x) b;have hg:∀i,(-900000<=gtN x.lo i/\gtN x.lo i<=900000) /\ -900000<=gtN x.hi i/\gtN x.hi i<=900000:=fun i=>by
    by_cases e:i<n
    · have:=h.bd i e;omega
    · rw[X6B _ _ (by rw[h.l1];omega),X6B _ _ (by rw[h.l2];omega)];omega
  have o:=X9b (X4t x.later) (gtN x.lo) (-900000) 900000 (fun i=>(hg i).1) n;have r:=X8U n (X4t x.later) (gtN x.hi) (-900000) 900000 (fun i=>(hg i).2) n;have a4:∀i,i<n -> -2000000<=(XF x).lo i/\X39 n (XF x) i<=2000000 /\ -2000000<=X38 n (XF x) i/\(XF x).hi i<=2000000:=fun i hi=>by
    have h1:=h.bd i hi;have h2:X39 n (XF x) i<=900000+n:=(o i).2;have h3 : -900000-(n:Int)<=X38 n (XF x) i:=(r i).1;have h4:(XF x).lo i=gtN x.lo i:=rfl;have h5:(XF x).hi i=gtN x.hi i:=rfl;omega
  generalize hA:X39 n (XF x)=A at *;generalize hB:X38 n (XF x)=B at *;have t:X4f n (XF x) A B x.lo x.hi:=⟨h.l1,h.l2,fun i hi=>⟨Int.le_refl _,hL.up.1 i hi,g.dn.1 i hi,Int.le_refl _⟩⟩;rw[X5W];unfold X2s;have a2:Nat.ble ((0+x.lo.length)*(8+1)) 200000000000000=true:=by rw[Nat.ble_eq,h.l1];omega
  have a0:Nat.ble ((0+x.hi.length)*(8+1)) 200000000000000=true:=by rw[Nat.ble_eq,h.l2];omega
  simp only[a2,a0,jB,List.nil_append]
  let full:List Int->List Int->Prop:=fun lo hi=>(∀i,i<n-1->gtN lo i<=gtN lo (i+1)/\gtN hi i<=gtN hi (i+1))/\(∀s∈x.later,gtN lo s.from_.toNat+1<=gtN lo s.to_.toNat/\gtN hi s.from_.toNat+1<=gtN hi s.to_.toNat)/\∀i,i<n->gtN lo i<=gtN hi i
  obtain⟨w,g1,g2⟩:=X9p (Wj x.later) (fun s=>X4f n (XF x) A B s.2.2 s.2.1/\(s.1=false->full s.2.2 s.2.1))
    (fun w=>(∃m l,w=.inl (false,m,l)/\¬∀i,i<n->A i<=B i)\/∃m l,w=.inr (m,l)/\X4f n (XF x) A B l m/\full l m)
    (fun s=>2*(s.2.1.sum-s.2.2.sum).toNat+(if s.1=true then 1 else 0))
    (fun s d=>by
      obtain⟨ag,m,l⟩:=s;obtain⟨k,hf⟩:=d;simp only at k hf;cases ag with
      | false=>exact .inl ⟨.inr (m,l),by simp[Wj,X10],.inr ⟨m,l,rfl,k,hf rfl⟩⟩
      | true =>
        obtain⟨ag1,l1,m1,r1,k1,t1,u1⟩:=X92 hL.up.2.1 g.dn.2.1 (by omega) k
        obtain⟨ag2,l2,m2,r2,k2,v2⟩:=X93 x.later h.ap hL.up.2.2 g.dn.2.2 a4 ag1 k1;obtain⟨u,r3,v3⟩:=X94 (n:=n) (by omega) k2.l1 k2.l2
        have a:Wj x.later (true,m,l)=Sum.elim (fun y=>some (Sum.inr (Sum.inl (y,m2,l2)))) (fun _=>some (Sum.inl (ag2,m2,l2))) u:=by
          simp only[Wj,X10,jB];rw[r1];simp only[jS];rw[r2];simp only[jS];rw[r3];simp only[jS]
        rcases v3 with⟨rfl,v3⟩|⟨rfl,v3⟩
        · left
          refine⟨_,a,.inl ⟨m2,l2,rfl,fun a3=>v3 fun i hi=>?_⟩⟩;have:=k2.bd i hi;have:=a3 i hi;omega
        · right
          have hnn:=Xak l2 m2 (by rw[k2.l1,k2.l2]) (fun i hi=>v3 i (by rw[k2.l1]at hi;exact hi))
          refine⟨_,a,⟨k2,fun e=>?_⟩,?_⟩
          · simp only at e
            rcases v2 with⟨e1,rfl,rfl,q⟩|⟨e1,_⟩
            · obtain⟨rfl,rfl,q2⟩:=u1 (by rw[<-e1];exact e)
              exact⟨q2,q,v3⟩
            · rw[e1]at e;cases e
          · simp only[if_true]
            rcases v2 with⟨e1,rfl,rfl,q⟩|⟨e1,q⟩
            · cases ag1 with
              | true=>have:=t1 rfl;rw[e1];simp only[if_true];omega
              | false=>obtain⟨rfl,rfl,_⟩:=u1 rfl;rw[e1];simp
            · have:m1.sum-l1.sum<=m.sum-l.sum:=by
                cases ag1 with
                | true=>have:=t1 rfl;omega
                | false=>obtain⟨rfl,rfl,_⟩:=u1 rfl;omega
              rw[e1];simp only[if_true];omega) _ (true,x.hi,x.lo) (Nat.le_refl _) ⟨t,fun e=>by cases e⟩
  have g1':X3F x.later (true,x.hi,x.lo)=some w:=g1;rw[g1'];have f:okN n (XF x)=true↔∀i,i<n->A i<=B i:=by rw[X4M,hA,hB]
  rcases g2 with⟨m,l,rfl,j⟩|⟨m,l,rfl,k,f1,f2,f3⟩
  · have:okN n (XF x)=false:=by
      rw[Bool.eq_false_iff];exact fun e=>j (f.1 e)
    rw[this];exact⟨_,rfl,fun e=>by cases e⟩
  · have a1:UpN n (XF x) (gtN l):=⟨fun i hi=>(k.bd i hi).1,fun i hi=>(f1 i (by omega)).1,fun p z=>by
      obtain⟨s,d,rfl⟩:=List.mem_map.1 z;exact(f2 s d).1⟩
    have v:DnN n (XF x) (gtN m):=⟨fun i hi=>(k.bd i hi).2.2.2,fun i hi=>(f1 i (by omega)).2,fun p z=>by
      obtain⟨s,d,rfl⟩:=List.mem_map.1 z;exact(f2 s d).2⟩
    have e1:∀i,i<n->gtN l i=A i:=fun i hi=>Int.le_antisymm (k.bd i hi).2.1 (hL.least _ a1 i hi);have e2:∀i,i<n->gtN m i=B i:=fun i hi=>Int.le_antisymm (g.great _ v i hi) (k.bd i hi).2.2.1;have:okN n (XF x)=true:=f.2 fun i hi=>by rw[<-e1 i hi,<-e2 i hi];exact f3 i hi
    rw[this];exact⟨_,rfl,fun _=>⟨rfl,k.l1,k.l2,fun i hi=>⟨e1 i hi,e2 i hi⟩⟩⟩
end Nore
open Go Go.Ab
namespace Nore
def X5E (dev st:Int):List Zq->Nat->Int->Int->List Z6
  | [],i,now,fr=>if now=st then [⟨fr,i⟩]else []
  | x::xs,i,now,fr=>if x.Device=dev then(if now=st then [⟨fr,i⟩]else [])++X5E dev st xs (i+1) x.State i else X5E dev st xs (i+1) now fr
theorem X5F (dev st:Int) (i:Nat) (now fr:Int):X5E dev st [] i now fr=if now=st then [⟨fr,i⟩]else []:=rfl
theorem X4d (dev st:Int) (x:Zq) (xs:List Zq) (i:Nat) (now fr:Int):X5E dev st (x::xs) i now fr=if x.Device=dev then(if now=st then [⟨fr,i⟩]else [])++X5E dev st xs (i+1) x.State i else X5E dev st xs (i+1) now fr:=rfl
theorem X6J (r:CoRecord) (dev st:Int) (g:0<=dev/\dev<r.Devices.length) (m:r.Entries.length<=1000) :
    X35 r dev st=some (X5E dev st r.Entries 0 (r.Devices.getD dev.toNat ⟨ByteArray.empty,0,0⟩).First (-1)):=by
  rw[X5a];unfold X1z;have c1:decide (0<=dev)=true:=by simp[g.1]
  have c2:decide (dev<(r.Devices.length:Int))=true:=by simp[g.2]
  simp only[c1,c2,ju,jB];generalize (r.Devices.getD dev.toNat ⟨ByteArray.empty,0,0⟩).First=f0;obtain⟨w,k,j⟩:=XA (Wa dev st r) (r.Entries.length+1) (fun i (b:Int×Int×List Z6)=>(b.1,b.2.1,(i:Int),b.2.2))
    (fun i b=>b.2.2.length<=i/\(i<=r.Entries.length->b.2.2++X5E dev st (r.Entries.drop i) i b.1 b.2.1=X5E dev st r.Entries 0 f0 (-1))/\(i=r.Entries.length+1->b.2.2=X5E dev st r.Entries 0 f0 (-1)))
    (fun w=>w=X5E dev st r.Entries 0 f0 (-1))
    (fun b f=>⟨b.2.2,by
      have e1:decide (((r.Entries.length+1:Nat):Int)<=(r.Entries.length:Int))=false:=by simp;omega
      simp only[Wa,Wo,e1,jA],f.2.2 rfl⟩)
    (fun i b hi f=>by
      right;obtain⟨now,fr,acc⟩:=b;obtain⟨h,a,_⟩:=f;simp only at h a;have a:=a (by omega)
      have e1:decide ((i:Int)<=(r.Entries.length:Int))=true:=by simp;omega
      have w1:=wS i (by omega)
      have eb:Nat.ble ((acc.length+1)*(16+1)) 200000000000000=true:=by rw[Nat.ble_eq];omega
      simp only[Wa,Wo,e1,jB,w1,z0S,kS,List.length_singleton,eb]
      by_cases hin:i<r.Entries.length
      · have e2:decide ((i:Int)<(r.Entries.length:Int))=true:=by simp;omega
        have c:r.Entries.getD i ⟨0,0,⟨0,0⟩⟩=r.Entries[i]:=X5 _ _ _ hin;simp only[e2,ju,jB,c];rw[jb hin,X4d]at a
        by_cases hdev:r.Entries[i].Device=dev
        · have c3:(r.Entries[i].Device != dev)=false:=by simp[hdev]
          simp only[c3,jA];rw[if_pos hdev]at a
          by_cases hnow:now=st
          · have c4:(now==st)=true:=by simp[hnow]
            simp only[c4,jB];rw[if_pos hnow,<-jj]at a;exact⟨(_,_,_),rfl,by simp only[List.length_append,List.length_singleton];omega,fun _=>a,fun e=>by omega⟩
          · have c4:(now==st)=false:=X3a hnow
            simp only[c4,jA];rw[if_neg hnow,List.nil_append]at a;exact⟨(_,_,_),rfl,by simp only;omega,fun _=>a,fun e=>by omega⟩
        · have c3:(r.Entries[i].Device != dev)=true:=X3g hdev
          simp only[c3,jB];rw[if_neg hdev]at a;exact⟨(_,_,_),rfl,by simp only;omega,fun _=>a,fun e=>by omega⟩
      · have l:i=r.Entries.length:=by omega
        have e2:decide ((i:Int)<(r.Entries.length:Int))=false:=by simp;omega
        simp only[e2,jA];rw[jd (by omega),X5F]at a
        by_cases hnow:now=st
        · have c4:(now==st)=true:=by simp[hnow]
          simp only[c4,jB];rw[if_pos hnow]at a;exact⟨(_,_,_),rfl,by simp only[List.length_append,List.length_singleton];omega,fun e=>by omega,fun _=>a⟩
        · have c4:(now==st)=false:=X3a hnow
          simp only[c4,jA];rw[if_neg hnow,jo]at a;exact⟨(_,_,_),rfl,by simp only;omega,fun e=>by omega,fun _=>a⟩) 0 (f0,-1,[]) (Nat.zero_le _) ⟨by simp,fun _=>by simp,fun e=>by omega⟩
  have d:X2S dev st r (f0,-1,0,[])=some w:=k;rw[d,j];rfl
theorem X4J {c d:Con} (g:∀i,c.lo i=d.lo i) (f:∀i,c.hi i=d.hi i) (h:c.ap=d.ap):c=d:=by
  obtain⟨a,b,e⟩:=c;obtain⟨a',b',e'⟩:=d;have g:a=a':=funext g;have f:b=b':=funext f;simp only at h;rw[g,f,h]
end Nore
open Go Go.Ab
namespace Nore
theorem X9G (ap:List Z6) (s:Z6):X4t (ap++[s])=X4t ap++[(s.from_.toNat,s.to_.toNat)]:=by
  unfold X4t;rw[List.map_append];rfl
theorem X8A {n:Nat} {b:Z8} (h:X7A n b) (m:n<=1000) (s:Z6) (k:0<=s.to_) (d:X5x n (s.from_,s.to_.toNat)) (at_:Y2) (o : -900000<=at_.Lo/\at_.Lo<900000) :
    ∃y,X6F b s at_=some y/\XF y=WE n (XF b) (s.from_,s.to_.toNat) at_.Lo at_.Hi/\y.lo.length=n/\y.hi.length=n/\y.later=(if 0<=s.from_/\s.to_.toNat<n then b.later++[s]else b.later):=by
  unfold X5x at d;simp only at d;obtain⟨t,ht⟩:=Int.eq_ofNat_of_zero_le k;rw[X7h];unfold X3M;have l:=h.ap.1;have b1:Nat.ble ((0+n)*(8+1)) 200000000000000=true:=by rw[Nat.ble_eq];omega
  have b2:Nat.ble ((0+b.later.length)*(16+1)) 200000000000000=true:=by rw[Nat.ble_eq];omega
  have b3:Nat.ble ((b.later.length+1)*(16+1)) 200000000000000=true:=by rw[Nat.ble_eq];omega
  have w1:IntKind.wrap .i64 (at_.Lo+1)=at_.Lo+1:=by rw[w64]<;>omega
  have g:∀(x:List Int) (j:Nat),x.getD j 0=gtN x j:=fun _ _=>rfl;rw[ht]at d⊢;simp only[kS]at d;simp only[List.nil_append,List.length_singleton,h.l1,h.l2,b1,b2,b3,jB,w1,g,kS,z0S]
  by_cases hf:0<=s.from_
  · obtain⟨f,a⟩:=Int.eq_ofNat_of_zero_le hf
    have c:f<n:=by omega
    have c1:decide (s.from_>=0)=true:=by simp[hf]
    have c2:decide ((f:Int)>=0)=true:=by simp
    have c3:decide ((f:Int)<(n:Int))=true:=by simp;omega
    have c4:Nat.blt f n=true:=by rw[Nat.blt_eq];omega
    simp only[a,c2,c3,c4,z0S,kS,ju,jB]
    by_cases htn:t<n
    · have d1:decide ((t:Int)<(n:Int))=true:=by simp;omega
      have d2:Nat.blt t n=true:=by rw[Nat.blt_eq];omega
      simp only[d1,d2,ju,jB];refine⟨_,rfl,X4J (fun i=>?_) (fun i=>?_) ?_,by simp[h.l1],by simp[h.l2],by simp[htn]⟩
      · show gtN (b.lo.set t _) i=_
        rw[X6C _ _ _ _ (by rw[h.l1];exact htn)]
        unfold WE XF;simp only[kS]
        by_cases e:i=t
        · subst e
          rw[if_pos rfl,if_pos ⟨htn,rfl⟩]
          by_cases q:at_.Lo+1>gtN b.lo i<;>simp[q]
        · rw[if_neg e,if_neg (fun q=>e q.2)]
      · show gtN (b.hi.set f _) i=_
        rw[X6C _ _ _ _ (by rw[h.l2];exact c)]
        unfold WE XF;simp only[kS]
        by_cases e:i=f
        · subst e
          rw[if_pos rfl,if_pos ⟨by omega,rfl⟩]
          by_cases q:at_.Hi<gtN b.hi i<;>simp[q]
        · rw[if_neg e,if_neg (fun q=>e q.2)]
      · show X4t (b.later++[s])=_
        unfold WE XF;simp only[kS];rw[if_pos ⟨by omega,htn⟩,X9G,a,ht]
        rfl
    · have d1:decide ((t:Int)<(n:Int))=false:=by simp;omega
      simp only[d1,jA];refine⟨_,rfl,X4J (fun i=>?_) (fun i=>?_) ?_,h.l1,by simp[h.l2],by simp[htn]⟩
      · unfold WE XF
        simp only[kS];rw[if_neg (fun q=>htn q.1)]
      · show gtN (b.hi.set f _) i=_
        rw[X6C _ _ _ _ (by rw[h.l2];exact c)]
        unfold WE XF;simp only[kS]
        by_cases e:i=f
        · subst e
          rw[if_pos rfl,if_pos ⟨by omega,rfl⟩]
          by_cases q:at_.Hi<gtN b.hi i<;>simp[q]
        · rw[if_neg e,if_neg (fun q=>e q.2)]
      · unfold WE XF
        simp only[kS];rw[if_neg (fun q=>htn q.2)]
  · have c1:decide (s.from_>=0)=false:=by simp;omega
    simp only[c1,jA]
    by_cases htn:t<n
    · have d1:decide ((t:Int)<(n:Int))=true:=by simp;omega
      have d2:Nat.blt t n=true:=by rw[Nat.blt_eq];omega
      simp only[d1,d2,ju,jB];refine⟨_,rfl,X4J (fun i=>?_) (fun i=>?_) ?_,by simp[h.l1],h.l2,by simp[hf]⟩
      · show gtN (b.lo.set t _) i=_
        rw[X6C _ _ _ _ (by rw[h.l1];exact htn)]
        unfold WE XF;simp only[kS]
        by_cases e:i=t
        · subst e
          rw[if_pos rfl,if_pos ⟨htn,rfl⟩]
          by_cases q:at_.Lo+1>gtN b.lo i<;>simp[q]
        · rw[if_neg e,if_neg (fun q=>e q.2)]
      · unfold WE XF
        simp only[kS];rw[if_neg (fun q=>hf q.1)]
      · unfold WE XF
        simp only[kS];rw[if_neg (fun q=>hf q.1)]
    · have d1:decide ((t:Int)<(n:Int))=false:=by simp;omega
      simp only[d1,jA];refine⟨_,rfl,X4J (fun i=>?_) (fun i=>?_) ?_,h.l1,h.l2,by simp[hf]⟩
      · unfold WE XF
        simp only[kS];rw[if_neg (fun q=>htn q.1)]
      · unfold WE XF
        simp only[kS];rw[if_neg (fun q=>hf q.1)]
      · unfold WE XF
        simp only[kS];rw[if_neg (fun q=>hf q.1)]
end Nore
open Go Go.Ab
namespace Nore
theorem X8i {σ ω:Type} {st st':σ->Option (σ⊕ω)} (h:∀s x,st s=some x->st' s=some x) {s:σ} {w:ω} (hr:Z8I st s=some w):Z8I st' s=some w:=by
  rw[Z1C]at hr⊢
  induction hr with
  | done e=>exact .done (h _ _ e)
  | next e _ ih=>exact .next (h _ _ e) ih
theorem X8I {α β:Type} {t:(α->Option β)->α->Option β} (ht:∀f g:α->Option β,(∀x r,f x=some r->g x=some r)->∀x r,t f x=some r->t g x=some r) :
    ∀(n:Nat) (x:α) (r:β),Z9E t n x=some r->Z9E t (n+1) x=some r
  | 0,_,_,h=>by cases h
  | n+1,x,r,h=>ht _ _ (X8I ht n) x r h
theorem ZfI {α β:Type} {t:(α->Option β)->α->Option β} (ht:∀f g:α->Option β,(∀x r,f x=some r->g x=some r)->∀x r,t f x=some r->t g x=some r) (n:Nat) :
    ∀(k:Nat) (x:α) (r:β),Z9E t n x=some r->Z9E t (n+k) x=some r
  | 0,_,_,h=>h
  | k+1,x,r,h=>X8I ht (n+k) x r (ZfI ht n k x r h)
theorem X74 {α β:Type} {t:(α->Option β)->α->Option β} (ht:∀f g:α->Option β,(∀x r,f x=some r->g x=some r)->∀x r,t f x=some r->t g x=some r) {n:Nat} {x:α} {r:β} (h:Z9E t n x=some r):Zba t x=some r:=by
  refine Zka (fun m q b=>?_) ⟨n,r,h⟩;have c:=ZfI ht n m x r h;have a:=ZfI ht m n x q b;rw[Nat.add_comm]at a;rw[c]at a;exact(Option.some.inj a).symm
theorem X3V {α β:Type} {o o':Option α} {k k':α->Option β} {r:β} (h:o.bind k=some r) (b:∀a,o=some a->o'=some a) (c:∀a,k a=some r->k' a=some r):o'.bind k'=some r:=by
  cases o with
  | none=>cases h
  | some a=>rw[b a rfl];exact c a h
theorem X37 {β:Type} {c:Bool} {a a' b b':Option β} {r:β} (h:(bif c then a else b)=some r) (e:a=some r->a'=some r) (d:b=some r->b'=some r):(bif c then a' else b')=some r:=by
  cases c with
  | true=>exact e h
  | false=>exact d h
theorem X8f (f g:(CoRecord×(List Zr)×Z8×Unit)->Option (List Z8)) (h:∀x r,f x=some r->g x=some r) (x:CoRecord×(List Zr)×Z8×Unit) (r:List Z8) (hr:Wy f x=some r):Wy g x=some r:=by
  unfold Wy X2d at hr⊢;refine X3V hr (fun _ e=>e) fun a b=>X37 b (fun e=>e) fun b=>X37 b (fun e=>e) fun b=>X37 b (fun b=>X37 b (fun b=>?_) (fun e=>e)) (fun e=>e);refine X3V b (fun _ e=>e) fun q i=>X3V i (fun w c=>?_) fun _ e=>e;unfold X3w at c⊢;refine X8i (fun s y hy=>?_) c;unfold X1k X1d at hy⊢;refine X37 hy (fun hy=>X37 hy (fun hy=>X37 hy (fun hy=>X37 hy (fun hy=>?_) fun e=>e) fun e=>e) fun e=>e) fun e=>e;exact X3V hy (fun _ e=>e) fun u d=>X3V d (fun v hv=>h _ _ hv) fun _ e=>e
theorem X7W (dev st:Int) (n:Nat):∀(e:List Zq) (i:Nat) (now fr:Int),i+e.length=n -> -1<=fr->fr<i->((X5E dev st e i now fr).length<=e.length+1)/\∀s∈X5E dev st e i now fr,-1<=s.from_/\s.from_<s.to_/\s.to_<=n
  | [],i,now,fr,h,h1,h2=>by
    simp only[List.length_nil,Nat.add_zero]at h;rw[X5F];split
    · refine⟨by simp,fun s a=>?_⟩
      rw[List.mem_singleton.1 a];simp only;omega
    · exact⟨by simp,fun s a=>by cases a⟩
  | x::xs,i,now,fr,h,h1,h2=>by
    simp only[List.length_cons]at h;rw[X4d];split
    · obtain⟨g1,g2⟩:=X7W dev st n xs (i+1) x.State i (by omega) (by omega) (by omega)
      split
      · refine⟨by simp only[List.length_append,List.length_cons,List.length_nil];omega,fun s a=>?_⟩
        rcases List.mem_append.1 a with q|q
        · rw[List.mem_singleton.1 q]
          simp only;omega
        · exact g2 s q
      · refine⟨by simp only[List.nil_append,List.length_cons];omega,fun s a=>g2 s (by simpa using a)⟩
    · obtain⟨g1,g2⟩:=X7W dev st n xs (i+1) now fr (by omega) h1 (by omega)
      exact⟨by simp only[List.length_cons];omega,g2⟩
end Nore
open Go Go.Ab
namespace Nore
def X3e (r:CoRecord) (x:Zr):List Z6:=X5E x.Device x.State r.Entries 0 (r.Devices.getD x.Device.toNat ⟨ByteArray.empty,0,0⟩).First (-1)
def X2c (s:Z6):Str:=(s.from_,s.to_.toNat)
def X3y (r:CoRecord) (x:Zr):Wit:=⟨(X3e r x).map X2c,x.At.Lo,x.At.Hi⟩
structure X4T (r:CoRecord) (x:Zr):Prop where
  dev:0<=x.Device/\x.Device<r.Devices.length
  lo : -900000<=x.At.Lo/\x.At.Lo<900000
  hi : -900000<=x.At.Hi/\x.At.Hi<=900000
theorem X9l (n:Nat) (ap:List (Nat×Nat)) (H:Nat->Int):∀(k j:Nat),k<=n->n<=j->Wx n ap k H j=H j
  | 0,_,_,_=>rfl
  | k+1,j,hk,hj=>by
    unfold Wx;rw[if_neg (by omega)]
    exact X9l n ap H k j (by omega) hj
theorem X9v {r:CoRecord} (x:Zr) {n:Nat} (d:r.Entries.length=n):(X3e r x).length<=n+1/\∀s∈X3e r x,0<=s.to_/\X5x n (X2c s):=by
  obtain⟨a,c⟩:=X7W x.Device x.State n r.Entries 0 (r.Devices.getD x.Device.toNat ⟨ByteArray.empty,0,0⟩).First (-1) (by omega) (by omega) (by omega)
  rw[d]at a;refine⟨a,fun s b=>?_⟩;have:=c s b;unfold X5x X2c;simp only;omega
theorem X88 {n:Nat} {b y:Z8} (h:X7A n b) (d:okN n (XF b)=true) (j:y.later=b.later) (k:y.lo.length=n) (l:y.hi.length=n)
    (f:∀i,i<n->gtN y.lo i=X39 n (XF b) i/\gtN y.hi i=X38 n (XF b) i):X7A n y/\XF y=X3S n (XF b):=by
  have a:=Xah h.ap;have g:=X4M.1 d;refine⟨⟨k,l,j▸h.ap,fun i hi=>?_⟩,X4J (fun i=>?_) (fun i=>?_) (by show X4t y.later=X4t b.later;rw[j])⟩
  · obtain⟨e1,e2⟩:=f i hi
    have g1:=(X1Y (c:=XF b) a).up.1 i hi;have g2:=(X1S (c:=XF b) a).dn.1 i hi;have g3:=g i hi;have g4:=h.bd i hi;have g1':gtN b.lo i<=X39 n (XF b) i:=g1;have g2':X38 n (XF b) i<=gtN b.hi i:=g2;rw[e1,e2];omega
  · show gtN y.lo i=X39 n (XF b) i
    by_cases e:i<n
    · exact(f i e).1
    · rw[X6B _ _ (by omega)]
      have:X39 n (XF b) i=gtN b.lo i:=X9c _ _ _ _ (by omega)
      rw[this,X6B _ _ (by rw[h.l1];omega)]
  · show gtN y.hi i=X38 n (XF b) i
    by_cases e:i<n
    · exact(f i e).2
    · rw[X6B _ _ (by omega)]
      have:X38 n (XF b) i=gtN b.hi i:=X9l _ _ _ _ _ (Nat.le_refl _) (by omega)
      rw[this,X6B _ _ (by rw[h.l2];omega)]
theorem Xap {n:Nat} {b y:Z8} (h:X7A n b) {s:Z6} (m:0<=s.to_) (c:X5x n (X2c s)) (l:b.later.length<1000000) {a e:Int} (o : -900000<=a/\a<900000) (p : -900000<=e/\e<=900000)
    (d:XF y=WE n (XF b) (X2c s) a e) (f:y.lo.length=n) (j:y.hi.length=n) (k:y.later=(if 0<=s.from_/\s.to_.toNat<n then b.later++[s]else b.later)):X7A n y:=by
  unfold X5x X2c at c;simp only at c;refine⟨f,j,?_,fun i hi=>?_⟩
  · rw[k]
    split
    · rename_i hc
      refine⟨by simp only[List.length_append,List.length_cons,List.length_nil];omega,fun t ht=>?_⟩
      rcases List.mem_append.1 ht with q|q
      · exact h.ap.2 t q
      · rw[List.mem_singleton.1 q]
        omega
    · exact h.ap
  · have g:=h.bd i hi
    have e1:gtN y.lo i=(WE n (XF b) (X2c s) a e).lo i:=congrFun (congrArg Con.lo d) i;have e2:gtN y.hi i=(WE n (XF b) (X2c s) a e).hi i:=congrFun (congrArg Con.hi d) i;have f1:(WE n (XF b) (X2c s) a e).lo i=gtN b.lo i\/(WE n (XF b) (X2c s) a e).lo i=a+1:=by
      unfold WE XF;simp only;split
      · split
        · exact .inr rfl
        · exact .inl rfl
      · exact .inl rfl
    have f2:(WE n (XF b) (X2c s) a e).hi i=gtN b.hi i\/(WE n (XF b) (X2c s) a e).hi i=e:=by
      unfold WE XF;simp only;split
      · split
        · exact .inr rfl
        · exact .inl rfl
      · exact .inl rfl
    rw[e1,e2];rcases f1 with f1|f1<;>rcases f2 with f2|f2<;>rw[f1,f2]<;>omega
end Nore
open Go Go.Ab
namespace Nore
theorem X8X (n:Nat) (w:Wit) (ws:List Wit) (c:Con):X2h n (w::ws) c=if okN n c then w.strs.flatMap fun s=>X2h n ws (WE n (X3S n c) s w.a w.b)else []:=rfl
theorem Xaa (r:CoRecord) (n:Nat) (hn:r.Entries.length=n) (a1:n<=10):∀(l:List Zr) (b:Z8),(∀x∈l,X4T r x)->l.length<=8->X7A n b->b.later.length+l.length<=1000 →
    ∃out,Z9E Wy (l.length+1) (r,l,b,())=some out/\out.map XF=X2h n (l.map (X3y r)) (XF b)/\(∀y∈out,y.lo.length=n/\y.hi.length=n)/\out.length<=11 ^ l.length:=by
  intro l
  induction l with
  | nil =>
    intro b _ _ f _;obtain⟨y,u,o⟩:=X89 f (by omega)
    show ∃out,X2d (Z9E Wy 0) r [] b=some out/\_;unfold X2d;simp only[u,jS];cases hok:okN n (XF b)with
    | false =>
      refine⟨[],by simp,?_,(fun y hy=>by cases hy),by simp⟩
      simp only[List.map_nil];unfold X2h;rw[hok];rfl
    | true =>
      obtain⟨g1,g2,g3,g4⟩:=o hok;obtain⟨_,k2⟩:=X88 f hok g1 g2 g3 g4;refine⟨[y],by simp,?_,fun z hz=>?_,by simp⟩
      · simp only[jr,List.map_nil]
        unfold X2h;rw[hok,if_pos rfl,k2]
      · rw[List.mem_singleton.1 hz];exact⟨g2,g3⟩
  | cons x l ih =>
    intro b hx hl f k;simp only[List.length_cons]at hl k;have c:=hx x (by simp)
    obtain⟨y,u,o⟩:=X89 f (by omega)
    show ∃out,X2d (Z9E Wy (l.length+1)) r (x::l) b=some out/\_;unfold X2d;simp only[u,jS];cases hok:okN n (XF b)with
    | false =>
      refine⟨[],by simp,?_,(fun y hy=>by cases hy),by simp⟩
      simp only[List.map_nil,jr];unfold X2h;rw[hok];rfl
    | true =>
      obtain⟨g1,g2,g3,g4⟩:=o hok;obtain⟨k1,k2⟩:=X88 f hok g1 g2 g3 g4;obtain⟨t1,t2⟩:=X9v x hn;have hM:11 ^ l.length<=11 ^ 8:=Nat.pow_le_pow_right (by omega) (by omega)
      have hM8:(11:Nat) ^ 8=214358881:=by decide
      have g:X35 r x.Device x.State=some (X3e r x):=X6J r x.Device x.State c.dev (by omega)
      have j:¬((x::l).length:Int)=0:=by simp only[List.length_cons];omega
      have c1:(((x::l).length:Int)==0)=false:=X3a j;have c2:decide ((0:Int)<((x::l).length:Int))=true:=by rw[jk];simp only[List.length_cons];omega
      have c3:decide ((1:Int)<=((x::l).length:Int))=true:=by rw[jk];simp only[List.length_cons];omega
      have d:(x::l).getD (Int.toNat 0) ⟨0,0,⟨0,0⟩⟩=x:=rfl;obtain⟨w,r1,r2⟩:=XA (X1k (Z9E Wy (l.length+1)) (x::l) (X3e r x) y r) (X3e r x).length (fun i (acc:List Z8)=>((i:Int),acc))
        (fun i acc=>acc.map XF=((X3e r x).take i).flatMap (fun s=>X2h n (l.map (X3y r)) (WE n (X3S n (XF b)) (X2c s) x.At.Lo x.At.Hi))/\(∀z∈acc,z.lo.length=n/\z.hi.length=n)/\acc.length<=i*11 ^ l.length)
        (fun w=>w.map XF=(X3e r x).flatMap (fun s=>X2h n (l.map (X3y r)) (WE n (X3S n (XF b)) (X2c s) x.At.Lo x.At.Hi))/\(∀z∈w,z.lo.length=n/\z.hi.length=n)/\w.length<=(X3e r x).length*11 ^ l.length)
        (fun acc h=>⟨acc,by simp[X1k,X1d],by rw[List.take_length]at h;exact h⟩)
        (fun i acc hi h=>by
          right;obtain⟨q1,q2,q3⟩:=h;have m:(X3e r x)[i]∈X3e r x:=jl hi;obtain⟨s1,s2⟩:=t2 _ m;have v:(X3e r x).getD i ⟨0,0⟩=(X3e r x)[i]:=X5 _ _ _ hi;have e1:decide ((i:Int)<((X3e r x).length:Int))=true:=by simp;omega
          have w1:=wS i (by omega)
          obtain⟨z,v1,v2,v3,v4,v5⟩:=X8A k1 (by omega) (X3e r x)[i] s1 s2 x.At c.lo
          have hz:=Xap k1 s1 s2 (by rw[g1];omega) c.lo c.hi v2 v3 v4 v5
          have p:z.later.length+l.length<=1000:=by
            rw[v5,g1];split
            · simp only[List.length_append,List.length_cons,List.length_nil];omega
            · omega
          obtain⟨out,o1,o2,o3,o4⟩:=ih z (fun a t=>hx a (by simp[t])) (by omega) hz p
          have e:List.drop (Int.toNat 1) (List.take (x::l).length (x::l))=l:=by rw[List.take_length];rfl
          have a0:i*11 ^ l.length<=11*11 ^ l.length:=Nat.mul_le_mul_right _ (by omega)
          have eb:Nat.ble ((acc.length+out.length)*(72+1)) 200000000000000=true:=by rw[Nat.ble_eq];omega
          simp only[X1k,X1d,e1,c2,c3,z0S,kS,v,d,w1,jB,ju,v1,jS,e,o1,eb,Nat.zero_le,Nat.le_refl,decide_true];refine⟨acc++out,rfl,?_,fun a t=>?_,?_⟩
          · rw[List.map_append,q1,o2,List.take_succ_eq_append_getElem hi,List.flatMap_append,v2,k2]
            simp only[List.flatMap_cons,List.flatMap_nil,jo];rfl
          · rcases List.mem_append.1 t with q|q
            · exact q2 a q
            · exact o3 a q
          · rw[List.length_append,Nat.succ_mul];omega) 0 [] (Nat.zero_le _) ⟨by simp,(fun z hz=>by cases hz),by simp⟩
      have r1':X3w (Z9E Wy (l.length+1)) (x::l) (X3e r x) y r (0,[])=some w:=r1;obtain⟨w1,w2,w3⟩:=r2;refine⟨w,?_,?_,w2,?_⟩
      · simp only[Bool.not_true,jA,c1,c2,ju,jB,d,g,jS,r1',Nat.le_refl,decide_true]
      · rw[w1]
        simp only[jr];show _=X2h n (X3y r x::l.map (X3y r)) (XF b);rw[X8X,hok,if_pos rfl];show _=((X3e r x).map X2c).flatMap _;rw[List.flatMap_map];rfl
      · have h11:(X3e r x).length*11 ^ l.length<=11*11 ^ l.length:=Nat.mul_le_mul_right _ (by omega)
        rw[List.length_cons,Nat.pow_succ];omega
end Nore
open Go Go.Ab
namespace Nore
def X42 (r:CoRecord):Z8:=⟨r.Entries.map (·.At.Lo),r.Entries.map (·.At.Hi),[]⟩
theorem X7U (r:CoRecord) (j:r.Entries.length<=1000):X5r r=some (X42 r):=by
  rw[X6t];unfold X34;obtain⟨w,h,f⟩:=XA (X1f r) r.Entries.length (fun i (b:List Int×List Int)=>((i:Int),b))
    (fun i b=>b.1=(r.Entries.take i).map (·.At.Hi)/\b.2=(r.Entries.take i).map (·.At.Lo)) (fun w=>w.1=r.Entries.map (·.At.Hi)/\w.2=r.Entries.map (·.At.Lo))
    (fun b c=>⟨b,by simp[X1f,X1y],by rw[List.take_length]at c;exact c⟩)
    (fun i b hi c=>by
      right;obtain⟨m,l⟩:=b;obtain⟨q1,q2⟩:=c;simp only at q1 q2;have g:m.length=i:=by rw[q1,List.length_map,List.length_take];omega
      have e:l.length=i:=by rw[q2,List.length_map,List.length_take];omega
      have e1:decide ((i:Int)<(r.Entries.length:Int))=true:=by simp;omega
      have w1:=wS i (by omega)
      have a:r.Entries.getD i ⟨0,0,⟨0,0⟩⟩=r.Entries[i]:=X5 _ _ _ hi;have eb:Nat.ble ((i+1)*(8+1)) 200000000000000=true:=by rw[Nat.ble_eq];omega
      simp only[X1f,X1y,e1,z0S,kS,ju,jB,a,w1,g,e,List.length_singleton,eb];refine⟨(_,_),rfl,?_,?_⟩
      · simp only[q1,List.take_succ_eq_append_getElem hi,List.map_append,jr,List.map_nil]
      · simp only[q2,List.take_succ_eq_append_getElem hi,List.map_append,jr,List.map_nil]) 0 ([],[]) (Nat.zero_le _) ⟨by simp,by simp⟩
  have d:X3Z r (0,[],[])=some w:=h;obtain⟨q1,q2⟩:=f;rw[d];simp only[jS];rw[q1,q2];rfl
def X7X (r:CoRecord):Prop:=r.Entries.length<=10/\∀x∈r.Entries,-900000<=x.At.Lo/\x.At.Lo<=900000 /\ -900000<=x.At.Hi/\x.At.Hi<=900000
theorem Xa2 {r:CoRecord} (h:X7X r):X7A r.Entries.length (X42 r):=by
  refine⟨by simp[X42],by simp[X42],⟨by simp[X42],fun s a=>by cases a⟩,fun i hi=>?_⟩
  have e1:gtN (X42 r).lo i=r.Entries[i].At.Lo:=by
    show(r.Entries.map (·.At.Lo)).getD i 0=_;rw[X5 _ _ _ (by simpa using hi)]
    simp
  have e2:gtN (X42 r).hi i=r.Entries[i].At.Hi:=by
    show(r.Entries.map (·.At.Hi)).getD i 0=_;rw[X5 _ _ _ (by simpa using hi)]
    simp
  rw[e1,e2];exact h.2 _ (jl hi)
theorem X8z {r:CoRecord} (h:X7X r) {l:List Zr} (c:∀x∈l,X4T r x) (b:l.length<=8) :
    ∃out,X7w r l (X42 r)=some out/\out.map XF=X2h r.Entries.length (l.map (X3y r)) (XF (X42 r))/\(∀y∈out,y.lo.length=r.Entries.length/\y.hi.length=r.Entries.length)/\out.length<=11 ^ l.length:=by
  obtain⟨out,a,d⟩:=Xaa r _ rfl h.1 l (X42 r) c b (Xa2 h) (by show 0+l.length<=1000;omega)
  exact⟨out,X74 X8f a,d⟩
theorem X8e {r:CoRecord} (h:X7X r) {l:List Zr} (a:∀x∈l,X4T r x) (c:l.length<=8) :
    X1j r l=some (!(X2h r.Entries.length (l.map (X3y r)) (XF (X42 r))).isEmpty):=by
  obtain⟨out,d,b,_⟩:=X8z h a c;rw[X6U];unfold X3l;rw[X7U r (by have:=h.1;omega)]
  simp only[jS,d,<-b];cases out with
  | nil=>rfl
  | cons y ys =>
    have:decide (((y::ys).length:Int)>0)=true:=by rw[jk];simp only[List.length_cons];omega
    simp only[this];rfl
end Nore
open Go Go.Ab
namespace Nore
def LeO {β:Type} (a b:Option β):Prop:=∀r,a=some r->b=some r
theorem LeO.same {β:Type} (a:Option β):LeO a a:=fun _ h=>h
theorem LeO.cond {β:Type} {c:Bool} {a a' b b':Option β} (d:LeO a a') (e:LeO b b'):LeO (bif c then a else b) (bif c then a' else b'):=by
  cases c
  · exact e
  · exact d
theorem LeO.bind {α β:Type} {o o':Option α} {k k':α->Option β} (b:LeO o o') (c:∀a,LeO (k a) (k' a)):LeO (o.bind k) (o'.bind k'):=fun r h=>by
  cases o with
  | none=>cases h
  | some a=>rw[b a rfl];exact c a r h
theorem LeO.run {σ ω:Type} {st st':σ->Option (σ⊕ω)} (h:∀s,LeO (st s) (st' s)) (s:σ):LeO (Z8I st s) (Z8I st' s):=fun _ hr=>X8i h hr
theorem X8t (f g:((Nat->Y2)×Int×(List Zb)×Zc×Bool×Zc×Zc)->Option ((Bool×Zc×Bool×Zc×Zc)⊕(Bool×Zc×Bool×Zc×Zc))) (h:∀x,LeO (f x) (g x)) (x):LeO (X2 f x) (X2 g x):=by
  unfold X2 Xb;refine .bind (.same _) fun a=>.cond (.same _) (.cond (.same _) (.cond (.cond (.cond (.cond (.bind ?_ fun _=>.same _) (.same _)) (.same _)) (.same _)) (.same _)));unfold XI;refine LeO.run (fun s=>?_) _;unfold X8 X0;dsimp only
  repeat' (first|with_reducible exact LeO.same _|with_reducible exact LeO.bind (h _) fun _=>LeO.same _|with_reducible apply LeO.cond)
end Nore
open Go Go.Ab
namespace Nore
def X3C (u:Nat->Y2) (ap:List Zb):Con:=X8v (fun j=>(u j).Lo) (fun j=>(u j).Hi) ap
def UBd (u:Nat->Y2):Prop:=∀i,-900000<=(u i).Lo/\(u i).Lo<=900000 /\ -900000<=(u i).Hi/\(u i).Hi<=900000
def ApK (n k:Nat) (ap:List Zb):Prop:=ap.length<=k/\∀s∈ap,0<=s.from_/\s.from_<s.to_/\s.to_<n
theorem ApK.bd {n k:Nat} {ap:List Zb} (h:ApK n k ap) (c:n<=10) (a:k<=1000):X9d ap:=⟨Nat.le_trans h.1 a,fun s b=>by have:=h.2 s b;omega⟩
theorem ApK.keep {n k:Nat} {ap:List Zb} (h:ApK n k ap):ApK n (k+1) ap:=⟨Nat.le_succ_of_le h.1,h.2⟩
theorem ApK.add {n k:Nat} {ap:List Zb} (h:ApK n k ap) {f t:Nat} (c:f<t) (b:t<n):ApK n (k+1) (ap++[⟨(f:Int),(t:Int)⟩]) :=
  ⟨by rw[List.length_append,List.length_singleton];exact Nat.succ_le_succ h.1,fun s a=>by
    rcases List.mem_append.1 a with q|q
    · exact h.2 s q
    · rw[List.mem_singleton.1 q];simp only;omega⟩
theorem X8k (q:Zc) (u:Nat->Y2) (ap:List Zb) {k:Nat} (a:UBd u) (b:ApK q.CoRecord.Entries.length k ap) (d:k<=1000) (c:q.CoRecord.Entries.length<=10) :
    Wm q u ap=some (spN (X39 q.CoRecord.Entries.length (X3C u ap)) (X38 q.CoRecord.Entries.length (X3C u ap)),okN q.CoRecord.Entries.length (X3C u ap)) :=
  X9I q (fun j=>(u j).Lo) (fun j=>(u j).Hi) ap (b.bd c d) (fun i=>⟨(a i).1,(a i).2.1⟩) (fun i=>⟨(a i).2.2.1,(a i).2.2.2⟩) c
def X62 (u:Nat->Y2) (f:Nat) (b:Int):Nat->Y2:=fun j=>bif Nat.beq j f then Y2.mk (u f).Lo (bif decide (b<(u f).Hi)then b else(u f).Hi)else u j
def X63 (u:Nat->Y2) (t:Nat) (a:Int):Nat->Y2:=fun j=>bif Nat.beq j t then Y2.mk (bif decide (a>(u t).Lo)then a else(u t).Lo) (u t).Hi else u j
theorem X78 (u:Nat->Y2) (f:Nat) (b:Int) (j:Nat):(X62 u f b j).Lo=(u j).Lo:=by
  unfold X62;cases e:Nat.beq j f with
  | true=>rw[je e];rfl
  | false=>rfl
theorem X7Z (u:Nat->Y2) (f:Nat) (b:Int) (j:Nat):(X62 u f b j).Hi=if j=f then(if b<(u f).Hi then b else(u f).Hi)else(u j).Hi:=by
  unfold X62;cases e:Nat.beq j f with
  | true =>
    rw[if_pos (je e)]
    by_cases c:b<(u f).Hi<;>simp[c]
  | false=>rw[if_neg (Nat.ne_of_beq_eq_false e)];rfl
theorem X80 (u:Nat->Y2) (f:Nat) (b:Int) (j:Nat):(X63 u f b j).Hi=(u j).Hi:=by
  unfold X63;cases e:Nat.beq j f with
  | true=>rw[je e];rfl
  | false=>rfl
theorem X81 (u:Nat->Y2) (f:Nat) (b:Int) (j:Nat):(X63 u f b j).Lo=if j=f then(if b>(u f).Lo then b else(u f).Lo)else(u j).Lo:=by
  unfold X63;cases e:Nat.beq j f with
  | true =>
    rw[if_pos (je e)]
    by_cases c:b>(u f).Lo<;>simp[c]
  | false=>rw[if_neg (Nat.ne_of_beq_eq_false e)];rfl
theorem UBd.hi {u:Nat->Y2} (h:UBd u) (f:Nat) {b:Int} (c : -900000<=b/\b<=900000):UBd (X62 u f b):=fun i=>by
  rw[X78,X7Z];have a:=h i;have d:=h f;refine⟨a.1,a.2.1,?_⟩;split
  · split<;>omega
  · exact a.2.2
theorem UBd.lo {u:Nat->Y2} (h:UBd u) (f:Nat) {b:Int} (c : -900000<=b/\b<=900000):UBd (X63 u f b):=fun i=>by
  rw[X81,X80];have a:=h i;have d:=h f;refine⟨?_,?_,a.2.2⟩
  · split
    · split<;>omega
    · exact a.1
  · split
    · split<;>omega
    · exact a.2.1
theorem X9F (ap:List Zb) (f t:Nat):X1 (ap++[⟨(f:Int),(t:Int)⟩])=X1 ap++[(f,t)]:=by
  unfold X1;rw[List.map_append];rfl
theorem X9R (u:Nat->Y2) (ap:List Zb) {n f t:Nat} (ht:t<n) (a b:Int):X3C (X63 (X62 u f b) t (a+1)) (ap++[⟨(f:Int),(t:Int)⟩])=WE n (X3C u ap) ((f:Int),t) a b:=by
  refine X4J (fun i=>?_) (fun i=>?_) ?_
  · show(X63 (X62 u f b) t (a+1) i).Lo=if t<n/\i=t then(if a+1>(u i).Lo then a+1 else(u i).Lo)else(u i).Lo
    rw[X81,X78,X78]
    by_cases e:i=t
    · subst e;simp[ht]
    · rw[if_neg e,if_neg fun h=>e h.2]
  · show(X63 (X62 u f b) t (a+1) i).Hi=if 0<=(f:Int)/\i=(f:Int).toNat then(if b<(u i).Hi then b else(u i).Hi)else(u i).Hi
    rw[X80,X7Z,kS]
    by_cases e:i=f
    · subst e;simp
    · rw[if_neg e,if_neg fun h=>e h.2]
  · show X1 (ap++[⟨(f:Int),(t:Int)⟩])=if 0<=(f:Int)/\t<n then X1 ap++[((f:Int).toNat,t)]else X1 ap
    rw[if_pos ⟨by omega,ht⟩,X9F,kS]
theorem Xam (u:Nat->Y2) (ap:List Zb) {n f t:Nat} (ht:¬t<n) (a b:Int):X3C (X62 u f b) ap=WE n (X3C u ap) ((f:Int),t) a b:=by
  refine X4J (fun i=>?_) (fun i=>?_) ?_
  · show(X62 u f b i).Lo=if t<n/\i=t then(if a+1>(u i).Lo then a+1 else(u i).Lo)else(u i).Lo
    rw[X78,if_neg fun h=>ht h.1]
  · show(X62 u f b i).Hi=if 0<=(f:Int)/\i=(f:Int).toNat then(if b<(u i).Hi then b else(u i).Hi)else(u i).Hi
    rw[X7Z,kS]
    by_cases e:i=f
    · subst e;simp
    · rw[if_neg e,if_neg fun h=>e h.2]
  · show X1 ap=if 0<=(f:Int)/\t<n then X1 ap++[((f:Int).toNat,t)]else X1 ap
    rw[if_neg fun h=>ht h.2]
theorem Xan (u:Nat->Y2) (ap:List Zb) {n t:Nat} {fr:Int} (c:¬0<=fr) (ht:t<n) (a b:Int):X3C (X63 u t (a+1)) ap=WE n (X3C u ap) (fr,t) a b:=by
  refine X4J (fun i=>?_) (fun i=>?_) ?_
  · show(X63 u t (a+1) i).Lo=if t<n/\i=t then(if a+1>(u i).Lo then a+1 else(u i).Lo)else(u i).Lo
    rw[X81]
    by_cases e:i=t
    · subst e;simp[ht]
    · rw[if_neg e,if_neg fun h=>e h.2]
  · show(X63 u t (a+1) i).Hi=if 0<=fr/\i=fr.toNat then(if b<(u i).Hi then b else(u i).Hi)else(u i).Hi
    rw[X80,if_neg fun h=>c h.1]
  · show X1 ap=if 0<=fr/\t<n then X1 ap++[(fr.toNat,t)]else X1 ap
    rw[if_neg fun h=>c h.1]
theorem Xao (u:Nat->Y2) (ap:List Zb) {n t:Nat} {fr:Int} (c:¬0<=fr) (ht:¬t<n) (a b:Int):X3C u ap=WE n (X3C u ap) (fr,t) a b:=by
  refine X4J (fun i=>?_) (fun i=>?_) ?_
  · show(u i).Lo=if t<n/\i=t then(if a+1>(u i).Lo then a+1 else(u i).Lo)else(u i).Lo
    rw[if_neg fun h=>ht h.1]
  · show(u i).Hi=if 0<=fr/\i=fr.toNat then(if b<(u i).Hi then b else(u i).Hi)else(u i).Hi
    rw[if_neg fun h=>c h.1]
  · show X1 ap=if 0<=fr/\t<n then X1 ap++[(fr.toNat,t)]else X1 ap
    rw[if_neg fun h=>c h.1]
def X8B (n:Nat) (dev st:Int) (E:List Zq) (i:Nat) (now fr:Int):List Z6:=if i<=n then X5E dev st (E.drop i) i now fr else []
theorem X8o (n:Nat) (dev st:Int) (E:List Zq) (now fr:Int):X8B n dev st E (n+1) now fr=[]:=if_neg (by omega)
theorem Xa3 {n:Nat} {E:List Zq} (hE:E.length=n) (dev st:Int) {i:Nat} (hi:i<n+1) (now fr:Int) {X:Zq} (hX:(E++[Zq.mk dev (-1) (Y2.mk 0 0)]).getD i (Zq.mk 0 0 (Y2.mk 0 0))=X) :
    X8B n dev st E i now fr=if X.Device=dev then(if now=st then [⟨fr,i⟩]else [])++X8B n dev st E (i+1) X.State i else X8B n dev st E (i+1) now fr:=by
  by_cases h:i<n
  · have b:X=E[i]:=by
      rw[<-hX,X5 _ _ _ (by rw[List.length_append,List.length_singleton];omega),List.getElem_append_left (by omega)]
    have d:i<=n:=by omega
    have c:i+1<=n:=by omega
    simp only[X8B,d,c,if_true];rw[jb (by omega),X4d,<-b]
  · have a:i=n:=by omega
    subst a;have b:X=Zq.mk dev (-1) (Y2.mk 0 0):=by
      rw[<-hX,X5 _ _ _ (by rw[List.length_append,List.length_singleton];omega),List.getElem_append_right (by omega)]
      simp
    rw[X8o,X8o,b,if_pos rfl];unfold X8B;rw[if_pos (Nat.le_refl _),jd (by omega),X5F,jo]
def X8g (q:Zc) (L:List Con):(Bool×Zc×Bool×Zc×Zc)⊕(Bool×Zc×Bool×Zc×Zc) :=
  if L.isEmpty then .inl (true,q,false,q,q)else .inr (false,q,true,q,q)
theorem X9m (n:Nat) (c:Con):Xm n [] c=if okN n c then [X3S n c]else []:=rfl
theorem X8W (n:Nat) (w:Wit) (ws:List Wit) (c:Con):Xm n (w::ws) c=if okN n c then w.strs.flatMap fun s=>Xm n ws (WE n c s w.a w.b)else []:=rfl
theorem X5w (q:Zc) (n:Nat) (o:q.CoRecord.Entries.length=n) (h10:n<=10) (h8:q.seen.length<=8) (hs:∀x∈q.seen,X4T q.CoRecord x)
    (ih0:((Nat->Y2)×Int×(List Zb)×Zc×Bool×Zc×Zc)->Option ((Bool×Zc×Bool×Zc×Zc)⊕(Bool×Zc×Bool×Zc×Zc))) (l:List Zr) (k:Nat) (hk:k+l.length=q.seen.length) (hd:q.seen.drop k=l)
    (ih:∀x l',l=x::l'->k+1+l'.length=q.seen.length->q.seen.drop (k+1)=l'->∀(u:Nat->Y2) (ap:List Zb),UBd u->ApK n (k+1) ap->∀c,X3C u ap=c->ih0 (u,((k+1:Nat):Int),ap,q,false,q,q)=some (X8g q (Xm n (l'.map (X3y q.CoRecord)) c)))
    (u:Nat->Y2) (ap:List Zb) (r:UBd u) (a:ApK n k ap) (c:Con) (hc:X3C u ap=c) :
    Xb ih0 u (k:Int) ap q false q q=some (X8g q (Xm n (l.map (X3y q.CoRecord)) c)):=by
  cases l with
  | nil =>
    have h:=X8k q u ap r (o▸a) (by omega) (by omega)
    rw[o,hc]at h;unfold Xb;simp only[h,jS,List.map_nil,X9m];have c1:((k:Int)==(q.seen.length:Int))=true:=by simp only[List.length_nil,Nat.add_zero]at hk;simp[hk]
    cases okN n c with
    | false=>rfl
    | true=>simp only[Bool.not_true,jA,c1,jB];rfl
  | cons x l =>
    simp only[List.length_cons]at hk;have h:=X8k q u ap r (o▸a) (by omega) (by omega)
    rw[o,hc]at h;have p:k<q.seen.length:=by omega
    have d:q.seen.drop k=q.seen[k]::q.seen.drop (k+1):=jb p;rw[hd]at d;injection d with hx hl
    have g:X4T q.CoRecord x:=hs x (hx▸jl p);have a0:q.seen.getD k (Zr.mk 0 0 (Y2.mk 0 0))=x:=by rw[X5 _ _ _ p,<-hx]
    have j:=ih x l rfl (by omega) hl.symm
    unfold Xb;simp only[h,jS,jr];show _=some (X8g q (Xm n (X3y q.CoRecord x::l.map (X3y q.CoRecord)) c));rw[X8W];cases hok:okN n c with
    | false=>rfl
    | true =>
      have c1:((k:Int)==(q.seen.length:Int))=false:=X3a (by omega)
      have c2:decide ((k:Int)<(q.seen.length:Int))=true:=by simp;omega
      have c3:decide (0<=x.Device)=true:=by simp[g.dev.1]
      have c4:decide (x.Device<(q.CoRecord.Devices.length:Int))=true:=by simp[g.dev.2]
      have c5:Nat.ble (n*(32+1)) 100000000000000=true:=by rw[Nat.ble_eq];omega
      have c6:Nat.ble ((n+1)*(32+1)) 200000000000000=true:=by rw[Nat.ble_eq];omega
      have c7:Nat.blt 0 4=true:=rfl;have t:(q.CoRecord.Entries++[Zq.mk x.Device (-1) (Y2.mk 0 0)]).length=n+1:=by rw[List.length_append,List.length_singleton,o]
      simp only[Bool.not_true,jA,c1,c2,c3,c4,o,c5,List.length_singleton,c6,c7,z0S,ju,jB,kS,a0,if_true,t];unfold XI;refine Eq.trans (X1V _ _ (n+1) (fun i (b:Int×Zb)=>((i:Int),b.1,b.2,q,false,q,q)) (fun i b => -1<=b.2.from_/\b.2.from_<i)
        (fun i b=>some (X8g q ((X8B n x.Device x.State q.CoRecord.Entries i b.1 b.2.from_).flatMap fun s=>Xm n (l.map (X3y q.CoRecord)) (WE n c (X2c s) x.At.Lo x.At.Hi)))) ?_ ?_ 0
        ((q.CoRecord.Devices.getD x.Device.toNat ⟨ByteArray.empty,0,0⟩).First,⟨-1,0⟩) (by omega) ⟨by simp,by simp⟩) ?_
      · intro b hP R
        have e1:decide (((n+1:Nat):Int)<((n+1:Nat):Int))=false:=by simp
        simp only[X8,X0,e1,jA,X8o];rfl
      · intro i b hi hP R hR
        obtain⟨now,s⟩:=b;obtain⟨v,hP2⟩:=hP;simp only at v hP2;generalize hX:(q.CoRecord.Entries++[Zq.mk x.Device (-1) (Y2.mk 0 0)]).getD i (Zq.mk 0 0 (Y2.mk 0 0))=X;simp only;rw[Xa3 o x.Device x.State hi now s.from_ hX];have e1:decide ((i:Int)<((n+1:Nat):Int))=true:=by simp;omega
        have e3:Nat.blt i (n+1)=true:=by rw[Nat.blt_eq];exact hi
        have w1:=wS i (by omega)
        have w2:=wS k (by omega)
        have w3:IntKind.wrap .i64 (x.At.Lo+1)=x.At.Lo+1:=by have:=g.lo;rw[w64]<;>omega
        have hl2:=a.1;have b1:Nat.ble (ap.length*(16+1)) 100000000000000=true:=by rw[Nat.ble_eq];omega
        have b2:Nat.ble ((ap.length+1)*(16+1)) 200000000000000=true:=by rw[Nat.ble_eq];omega
        have b3:Nat.blt 0 2=true:=rfl;have hxl:=g.lo;have w:=g.hi;simp only[X8,X0,t,e1,e3,z0S,ju,jB,kS,w1,w2,w3,hX,o,b1,b2,b3,List.length_singleton]
        by_cases hdv:X.Device=x.Device
        · have d1:(X.Device != x.Device)=false:=by simp[hdv]
          simp only[d1,jA];rw[if_pos hdv]
          by_cases hnow:now=x.State
          · have d2:(now==x.State)=true:=by simp[hnow]
            simp only[d2,jB];rw[if_pos hnow,List.singleton_append,List.flatMap_cons];generalize hrest:((X8B n x.Device x.State q.CoRecord.Entries (i+1) X.State (i:Int)).flatMap fun s=>Xm n (l.map (X3y q.CoRecord)) (WE n c (X2c s) x.At.Lo x.At.Hi))=rest;have m:R (((i+1:Nat):Int),X.State,Zb.mk (i:Int) (i:Int),q,false,q,q)=some (X8g q rest):=by
              rw[<-hrest];exact hR (X.State,⟨(i:Int),(i:Int)⟩) ⟨by simp only;omega,by simp only;omega⟩
            show _=some (X8g q (Xm n (l.map (X3y q.CoRecord)) (WE n c (s.from_,(i:Int).toNat) x.At.Lo x.At.Hi)++rest));rw[kS]
            by_cases hf:0<=s.from_
            · obtain⟨f,z⟩:=Int.eq_ofNat_of_zero_le hf
              have f1:decide ((f:Int)>=0)=true:=by simp
              have f2:decide ((f:Int)<(10:Int))=true:=by simp;omega
              have f3:Nat.blt f 10=true:=by rw[Nat.blt_eq];omega
              by_cases hin:i<n
              · have g1:decide ((i:Int)<(n:Int))=true:=by simp;omega
                have g2:decide ((i:Int)<(10:Int))=true:=by simp;omega
                have g3:Nat.blt i 10=true:=by rw[Nat.blt_eq];omega
                simp only[z,f1,f2,f3,g1,g2,g3,z0S,kS,ju,jB];rw[j _ _ ?b1h1 ?b1h2 (WE n c ((f:Int),i) x.At.Lo x.At.Hi) ?b1h3]
                case b1h1=>exact(r.hi f w).lo i (by omega)
                case b1h2=>exact a.add (by omega) hin
                case b1h3=>rw[<-hc];exact X9R u ap hin x.At.Lo x.At.Hi
                generalize Xm n (l.map (X3y q.CoRecord)) (WE n c ((f:Int),i) x.At.Lo x.At.Hi)=L1;cases L1 with
                | nil=>exact m
                | cons y ys=>rfl
              · have g1:decide ((i:Int)<(n:Int))=false:=by simp;omega
                simp only[z,f1,f2,f3,g1,z0S,kS,ju,jB,jA];rw[j _ _ ?b2h1 ?b2h2 (WE n c ((f:Int),i) x.At.Lo x.At.Hi) ?b2h3]
                case b2h1=>exact r.hi f w
                case b2h2=>exact a.keep
                case b2h3=>rw[<-hc];exact Xam u ap hin x.At.Lo x.At.Hi
                generalize Xm n (l.map (X3y q.CoRecord)) (WE n c ((f:Int),i) x.At.Lo x.At.Hi)=L1;cases L1 with
                | nil=>exact m
                | cons y ys=>rfl
            · have f1:decide (s.from_>=0)=false:=by simp;omega
              by_cases hin:i<n
              · have g1:decide ((i:Int)<(n:Int))=true:=by simp;omega
                have g2:decide ((i:Int)<(10:Int))=true:=by simp;omega
                have g3:Nat.blt i 10=true:=by rw[Nat.blt_eq];omega
                simp only[f1,g1,g2,g3,z0S,kS,ju,jB,jA];rw[j _ _ ?b3h1 ?b3h2 (WE n c (s.from_,i) x.At.Lo x.At.Hi) ?b3h3]
                case b3h1=>exact r.lo i (by omega)
                case b3h2=>exact a.keep
                case b3h3=>rw[<-hc];exact Xan u ap hf hin x.At.Lo x.At.Hi
                generalize Xm n (l.map (X3y q.CoRecord)) (WE n c (s.from_,i) x.At.Lo x.At.Hi)=L1;cases L1 with
                | nil=>exact m
                | cons y ys=>rfl
              · have g1:decide ((i:Int)<(n:Int))=false:=by simp;omega
                simp only[f1,g1,z0S,kS,ju,jB,jA];rw[j _ _ ?b4h1 ?b4h2 (WE n c (s.from_,i) x.At.Lo x.At.Hi) ?b4h3]
                case b4h1=>exact r
                case b4h2=>exact a.keep
                case b4h3=>rw[<-hc];exact Xao u ap hf hin x.At.Lo x.At.Hi
                generalize Xm n (l.map (X3y q.CoRecord)) (WE n c (s.from_,i) x.At.Lo x.At.Hi)=L1;cases L1 with
                | nil=>exact m
                | cons y ys=>rfl
          · have d2:(now==x.State)=false:=X3a hnow
            simp only[d2,jA];rw[if_neg hnow,List.nil_append];exact hR (X.State,⟨(i:Int),(i:Int)⟩) ⟨by simp only;omega,by simp only;omega⟩
        · have d1:(X.Device != x.Device)=true:=X3g hdv
          simp only[d1,jB];rw[if_neg hdv];exact hR (now,s) ⟨v,by simp only;omega⟩
      · simp only[if_true]
        show some (X8g q ((X8B n x.Device x.State q.CoRecord.Entries 0 (q.CoRecord.Devices.getD x.Device.toNat ⟨ByteArray.empty,0,0⟩).First (-1)).flatMap fun s=>Xm n (l.map (X3y q.CoRecord)) (WE n c (X2c s) x.At.Lo x.At.Hi)))=_;have e:X8B n x.Device x.State q.CoRecord.Entries 0 (q.CoRecord.Devices.getD x.Device.toNat ⟨ByteArray.empty,0,0⟩).First (-1)=X3e q.CoRecord x:=if_pos (Nat.zero_le _);rw[e];show _=some (X8g q (((X3e q.CoRecord x).map X2c).flatMap fun s=>Xm n (l.map (X3y q.CoRecord)) (WE n c s x.At.Lo x.At.Hi)));rw[List.flatMap_map]
theorem X6y (q:Zc) (n:Nat) (e:q.CoRecord.Entries.length=n) (a:n<=10) (b:q.seen.length<=8) (d:∀x∈q.seen,X4T q.CoRecord x) :
    ∀(l:List Zr) (k:Nat),k+l.length=q.seen.length->q.seen.drop k=l->∀(u:Nat->Y2) (ap:List Zb),UBd u->ApK n k ap->∀c,X3C u ap=c →
      Z9E X2 (l.length+1) (u,(k:Int),ap,q,false,q,q)=some (X8g q (Xm n (l.map (X3y q.CoRecord)) c))
  | [],k,hk,hd,u,ap,hu,hap,c,hc=>X5w q n e a b d (Z9E X2 0) [] k hk hd (fun _ _ h=>by cases h) u ap hu hap c hc
  | x::l,k,hk,hd,u,ap,hu,hap,c,hc=>X5w q n e a b d (Z9E X2 (l.length+1)) (x::l) k hk hd (fun x' l' h g f=>by
      injection h with _ h
      subst h;exact X6y q n e a b d l (k+1) g f) u ap hu hap c hc
theorem X8D (q:Zc) (n:Nat) (i:q.CoRecord.Entries.length=n) (a:n<=10) (c:q.seen.length<=8) (e:∀x∈q.seen,X4T q.CoRecord x) (k:Nat) (j:k<=q.seen.length) (u:Nat->Y2) (ap:List Zb) (d:UBd u) (b:ApK n k ap) :
    XX (u,(k:Int),ap,q,false,q,q)=some (X8g q (Xm n ((q.seen.drop k).map (X3y q.CoRecord)) (X3C u ap))) :=
  X74 (fun f g h x r hr=>X8t f g h x r hr) (X6y q n i a c e (q.seen.drop k) k (by rw[List.length_drop];omega) rfl u ap d b _ rfl)
end Nore
open Go Go.Ab
namespace Nore
theorem X8C (q:Zc) (n:Nat) (g:q.CoRecord.Entries.length=n) (a:n<=10) (f:q.seen.length<=8) (b:∀x∈q.seen,X4T q.CoRecord x) (u:Nat->Y2) (d:UBd u) :
    XW (u,0,q,false,q,q)=some (X8g q (Xm n (q.seen.map (X3y q.CoRecord)) (X3C u []))):=by
  rw[X2o];exact X5w q n g a f b XX q.seen 0 (by omega) rfl (fun x l' h j i u ap d e c hc=>by
    rw[X8D q n g a f b 1 (by omega) u ap d e,hc,i]) u [] d ⟨Nat.le_refl _,fun s b=>by cases b⟩ _ rfl
def X1M (r:CoRecord):Nat->Y2:=fun j=>(r.Entries.getD j (Zq.mk 0 0 (Y2.mk 0 0))).At
theorem Xad {r:CoRecord} (h:X7X r):UBd (X1M r):=fun i=>by
  unfold X1M
  by_cases hi:i<r.Entries.length
  · rw[X5 _ _ _ hi]
    exact h.2 _ (jl hi)
  · have:r.Entries.getD i (Zq.mk 0 0 (Y2.mk 0 0))=Zq.mk 0 0 (Y2.mk 0 0):=by simp[List.getD,List.getElem?_eq_none (by omega:r.Entries.length<=i)]
    rw[this];simp
theorem Xab (r:CoRecord) (g:r.Entries.length<=10) (x3 x4:Zc) (x6:Bool) (x7:Zc) :
    XY r.Entries (r.Entries.length:Int) x3 x4 x6 x7 (0,fun _=>Y2.mk 0 0)=some (X1M r):=by
  obtain⟨w,f,d⟩:=XA (Xc r.Entries (r.Entries.length:Int) x3 x4 x6 x7) r.Entries.length (fun i (b:Nat->Y2)=>((i:Int),b))
    (fun i b=>∀j,b j=if j<i then X1M r j else Y2.mk 0 0) (fun w=>w=X1M r)
    (fun b c=>⟨b,by simp[Xc,Xl],funext fun j=>by
      rw[c j];split
      · rfl
      · rename_i h
        unfold X1M;rw[show r.Entries.getD j (Zq.mk 0 0 (Y2.mk 0 0))=Zq.mk 0 0 (Y2.mk 0 0) by simp[List.getD,List.getElem?_eq_none (by omega:r.Entries.length<=j)]]⟩)
    (fun i b hi c=>by
      right;have e1:decide ((i:Int)<(r.Entries.length:Int))=true:=by simp;omega
      have e2:decide ((i:Int)<(10:Int))=true:=by simp;omega
      have e3:Nat.blt i 10=true:=by rw[Nat.blt_eq];omega
      have w1:=wS i (by omega)
      simp only[Xc,Xl,e1,e2,e3,z0S,kS,ju,jB,w1];refine⟨_,rfl,fun j=>?_⟩;cases e:Nat.beq j i with
      | true =>
        have:=je e;subst this;rw[if_pos (by omega)];rfl
      | false =>
        have:=Nat.ne_of_beq_eq_false e;simp only[jA];rw[c j]
        by_cases h:j<i
        · rw[if_pos h,if_pos (by omega)]
        · rw[if_neg h,if_neg (by omega)]) 0 (fun _=>Y2.mk 0 0) (Nat.zero_le _) (fun j=>by simp)
  have a:XY r.Entries (r.Entries.length:Int) x3 x4 x6 x7 (0,fun _=>Y2.mk 0 0)=some w:=f;rw[a,d]
theorem X7O (q:Zc) (h:X7X q.CoRecord) (a:q.seen.length<=8) (b:∀x∈q.seen,X4T q.CoRecord x) :
    X6 q=some (!(Xm q.CoRecord.Entries.length (q.seen.map (X3y q.CoRecord)) (X3C (X1M q.CoRecord) [])).isEmpty):=by
  rw[X4g];unfold Wl;rw[X2Y];unfold XH;simp only[Xab q.CoRecord h.1,jS];rw[X8C q _ rfl h.1 a b _ (Xad h)];simp only[jS];generalize Xm q.CoRecord.Entries.length (q.seen.map (X3y q.CoRecord)) (X3C (X1M q.CoRecord) [])=L;cases L with
  | nil=>rfl
  | cons y ys=>rfl
end Nore
open Go Go.Ab
namespace Nore
end Nore
open Go Go.Ab
namespace Nore
end Nore
open Go Go.Ab
namespace Nore
end Nore
open Go Go.Ab
namespace Nore
theorem Xa8 {α β:Type} {R:α->β->Prop}:∀{L:List α} {M:List β},X8Q R L M->L.isEmpty=M.isEmpty
  | [],[],_=>rfl
  | _::_,_::_,_=>rfl
  | [],_::_,h=>h.elim
  | _::_,[],h=>h.elim
structure X61 (r:CoRecord) (l:List Zr):Prop where
  ent:X7X r
  many:l.length<=8
  seen:∀x∈l,X4T r x
theorem X9J (r:CoRecord) (l:List Zr):∀w∈l.map (X3y r),X9e r.Entries.length w:=fun w a=>by
  obtain⟨x,_,rfl⟩:=List.mem_map.1 a;intro s b;obtain⟨t,ht,rfl⟩:=List.mem_map.1 b;exact((X9v x rfl).2 t ht).2
theorem X9j (r:CoRecord):EqC r.Entries.length (X3C (X1M r) []) (XF (X42 r)):=by
  have e:∀i,i<r.Entries.length->(X3C (X1M r) []).lo i=(XF (X42 r)).lo i/\(X3C (X1M r) []).hi i=(XF (X42 r)).hi i:=fun i hi=>by
    show((r.Entries.getD i (Zq.mk 0 0 (Y2.mk 0 0))).At).Lo=(r.Entries.map (·.At.Lo)).getD i 0/\((r.Entries.getD i (Zq.mk 0 0 (Y2.mk 0 0))).At).Hi=(r.Entries.map (·.At.Hi)).getD i 0;rw[X5 _ _ _ hi,X5 _ _ _ (by simpa using hi),X5 _ _ _ (by simpa using hi)]
    simp
  constructor
  · intro x
    unfold UpN;constructor
    · rintro⟨b,a,c⟩;exact⟨fun i hi=>(e i hi).1▸b i hi,a,c⟩
    · rintro⟨b,a,c⟩;exact⟨fun i hi=>(e i hi).1.symm▸b i hi,a,c⟩
  · intro x
    unfold DnN;constructor
    · rintro⟨b,a,c⟩;exact⟨fun i hi=>(e i hi).2▸b i hi,a,c⟩
    · rintro⟨b,a,c⟩;exact⟨fun i hi=>(e i hi).2.symm▸b i hi,a,c⟩
def X9i (r:CoRecord) (l:List Zr):List Con:=Xm r.Entries.length (l.map (X3y r)) (X3C (X1M r) [])
theorem Xa9 (r:CoRecord) (l:List Zr):X8Q (Xar r.Entries.length) (X9i r l) (X2h r.Entries.length (l.map (X3y r)) (XF (X42 r))) :=
  X7E _ _ _ (X9J r l) (fun p a=>by cases a) (fun p a=>by cases a) (X9j r)
theorem X50 {r:CoRecord} {l:List Zr} (h:X61 r l):X6 ⟨r,l⟩=some (!(X9i r l).isEmpty):=X7O ⟨r,l⟩ h.ent h.many h.seen
theorem X59 {r:CoRecord} {l:List Zr} (h:X61 r l):X1j r l=some (!(X9i r l).isEmpty):=by
  rw[X8e h.ent h.seen h.many,Xa8 (Xa9 r l)]
end Nore
open Go Go.Ab
namespace Nore
theorem X1a (lo up:Int) (l:List Int) (g:l.length<1000000):Wf lo up l=some (X1F lo up l):=by
  rw[X5y];unfold X23;have key:=X1V (WG (↑l.length) l up lo) (fun o3=>Sum.elim (fun y4:Int=>some (decide (y4>=0))) (fun _=>some (decide ((-1:Int)>=0))) o3) l.length (fun i (_:Unit)=>(i:Int)) (fun _ _=>True) (fun i _=>some (X1F lo up (l.drop i)))
    (by
      intro b _ R;simp[WG,WO,X7g])
    (by
      intro i b hi _ R e;have a:=e () trivial;simp only[WG,WO];rw[jb hi];simp only[kS,X5 _ _ _ hi,X6E];have c:=wS i (by omega)
      rw[c];have f:decide ((i:Int)<↑l.length)=true:=by simp[hi]
      have d:=z0S i;simp only[f,d,ju,jB]
      by_cases h3:l[i]<lo
      · simp[h3]
      · by_cases h4:l[i]>up
        · simp[h3,h4]
        · simp[h3,h4];exact a)
  exact(key 0 () (by omega) trivial).trans (by simp)
theorem X4O (n lo hi:Int):X4C n lo hi=some (inN n lo hi):=by
  rw[X7G];unfold X4j inN
  by_cases h:lo<=n<;>simp[h]
def XQ (r:CoRecord) (dev st:Int) (s:Y2):Int :=
  if X1F 0 ((r.Devices.length:Int)-1) [dev]then 4 else
  if X1F 0 (IntKind.wrap .i64 ((r.Devices.getD dev.toNat (Zm.mk ByteArray.empty 0 0)).States-1)) [st]then 7 else
  if X1F 0 9999 [s.Lo,s.Hi]then 7 else if s.Lo>s.Hi then 2 else 0
theorem X3v {lo hi n:Int} (h:X1F lo hi [n]=false):lo<=n/\n<=hi:=by
  simp only[X6E,X7g,Bool.or_false,Bool.or_eq_false_iff,decide_eq_false_iff_not]at h;omega
theorem X9E {lo hi n m:Int} (h:X1F lo hi [n,m]=false):lo<=n/\n<=hi/\lo<=m/\m<=hi:=by
  simp only[X6E,X7g,Bool.or_false,Bool.or_eq_false_iff,decide_eq_false_iff_not]at h;omega
theorem X4Z (r:CoRecord) (x:Zr) (hr:r.Devices.length<=1000000):X4s r x=some (XQ r x.Device x.State x.At):=by
  rw[X6N];unfold X3j;have w1:IntKind.wrap .i64 ((r.Devices.length:Int)-1)=(r.Devices.length:Int)-1:=by rw[w64]<;>omega
  rw[w1,X1a _ _ _ (by simp)]
  simp only[jS];unfold XQ;cases h1:X1F 0 ((r.Devices.length:Int)-1) [x.Device]with
  | true=>rfl
  | false =>
    have h:=X3v h1;have c1:decide (0<=x.Device)=true:=by simp[h.1]
    have c2:decide (x.Device<(r.Devices.length:Int))=true:=by simp;omega
    simp only[jA,c1,c2,ju,jB];rw[X1a _ _ _ (by simp)]
    simp only[jS];cases h2:X1F 0 (IntKind.wrap .i64 ((r.Devices.getD x.Device.toNat (Zm.mk ByteArray.empty 0 0)).States-1)) [x.State]with
    | true=>rfl
    | false =>
      simp only[jA];rw[X1a _ _ _ (by simp)]
      simp only[jS];cases h3:X1F 0 9999 [x.At.Lo,x.At.Hi]with
      | true=>rfl
      | false=>by_cases h4:x.At.Lo>x.At.Hi<;>simp[h4]
theorem X6s (r:CoRecord) (dev st:Int) (s:Y2) (hr:r.Devices.length<=1000000):X58 r dev st s=some (XQ r dev st s):=by
  rw[X6Y];unfold X3o;have w1:IntKind.wrap .i64 ((r.Devices.length:Int)-1)=(r.Devices.length:Int)-1:=by rw[w64]<;>omega
  rw[w1,X4O,X6D];simp only[jS];unfold XQ;cases h1:X1F 0 ((r.Devices.length:Int)-1) [dev]with
  | true=>rfl
  | false =>
    have h:=X3v h1;have c1:decide (0<=dev)=true:=by simp[h.1]
    have c2:decide (dev<(r.Devices.length:Int))=true:=by simp;omega
    simp only[Bool.not_false,Bool.not_true,jA,c1,c2,ju,jB];rw[X4O,X6D];simp only[jS];cases h2:X1F 0 (IntKind.wrap .i64 ((r.Devices.getD dev.toNat (Zm.mk ByteArray.empty 0 0)).States-1)) [st]with
    | true=>rfl
    | false =>
      simp only[Bool.not_false,Bool.not_true,jA];unfold X5l;rw[X7P _ _ _ (by simp)]
      simp only[jS,X6H];cases h3:X1F 0 9999 [s.Lo,s.Hi]with
      | true=>rfl
      | false=>by_cases h4:s.Lo>s.Hi<;>simp[h4]
def X1E {α:Type} (f:Nat->α->Int):Nat->List α->Int×Int
  | _,[]=>(0,0)
  | i,x::xs=>if f i x≠0 then((i:Int),f i x)else X1E f (i+1) xs
theorem X2A {α:Type} (f:Nat->α->Int) (i:Nat) (x:α) (xs:List α):X1E f i (x::xs)=if f i x≠0 then((i:Int),f i x)else X1E f (i+1) xs:=rfl
def Xo:Int->Nat->List Zq->Int×Int
  | _,_,[]=>(0,0)
  | least,i,x::xs=>if(if x.At.Lo>least then x.At.Lo else least)>x.At.Hi then((i:Int),9)else Xo (if x.At.Lo>least then x.At.Lo else least) (i+1) xs
theorem X4z (least:Int) (i:Nat) (x:Zq) (xs:List Zq):Xo least i (x::xs)=if(if x.At.Lo>least then x.At.Lo else least)>x.At.Hi then((i:Int),9)else Xo (if x.At.Lo>least then x.At.Lo else least) (i+1) xs:=rfl
def X8w (names:List ByteArray) (d:Zm):Int :=
  if X6f d.Name names≠0 then X6f d.Name names else if X1F 2 4 [d.States]||X1F 0 (IntKind.wrap .i64 (d.States-1)) [d.First]then 7 else 0
def X49 (r:CoRecord):Int×Int:=X1E (fun i d=>X8w ((r.Devices.take i).map (·.Name)) d) 0 r.Devices
def X3b (r:CoRecord):Int×Int:=X1E (fun _ x=>XQ r x.Device x.State x.At) 0 r.Entries
def WX (r:CoRecord):Int×Int×Int :=
  if X1F 1 4 [(r.Devices.length:Int)]||decide ((r.Entries.length:Int)>10)then(1,0,3)else
  if(X49 r).2≠0 then(2,(X49 r).1,(X49 r).2)else
  if(X3b r).2≠0 then(3,(X3b r).1,(X3b r).2)else
  if(Xo 0 0 r.Entries).2≠0 then(3,(Xo 0 0 r.Entries).1,(Xo 0 0 r.Entries).2)else(0,0,0)
def Wp (r:CoRecord) (l:List Zr):Int×Int :=
  if(WX r).2.2≠0 then(0,(WX r).2.2)else if(l.length:Int)>4 then(0,3)else X1E (fun _ x=>XQ r x.Device x.State x.At) 0 l
theorem X7q (r:CoRecord) (d:r.Devices.length<=1000000) (f:r.Entries.length<=1000000):W2 (r.Entries,r)=some ((X3b r).1,(X3b r).2,r):=by
  rw[X2w];unfold Xs Wu;refine Eq.trans (X1V _ _ r.Entries.length (fun i (_:Unit)=>(i:Int)) (fun _ _=>True) (fun i _=>some ((X1E (fun _ x=>XQ r x.Device x.State x.At) i (r.Entries.drop i)).1,(X1E (fun _ x=>XQ r x.Device x.State x.At) i (r.Entries.drop i)).2,r)) ?_ ?_ 0 () (Nat.zero_le _) trivial) rfl
  · intro b _ R
    have e1:decide ((r.Entries.length:Int)<(r.Entries.length:Int))=false:=by simp
    simp only[Xn,Xh,e1,jA,List.drop_length];rfl
  · intro i b hi _ R c
    have a:=c () trivial;have e1:decide ((i:Int)<(r.Entries.length:Int))=true:=by simp[hi]
    have w1:=wS i (by omega)
    rw[jb hi,X2A];simp only[Xn,Xh,e1,z0S,kS,ju,jB,X5 _ _ _ hi,X4Z r _ d,jS,w1];generalize XQ r r.Entries[i].Device r.Entries[i].State r.Entries[i].At=e
    by_cases he:e=0
    · have c1:(e != 0)=false:=by simp[he]
      simp only[c1,jA,if_neg (fun h:e≠0=>h he)];exact a
    · have c1:(e != 0)=true:=X3g he
      simp only[c1,jB,if_pos he];rfl
theorem X7r (r:CoRecord) (l:List Zr) (d:r.Devices.length<=1000000) (f:l.length<=1000000):W9 (l,r)=some ((X1E (fun _ (x:Zr)=>XQ r x.Device x.State x.At) 0 l).1,(X1E (fun _ (x:Zr)=>XQ r x.Device x.State x.At) 0 l).2,r):=by
  rw[X2W];unfold XG Wz;refine Eq.trans (X1V _ _ l.length (fun i (_:Unit)=>(i:Int)) (fun _ _=>True) (fun i _=>some ((X1E (fun _ (x:Zr)=>XQ r x.Device x.State x.At) i (l.drop i)).1,(X1E (fun _ (x:Zr)=>XQ r x.Device x.State x.At) i (l.drop i)).2,r)) ?_ ?_ 0 () (Nat.zero_le _) trivial) rfl
  · intro b _ R
    have e1:decide ((l.length:Int)<(l.length:Int))=false:=by simp
    simp only[Xq,Xk,e1,jA,List.drop_length];rfl
  · intro i b hi _ R c
    have a:=c () trivial;have e1:decide ((i:Int)<(l.length:Int))=true:=by simp[hi]
    have w1:=wS i (by omega)
    rw[jb hi,X2A];simp only[Xq,Xk,e1,z0S,kS,ju,jB,X5 _ _ _ hi,X4Z r _ d,jS,w1];generalize XQ r l[i].Device l[i].State l[i].At=e
    by_cases he:e=0
    · have c1:(e != 0)=false:=by simp[he]
      simp only[c1,jA,if_neg (fun h:e≠0=>h he)];exact a
    · have c1:(e != 0)=true:=X3g he
      simp only[c1,jB,if_pos he];rfl
theorem X7a (l:List Zq) (g:l.length<=1000000):∃q,W3 (l,0)=some ((Xo 0 0 l).1,(Xo 0 0 l).2,q):=by
  rw[X2y];unfold Xt Wv;simp only
  let k:((Int×Int×Int×Zq×Zq)⊕Int)->Option (Int×Int×Int):=fun o41=>Sum.elim (fun y42=>some (y42.snd.fst,y42.fst,y42.snd.snd.fst)) (fun y43=>some (0,0,y43)) o41
  obtain⟨w,e,d⟩:=XA (X4 l (l.length:Int)) l.length (fun i (b:Int)=>((i:Int),b)) (fun i b=>Xo b i (l.drop i)=Xo 0 0 l) (fun w=>∃q,k w=some ((Xo 0 0 l).1,(Xo 0 0 l).2,q))
    (fun b a=>by
      have e1:decide ((l.length:Int)<(l.length:Int))=false:=by simp
      simp only[X4,Xi,e1,jA];refine⟨_,rfl,b,?_⟩;rw[List.drop_length]at a;rw[<-a];rfl)
    (fun i b hi a=>by
      have e1:decide ((i:Int)<(l.length:Int))=true:=by simp[hi]
      have w1:=wS i (by omega)
      rw[jb hi,X4z]at a;have f:(bif decide (l[i].At.Lo>b)then l[i].At.Lo else b)=(if l[i].At.Lo>b then l[i].At.Lo else b):=by by_cases h:l[i].At.Lo>b<;>simp[h]
      simp only[X4,Xi,e1,z0S,kS,ju,jB,X5 _ _ _ hi,w1,f]
      by_cases hc:(if l[i].At.Lo>b then l[i].At.Lo else b)>l[i].At.Hi
      · left
        rw[if_pos hc]at a;simp only[hc,decide_true,jB];refine⟨_,rfl,(if l[i].At.Lo>b then l[i].At.Lo else b),?_⟩;rw[<-a];rfl
      · right
        rw[if_neg hc]at a;simp only[hc,decide_false,jA];exact⟨_,rfl,a⟩) 0 0 (Nat.zero_le _) rfl
  have c:Z8I (X4 l (l.length:Int)) (0,0)=some w:=e;rw[c];exact d
theorem X83 (l:List Zm) (j:l.length<=1000000) (d:Zm) :
    (∃(i:Nat) (y:Zm),Xg (l.length:Int) l d 0=some (.inl ((i:Int),y))/\d.Name∈l.map (·.Name))\/(Xg (l.length:Int) l d 0=some (.inr ())/\¬d.Name∈l.map (·.Name)):=by
  obtain⟨w,f,e⟩:=XA (X7 (l.length:Int) l d) l.length (fun i (_:Unit)=>(i:Int)) (fun i _=>∀x∈l.take i,x.Name≠d.Name)
    (fun w=>(∃(i:Nat) (y:Zm),w=.inl ((i:Int),y)/\d.Name∈l.map (·.Name))\/(w=.inr ()/\¬d.Name∈l.map (·.Name)))
    (fun _ c=>by
      have e1:decide ((l.length:Int)<(l.length:Int))=false:=by simp
      simp only[X7,Xf,e1,jA];refine⟨_,rfl,.inr ⟨rfl,fun h=>?_⟩⟩;obtain⟨x,a,g⟩:=List.mem_map.1 h;rw[List.take_length]at c;exact c x a g)
    (fun i _ hi c=>by
      have e1:decide ((i:Int)<(l.length:Int))=true:=by simp[hi]
      have w1:=wS i (by omega)
      simp only[X7,Xf,e1,z0S,kS,ju,jB,X5 _ _ _ hi,w1]
      by_cases hn:l[i].Name=d.Name
      · left
        have c1:(l[i].Name.toList==d.Name.toList)=true:=by rw[hn];simp
        simp only[c1,jB];exact⟨_,rfl,.inl ⟨i,_,rfl,List.mem_map.2 ⟨l[i],jl hi,hn⟩⟩⟩
      · right
        have c1:(l[i].Name.toList==d.Name.toList)=false:=beq_eq_false_iff_ne.2 fun h=>hn (X8s h);simp only[c1,jA];refine⟨(),by first|rfl|trivial,fun x a=>?_⟩
        rw[List.take_succ_eq_append_getElem hi]at a;rcases List.mem_append.1 a with q|q
        · exact c x q
        · rw[List.mem_singleton.1 q];exact hn) 0 () (Nat.zero_le _) (fun x a=>by simp at a)
  have b:Xg (l.length:Int) l d 0=some w:=f;rcases e with⟨i,y,rfl,h⟩|⟨rfl,h⟩
  · exact .inl ⟨i,y,b,h⟩
  · exact .inr ⟨b,h⟩
theorem X7p (r:CoRecord) (k:r.Devices.length<=1000000):XV (r.Devices,r)=some ((X49 r).1,(X49 r).2,r):=by
  rw[X2m];unfold Xp Wi;refine Eq.trans (X1V _ _ r.Devices.length (fun i (_:Unit)=>(i:Int)) (fun _ _=>True) (fun i _=>some ((X1E (fun i d=>X8w ((r.Devices.take i).map (·.Name)) d) i (r.Devices.drop i)).1,(X1E (fun i d=>X8w ((r.Devices.take i).map (·.Name)) d) i (r.Devices.drop i)).2,r)) ?_ ?_ 0 () (Nat.zero_le _) trivial) rfl
  · intro b _ R
    have e1:decide ((r.Devices.length:Int)<(r.Devices.length:Int))=false:=by simp
    simp only[Xj,Xe,e1,jA,List.drop_length];rfl
  · intro i b hi _ R h
    have g:=h () trivial;have e1:decide ((i:Int)<(r.Devices.length:Int))=true:=by simp[hi]
    have e2:decide ((i:Int)<=(r.Devices.length:Int))=true:=by simp;omega
    have w1:=wS i (by omega)
    rw[jb hi,X2A];simp only[Xj,Xe,e1,e2,z0S,kS,ju,jB,X5 _ _ _ hi,X8u,jS,w1,List.drop_zero];generalize r.Devices[i]=d;have c:X8w ((r.Devices.take i).map (·.Name)) d=if X6Q d.Name then(if d.Name∈(r.Devices.take i).map (·.Name)then 5 else if X1F 2 4 [d.States]||X1F 0 (IntKind.wrap .i64 (d.States-1)) [d.First]then 7 else 0)else 6:=by
      unfold X8w X6f;generalize (r.Devices.take i).map (·.Name)=names;cases q1:X6Q d.Name with
      | false=>rfl
      | true =>
        by_cases q2:d.Name∈names
        · simp only[q2,if_true];rfl
        · simp only[q2,if_true,if_false];rfl
    rw[c];cases hn:X6Q d.Name with
    | false=>rfl
    | true =>
      simp only[Bool.not_true,jA,if_true];have a:(r.Devices.take i).length<=1000000:=by rw[List.length_take];omega
      rcases X83 (r.Devices.take i) a d with⟨j,y,f,e⟩|⟨f,e⟩
      · have c1:decide ((j:Int)>=0)=true:=by simp
        simp only[f,jS,jw,c1,jB,if_pos e];rfl
      · simp only[f,jS,jy,if_neg e]
        rw[X1a _ _ _ (by simp),X1a _ _ _ (by simp)]
        simp only[jS];cases q1:X1F 2 4 [d.States]with
        | true=>rfl
        | false =>
          cases q2:X1F 0 (IntKind.wrap .i64 (d.States-1)) [d.First]with
          | true=>rfl
          | false=>exact g
theorem X7M (r:CoRecord):X5f r=some (WX r):=by
  rw[X65];unfold X2T;rw[X1a _ _ _ (by simp)]
  simp only[jS];unfold WX;cases q1:X1F 1 4 [(r.Devices.length:Int)]with
  | true=>rfl
  | false =>
    have d:=X3v q1;have b:r.Devices.length<=1000000:=by omega
    by_cases q2:(r.Entries.length:Int)>10
    · simp only[jA,q2,decide_true,jB,Bool.false_or,if_true]
    · have a:r.Entries.length<=1000000:=by omega
      simp only[jA,q2,decide_false,Bool.false_or,X7p r b,jS];simp only[jg,if_false]
      by_cases q3:(X49 r).2=0
      · have c3:((X49 r).2 != 0)=false:=by simp[q3]
        simp only[c3,jA,X7q r b a,jS,if_neg (fun h:(X49 r).2≠0=>h q3)]
        by_cases q4:(X3b r).2=0
        · have c4:((X3b r).2 != 0)=false:=by simp[q4]
          obtain⟨q,c⟩:=X7a r.Entries a;simp only[c4,jA,c,jS,if_neg (fun h:(X3b r).2≠0=>h q4)]
          by_cases q5:(Xo 0 0 r.Entries).2=0
          · have c5:((Xo 0 0 r.Entries).2 != 0)=false:=by simp[q5]
            simp only[c5,jA,if_neg (fun h:(Xo 0 0 r.Entries).2≠0=>h q5)]
          · have c5:((Xo 0 0 r.Entries).2 != 0)=true:=X3g q5
            simp only[c5,jB,if_pos q5]
        · have c4:((X3b r).2 != 0)=true:=X3g q4
          simp only[c4,jB,if_pos q4]
      · have c3:((X49 r).2 != 0)=true:=X3g q3
        simp only[c3,jB,if_pos q3]
end Nore
open Go Go.Ab
namespace Nore
theorem X7Q (r:CoRecord):X5m r=some (WX r):=by
  rw[X6k];unfold X30;rw[X4O,X6D];simp only[jS];unfold WX;cases q1:X1F 1 4 [(r.Devices.length:Int)]with
  | true=>rfl
  | false =>
    have n:=X3v q1;have q:r.Devices.length<=4:=by omega
    by_cases q2:(r.Entries.length:Int)>10
    · simp only[Bool.not_false,Bool.not_true,jA,q2,decide_true,jB,Bool.false_or,if_true]
    · have p:r.Entries.length<=10:=by omega
      simp only[Bool.not_false,Bool.not_true,jA,q2,decide_false,Bool.false_or,jg,if_false];unfold X3X;refine Eq.trans (X1V _ _ r.Devices.length (fun i (b:List ByteArray)=>((i:Int),b)) (fun i b=>b=(r.Devices.take i).map (·.Name))
        (fun i _=>if(X1E (fun i d=>X8w ((r.Devices.take i).map (·.Name)) d) i (r.Devices.drop i)).2≠0 then some (2,(X1E (fun i d=>X8w ((r.Devices.take i).map (·.Name)) d) i (r.Devices.drop i)).1,(X1E (fun i d=>X8w ((r.Devices.take i).map (·.Name)) d) i (r.Devices.drop i)).2)else
          some (if(X3b r).2≠0 then(3,(X3b r).1,(X3b r).2)else if(Xo 0 0 r.Entries).2≠0 then(3,(Xo 0 0 r.Entries).1,(Xo 0 0 r.Entries).2)else(0,0,0))) ?_ ?_ 0 [] (Nat.zero_le _) rfl) ?_
      · intro b _ R
        have e1:decide ((r.Devices.length:Int)<(r.Devices.length:Int))=false:=by simp
        simp only[X24,X1s,e1,jA,List.drop_length];show Option.bind (X2L r 0) _=some (if(X3b r).2≠0 then(3,(X3b r).1,(X3b r).2)else if(Xo 0 0 r.Entries).2≠0 then(3,(Xo 0 0 r.Entries).1,(Xo 0 0 r.Entries).2)else(0,0,0));unfold X2L;refine Eq.trans (X1V _ _ r.Entries.length (fun i (_:Unit)=>(i:Int)) (fun _ _=>True)
          (fun i _=>some (if(X1E (fun _ (x:Zq)=>XQ r x.Device x.State x.At) i (r.Entries.drop i)).2≠0 then(3,(X1E (fun _ (x:Zq)=>XQ r x.Device x.State x.At) i (r.Entries.drop i)).1,(X1E (fun _ (x:Zq)=>XQ r x.Device x.State x.At) i (r.Entries.drop i)).2)else if(Xo 0 0 r.Entries).2≠0 then(3,(Xo 0 0 r.Entries).1,(Xo 0 0 r.Entries).2)else(0,0,0))) ?_ ?_ 0 () (Nat.zero_le _) trivial) rfl
        · intro b _ R
          have e1:decide ((r.Entries.length:Int)<(r.Entries.length:Int))=false:=by simp
          simp only[X25,X1t,e1,jA,List.drop_length];show Option.bind (X2M r (0,0)) _=some (if(Xo 0 0 r.Entries).2≠0 then(3,(Xo 0 0 r.Entries).1,(Xo 0 0 r.Entries).2)else(0,0,0));unfold X2M;refine Eq.trans (X1V _ _ r.Entries.length (fun i (b:Int)=>((i:Int),b)) (fun _ _=>True)
            (fun i b=>some (if(Xo b i (r.Entries.drop i)).2≠0 then(3,(Xo b i (r.Entries.drop i)).1,(Xo b i (r.Entries.drop i)).2)else(0,0,0))) ?_ ?_ 0 0 (Nat.zero_le _) trivial) rfl
          · intro b _ R
            simp only[X26,X1u,e1,jA,List.drop_length];rfl
          · intro i b hi _ R c
            have e1:decide ((i:Int)<(r.Entries.length:Int))=true:=by simp[hi]
            have w1:=wS i (by omega)
            have o:(bif decide (r.Entries[i].At.Lo>b)then r.Entries[i].At.Lo else b)=(if r.Entries[i].At.Lo>b then r.Entries[i].At.Lo else b):=by by_cases h:r.Entries[i].At.Lo>b<;>simp[h]
            rw[jb hi,X4z];simp only[X26,X1u,e1,z0S,kS,ju,jB,X5 _ _ _ hi,w1,o]
            by_cases hc:(if r.Entries[i].At.Lo>b then r.Entries[i].At.Lo else b)>r.Entries[i].At.Hi
            · rw[if_pos hc]
              simp only[hc,decide_true,jB];rfl
            · rw[if_neg hc]
              simp only[hc,decide_false,jA];exact c _ trivial
        · intro i b hi _ R c
          have m:=c () trivial;have e1:decide ((i:Int)<(r.Entries.length:Int))=true:=by simp[hi]
          have w1:=wS i (by omega)
          rw[jb hi,X2A];simp only[X25,X1t,e1,z0S,kS,ju,jB,X5 _ _ _ hi,X6s r _ _ _ (by omega:r.Devices.length<=1000000),jS,w1]
          generalize XQ r r.Entries[i].Device r.Entries[i].State r.Entries[i].At=e
          by_cases he:e=0
          · have c1:(e != 0)=false:=by simp[he]
            simp only[c1,jA,if_neg (fun h:e≠0=>h he)];exact m
          · have c1:(e != 0)=true:=X3g he
            simp only[c1,jB,if_pos he];rfl
      · intro i b hi j R c
        have e1:decide ((i:Int)<(r.Devices.length:Int))=true:=by simp[hi]
        have w1:=wS i (by omega)
        have f:b.length=i:=by rw[j,List.length_map,List.length_take];omega
        have b1:Nat.ble ((i+1)*(16+1)) 200000000000000=true:=by rw[Nat.ble_eq];omega
        have g:=X8d r.Devices[i].Name b (by omega)
        have a:=c ((r.Devices.take (i+1)).map (·.Name)) rfl;rw[jb hi,X2A];simp only[X24,X1s,e1,z0S,kS,ju,jB,X5 _ _ _ hi,g,jS,w1,f,List.length_singleton,b1];have k:b++[r.Devices[i].Name]=(r.Devices.take (i+1)).map (·.Name):=by rw[j,List.take_succ_eq_append_getElem hi,List.map_append];rfl
        rw[<-j];have l:X8w b r.Devices[i]=if X6f r.Devices[i].Name b≠0 then X6f r.Devices[i].Name b else if X1F 2 4 [r.Devices[i].States]||X1F 0 (IntKind.wrap .i64 (r.Devices[i].States-1)) [r.Devices[i].First]then 7 else 0:=rfl;rw[l];generalize X6f r.Devices[i].Name b=e
        by_cases he:e=0
        · have c1:(e==0)=true:=by simp[he]
          have c2:(e != 0)=false:=by simp[he]
          simp only[c1,c2,jB,jA,if_neg (fun h:e≠0=>h he),X4O,X6D,jS,Bool.not_not];cases q5:X1F 2 4 [r.Devices[i].States]with
          | true=>rfl
          | false =>
            simp only[jA,Bool.false_or];cases q6:X1F 0 (IntKind.wrap .i64 (r.Devices[i].States-1)) [r.Devices[i].First]with
            | true=>rfl
            | false =>
              simp only[jA];rw[k];exact a
        · have c1:(e==0)=false:=X3a he
          have c2:(e != 0)=true:=X3g he;simp only[c1,c2,jB,jA,if_pos he];rfl
      · simp only[List.drop_zero]
        show(if(X49 r).2≠0 then some (2,(X49 r).1,(X49 r).2)else some (if(X3b r).2≠0 then(3,(X3b r).1,(X3b r).2)else if(Xo 0 0 r.Entries).2≠0 then(3,(Xo 0 0 r.Entries).1,(Xo 0 0 r.Entries).2)else(0,0,0)))=some (if(X49 r).2≠0 then(2,(X49 r).1,(X49 r).2)else if(X3b r).2≠0 then(3,(X3b r).1,(X3b r).2)else if(Xo 0 0 r.Entries).2≠0 then(3,(Xo 0 0 r.Entries).1,(Xo 0 0 r.Entries).2)else(0,0,0))
        by_cases q3:(X49 r).2=0
        · simp only[ne_eq,q3,not_true_eq_false,if_false]
        · simp only[ne_eq,q3,not_false_eq_true,if_true]
structure X4S (r:CoRecord):Prop where
  devs:1<=r.Devices.length/\r.Devices.length<=4
  many:r.Entries.length<=10
  dev:∀d∈r.Devices,(2<=d.States/\d.States<=4)/\0<=d.First/\d.First<d.States
  ent:∀x∈r.Entries,XQ r x.Device x.State x.At=0
  order:Xo 0 0 r.Entries=(0,0)
theorem X6A {α:Type} (f:Nat->α->Int):∀(l:List α) (i:Nat),(X1E f i l).2=0->∀(j:Nat) (h:j<l.length),f (i+j) l[j]=0
  | x::xs,i,h,j,hj=>by
    rw[X2A]at h
    by_cases he:f i x=0
    · rw[if_neg (fun q=>q he)]at h
      cases j with
      | zero=>exact he
      | succ j =>
        have:=X6A f xs (i+1) h j (by simpa using hj)
        rw[show i+(j+1)=i+1+j by omega]
        exact this
    · rw[if_pos he]at h
      exact absurd h he
theorem X8K:∀(l:List Zq) (a:Int) (i:Nat),(Xo a i l).2=0->Xo a i l=(0,0)
  | [],_,_,_=>rfl
  | x::xs,a,i,h=>by
    rw[X4z]at h⊢
    by_cases hc:(if x.At.Lo>a then x.At.Lo else a)>x.At.Hi
    · rw[if_pos hc]at h
      exact absurd h (by simp)
    · rw[if_neg hc]at h⊢
      exact X8K xs _ _ h
theorem X64 {r:CoRecord} (h:(WX r).2.2=0):X4S r:=by
  unfold WX at h;cases q1:X1F 1 4 [(r.Devices.length:Int)]with
  | true=>rw[q1]at h;exact absurd h (by simp)
  | false =>
    have b:=X3v q1
    by_cases q2:(r.Entries.length:Int)>10
    · simp only[q1,q2,decide_true,Bool.or_true,if_true]at h;exact absurd h (by simp)
    · simp only[q1,q2,decide_false,Bool.or_self,jg,if_false]at h
      by_cases q3:(X49 r).2=0
      · rw[if_neg (fun k=>k q3)]at h
        by_cases q4:(X3b r).2=0
        · rw[if_neg (fun k=>k q4)]at h
          by_cases q5:(Xo 0 0 r.Entries).2=0
          · refine⟨by omega,by omega,fun d b=>?_,fun x c=>?_,X8K _ _ _ q5⟩
            · obtain⟨j,a,rfl⟩:=List.getElem_of_mem b
              have:=X6A _ _ 0 q3 j a;simp only[X8w]at this;split at this
              · rename_i k;exact absurd this k
              · split at this
                · exact absurd this (by simp)
                · rename_i k
                  simp only[Bool.or_eq_true,not_or,Bool.not_eq_true]at k;have k1:=X3v k.1;have k2:=X3v k.2;rw[w64 (by omega) (by omega)]at k2
                  omega
            · obtain⟨j,a,rfl⟩:=List.getElem_of_mem c
              exact X6A _ _ 0 q4 j a
          · rw[if_pos q5]at h;exact absurd h q5
        · rw[if_pos q4]at h;exact absurd h q4
      · rw[if_pos q3]at h;exact absurd h q3
theorem X6G {r:CoRecord} {x:Zr} (h:XQ r x.Device x.State x.At=0):X4T r x/\0<=x.At.Lo/\x.At.Lo<=x.At.Hi/\x.At.Hi<=9999:=by
  unfold XQ at h;cases q1:X1F 0 ((r.Devices.length:Int)-1) [x.Device]with
  | true=>rw[q1]at h;exact absurd h (by simp)
  | false =>
    rw[q1]at h;have k1:=X3v q1;cases q2:X1F 0 (IntKind.wrap .i64 ((r.Devices.getD x.Device.toNat (Zm.mk ByteArray.empty 0 0)).States-1)) [x.State]with
    | true=>rw[q2]at h;exact absurd h (by simp)
    | false =>
      rw[q2]at h;cases q3:X1F 0 9999 [x.At.Lo,x.At.Hi]with
      | true=>rw[q3]at h;exact absurd h (by simp)
      | false =>
        rw[q3]at h;have k3:=X9E q3
        by_cases q4:x.At.Lo>x.At.Hi
        · simp only[jg,if_false,q4,if_true]at h;exact absurd h (by simp)
        · exact⟨⟨by omega,by omega,by omega⟩,by omega,by omega,by omega⟩
theorem Xau {r:CoRecord} (h:X4S r):X7X r:=⟨h.many,fun x a=>by
  have:=(X6G (x:=⟨x.Device,x.State,x.At⟩) (h.ent x a)).2;simp only at this;omega⟩
theorem X3x {r:CoRecord} {l:List Zr} (h:(Wp r l).2=0):X4S r/\l.length<=4/\∀x∈l,XQ r x.Device x.State x.At=0:=by
  unfold Wp at h
  by_cases q1:(WX r).2.2=0
  · rw[if_neg (fun k=>k q1)]at h
    by_cases q2:(l.length:Int)>4
    · rw[if_pos q2]at h;exact absurd h (by simp)
    · rw[if_neg q2]at h
      refine⟨X64 q1,by omega,fun x b=>?_⟩
      obtain⟨j,a,rfl⟩:=List.getElem_of_mem b;exact X6A _ _ 0 h j a
  · rw[if_pos q1]at h;exact absurd h q1
theorem X5u {r:CoRecord} {l:List Zr} (h:(Wp r l).2=0):X61 r l:=by
  obtain⟨a,d,b⟩:=X3x h;exact⟨Xau a,by omega,fun x c=>(X6G (b x c)).1⟩
theorem X4I (r:CoRecord) (l:List Zr):X21 r l=some (Wp r l):=by
  rw[X56];unfold X1r;rw[X7Q r];simp only[jS];unfold Wp
  by_cases q1:(WX r).2.2=0
  · have c1:((WX r).2.2==0)=true:=by simp[q1]
    have c2:((WX r).2.2 != 0)=false:=by simp[q1]
    have hr:=X64 q1;simp only[c1,c2,jB,jA,if_neg (fun h:(WX r).2.2≠0=>h q1)]
    by_cases q2:(l.length:Int)>4
    · simp only[q2,decide_true,jB,if_true]
    · have f:l.length<=4:=by omega
      simp only[q2,decide_false,jA,if_false];unfold X1G;refine Eq.trans (X1V _ _ l.length (fun i (_:Unit)=>(i:Int)) (fun _ _=>True) (fun i _=>some (X1E (fun _ (x:Zr)=>XQ r x.Device x.State x.At) i (l.drop i))) ?_ ?_ 0 () (Nat.zero_le _) trivial) rfl
      · intro b _ R
        have e1:decide ((l.length:Int)<(l.length:Int))=false:=by simp
        simp only[WP,Wn,e1,jA,List.drop_length];rfl
      · intro i b hi _ R d
        have a:=d () trivial;have e1:decide ((i:Int)<(l.length:Int))=true:=by simp[hi]
        have w1:=wS i (by omega)
        have c:=hr.devs;rw[jb hi,X2A];simp only[WP,Wn,e1,z0S,kS,ju,jB,X5 _ _ _ hi,X6s r _ _ _ (by omega:r.Devices.length<=1000000),jS,w1]
        generalize XQ r l[i].Device l[i].State l[i].At=e
        by_cases he:e=0
        · have c1:(e != 0)=false:=by simp[he]
          simp only[c1,jA,if_neg (fun h:e≠0=>h he)];exact a
        · have c1:(e != 0)=true:=X3g he
          simp only[c1,jB,if_pos he];rfl
  · have c1:((WX r).2.2==0)=false:=X3a q1
    have c2:((WX r).2.2 != 0)=true:=X3g q1;simp only[c1,c2,jB,jA,if_pos q1]
theorem X6I (r:CoRecord) (l:List Zr):X3R r l=some (Wp r l):=by
  rw[X4V];unfold X1m;rw[X7M r];simp only[jS];unfold Wp
  by_cases q1:(WX r).2.2=0
  · have c1:((WX r).2.2 != 0)=false:=by simp[q1]
    have hr:=(X64 q1).devs;simp only[c1,jA,if_neg (fun h:(WX r).2.2≠0=>h q1)]
    by_cases q2:(l.length:Int)>4
    · simp only[q2,decide_true,jB,if_true]
    · simp only[q2,decide_false,jA,if_false,X7r r l (by omega) (by omega),jS]
  · have c1:((WX r).2.2 != 0)=true:=X3g q1
    simp only[c1,jB,if_pos q1]
theorem X4F (r:CoRecord) (l:List Zr):X4x r l=some (⟨r,l⟩,(Wp r l).2):=by
  rw[X6b];unfold X2V;rw[X6I r l];rfl
end Nore
open Go Go.Ab
namespace Nore
end Nore
open Go Go.Ab
namespace Nore
end Nore
namespace Nore
def Wh (r:CoRecord) (l:List Zr):Bool := !(X9i r l).isEmpty
end Nore
open Go Go.Ab
namespace Nore
def XP {α:Type} (m:Nat):Nat->List α->List α
  | _,[]=>[]
  | i,x::xs=>if m.testBit i then XP m (i+1) xs else x::XP m (i+1) xs
def X3 {α:Type} (m:Nat):Nat->List α->List Int
  | _,[]=>[]
  | i,x::xs=>if m.testBit i then(i:Int)::X3 m (i+1) xs else X3 m (i+1) xs
theorem X2B {α:Type} (m i:Nat) (x:α) (xs:List α):XP m i (x::xs)=if m.testBit i then XP m (i+1) xs else x::XP m (i+1) xs:=rfl
theorem Wk {α:Type} (m i:Nat) (x:α) (xs:List α):X3 m i (x::xs)=if m.testBit i then(i:Int)::X3 m (i+1) xs else X3 m (i+1) xs:=rfl
theorem X5J {α:Type} (m:Nat):∀(l:List α) (i:Nat),∀x∈XP m i l,x∈l
  | y::l,i,x,h=>by
    rw[X2B]at h;split at h
    · exact List.mem_cons_of_mem _ (X5J m l _ x h)
    · rcases jv.1 h with rfl|h
      · exact List.mem_cons_self
      · exact List.mem_cons_of_mem _ (X5J m l _ x h)
theorem X5c {α:Type} (m:Nat):∀(l:List α) (i:Nat),(XP m i l).length<=l.length
  | [],_=>Nat.le_refl _
  | y::l,i=>by
    have:=X5c m l (i+1);rw[X2B];split
    · simp only[List.length_cons];omega
    · simp only[List.length_cons];omega
theorem X4R {α:Type} (m:Nat):∀(l:List α) (i:Nat),(X3 m i l).length<=l.length
  | [],_=>Nat.le_refl _
  | y::l,i=>by
    have:=X4R m l (i+1);rw[Wk];split
    · simp only[List.length_cons];omega
    · simp only[List.length_cons];omega
theorem X8h {α:Type} (m N:Nat):∀(l:List α) (i:Nat),i+l.length<=N->XP (m % 2 ^ N) i l=XP m i l
  | [],_,_=>rfl
  | y::l,i,h=>by
    simp only[List.length_cons]at h;rw[X2B,X2B,X8h m N l (i+1) (by omega),Nat.testBit_mod_two_pow]
    have:decide (i<N)=true:=by simp;omega
    rw[this,Bool.true_and]
theorem X7z {α:Type} (m N:Nat):∀(l:List α) (i:Nat),i+l.length<=N->X3 (m % 2 ^ N) i l=X3 m i l
  | [],_,_=>rfl
  | y::l,i,h=>by
    simp only[List.length_cons]at h;rw[Wk,Wk,X7z m N l (i+1) (by omega),Nat.testBit_mod_two_pow]
    have:decide (i<N)=true:=by simp;omega
    rw[this,Bool.true_and]
theorem X7I {α:Type} (N:Nat):∀(l:List α) (i:Nat),i+l.length<=N->XP (2 ^ N-1) i l=[]
  | [],_,_=>rfl
  | y::l,i,h=>by
    simp only[List.length_cons]at h;rw[X2B,Nat.testBit_two_pow_sub_one];have:decide (i<N)=true:=by simp;omega
    rw[this,if_pos rfl];exact X7I N l (i+1) (by omega)
theorem X6v {α:Type} (m:Nat) (x:α):∀(l:List α) (i:Nat),XP m i (l++[x])=XP m i l++if m.testBit (i+l.length)then []else [x]
  | [],i=>by rw[List.nil_append,X2B];rfl
  | y::l,i=>by
    rw[List.cons_append,X2B,X2B,X6v m x l (i+1),show i+(y::l).length=i+1+l.length by simp only[List.length_cons];omega]
    split
    · rfl
    · rfl
theorem X76 {α:Type} (m:Nat) (x:α):∀(l:List α) (i:Nat),X3 m i (l++[x])=X3 m i l++if m.testBit (i+l.length)then [((i+l.length:Nat):Int)]else []
  | [],i=>by rw[List.nil_append,Wk];rfl
  | y::l,i=>by
    rw[List.cons_append,Wk,Wk,X76 m x l (i+1),show i+(y::l).length=i+1+l.length by simp only[List.length_cons];omega]
    split
    · rfl
    · rfl
theorem Xav (m i:Nat) (a:m<16) (hi:i<4):(IntKind.wrap .i64 (↑(BitVec.toNat (BitVec.ofInt (IntKind.bits .i64) (Int.fdiv (m:Int) (2 ^ min i (IntKind.bits .i64))) &&& BitVec.ofInt (IntKind.bits .i64) 1)):Int)==0) = !m.testBit i:=by
  have:∀m:Fin 16,∀i:Fin 4,(IntKind.wrap .i64 (↑(BitVec.toNat (BitVec.ofInt (IntKind.bits .i64) (Int.fdiv (m.val:Int) (2 ^ min i.val (IntKind.bits .i64))) &&& BitVec.ofInt (IntKind.bits .i64) 1)):Int)==0) = !m.val.testBit i.val:=by decide +kernel
  exact this ⟨m,a⟩ ⟨i,hi⟩
def X7n:List Int->List Int->Int
  | [],[]=>0
  | [],_::_ => -1
  | _::_,[]=>1
  | a::s,b::t=>if a<b then -1 else if a>b then 1 else X7n s t
theorem X6z (a b:Int) (s t:List Int):X7n (a::s) (b::t)=if a<b then -1 else if a>b then 1 else X7n s t:=rfl
theorem X9k (a b:List Int) (f:a.length<=1000000):WF a b=some (X7n a b):=by
  unfold WF X15;refine Eq.trans (X1V _ _ a.length (fun i (_:Unit)=>(i:Int)) (fun i _=>i<=b.length) (fun i _=>some (X7n (a.drop i) (b.drop i))) ?_ ?_ 0 () (Nat.zero_le _) (Nat.zero_le _)) rfl
  · intro _ d R
    have e1:decide ((a.length:Int)<(a.length:Int))=false:=by simp
    simp only[XR,XB,e1,jA,List.drop_length,jS,jy]
    by_cases h:a.length<b.length
    · have c:decide ((a.length:Int)<(b.length:Int))=true:=by simp;omega
      rw[c,jb h];rfl
    · have c:decide ((a.length:Int)<(b.length:Int))=false:=by simp;omega
      rw[c,jd (by omega)]
      rfl
  · intro i _ hi d R e
    have e1:decide ((i:Int)<(a.length:Int))=true:=by simp;omega
    have w1:=wS i (by omega)
    simp only[XR,XB,e1,z0S,kS,ju,jB,X5 _ _ _ hi,w1];rw[jb hi]
    by_cases h:i<b.length
    · have c1:decide ((i:Int)>=(b.length:Int))=false:=by simp;omega
      have c2:decide ((i:Int)<(b.length:Int))=true:=by simp;omega
      rw[jb h,X6z];simp only[c1,c2,jB,jA,X5 _ _ _ h,X3Q];have b1:∀a:Int,(a != a)=false:=fun a=>by simp
      simp only[b1,jA]
      by_cases h1:a[i]<b[i]
      · simp only[h1,decide_true,jB,jS,if_true]
        rfl
      · by_cases h2:a[i]>b[i]
        · simp only[h1,h2,decide_true,decide_false,jB,jA,jS,if_true,if_false]
          rfl
        · simp only[h1,h2,decide_false,jA,jS,if_false]
          exact e () (by omega)
    · have c1:decide ((i:Int)>=(b.length:Int))=true:=by simp;omega
      rw[jd (by omega:b.length<=i)]
      simp only[c1,jB];rfl
theorem X8S (l:List Zr) (v:l.length<=4) (m:Nat) (t:m<16) (fd:Bool) (best:List Int) :
    (∃p,X1O (m:Int) l (l.length:Int) fd best (0,[],[])=some (.inl p)/\fd=true/\best.length<(X3 m 0 l).length) ∨
    (X1O (m:Int) l (l.length:Int) fd best (0,[],[])=some (.inr (XP m 0 l,X3 m 0 l))/\(fd=true->(X3 m 0 l).length<=best.length)):=by
  obtain⟨w,r,o⟩:=XA (X19 (m:Int) l (l.length:Int) fd best) l.length (fun i (b:List Zr×List Int)=>((i:Int),b.1,b.2))
    (fun i b=>b.1=XP m 0 (l.take i)/\b.2=X3 m 0 (l.take i)/\(fd=true->b.2.length<=best.length))
    (fun w=>(∃p,w=.inl p/\fd=true/\best.length<(X3 m 0 l).length)\/(w=.inr (XP m 0 l,X3 m 0 l)/\(fd=true->(X3 m 0 l).length<=best.length)))
    (fun b d=>by
      obtain⟨q1,q2,q3⟩:=d;rw[List.take_length]at q1 q2;have e1:decide ((l.length:Int)<(l.length:Int))=false:=by simp
      exact⟨.inr (b.1,b.2),by simp only[X19,X1p,e1,jA],.inr ⟨by rw[q1,q2],by rw[<-q2];exact q3⟩⟩)
    (fun i b hi d=>by
      obtain⟨q1,q2,q3⟩:=d;obtain⟨br,bs⟩:=b;simp only at q1 q2 q3;have e1:decide ((i:Int)<(l.length:Int))=true:=by simp;omega
      have e2:decide ((i:Int)<0)=false:=by simp
      have w1:=wS i (by omega)
      have ht:l.take (i+1)=l.take i++[l[i]]:=List.take_succ_eq_append_getElem hi;have n:(l.take i).length=i:=by rw[List.length_take];omega
      have s:br.length<=i:=by rw[q1];have:=X5c m (l.take i) 0;omega
      have q:bs.length<=i:=by rw[q2];have:=X4R m (l.take i) 0;omega
      have b1:Nat.ble ((br.length+1)*(32+1)) 200000000000000=true:=by rw[Nat.ble_eq];omega
      have b2:Nat.ble ((bs.length+1)*(8+1)) 200000000000000=true:=by rw[Nat.ble_eq];omega
      have hr:=X6v m l[i] (l.take i) 0;have j:=X76 m l[i] (l.take i) 0;rw[<-ht,n,Nat.zero_add]at hr j;simp only[X19,X1p,e1,e2,z0S,kS,ju,jB,jA,X5 _ _ _ hi,w1,Xav m i t (by omega),b1,b2,List.length_singleton]
      cases d:m.testBit i with
      | false =>
        right;rw[d]at hr j;simp only[Bool.not_false,jB];refine⟨(br++[l[i]],bs),rfl,?_,?_,q3⟩
        · rw[hr,q1];rfl
        · rw[j,q2];simp
      | true =>
        rw[d]at hr j;simp only[Bool.not_true,jA];have e:br=XP m 0 (l.take (i+1)):=by rw[hr,q1];simp
        have c:bs++[(i:Int)]=X3 m 0 (l.take (i+1)):=by rw[j,q2];simp
        cases fd with
        | false =>
          right;exact⟨(br,bs++[(i:Int)]),rfl,e,c,fun h=>by cases h⟩
        | true =>
          by_cases hc:((bs++[(i:Int)]).length:Int)>(best.length:Int)
          · left
            simp only[hc,decide_true,jB];refine⟨_,rfl,.inl ⟨_,rfl,by first|rfl|trivial,?_⟩⟩
            have u:(X3 m 0 (l.take (i+1))).length<=(X3 m 0 l).length:=by
              have:∀(a b:List Zr) (k:Nat),(X3 m k a).length<=(X3 m k (a++b)).length:=by
                intro a
                induction a with
                | nil=>intro b k;exact Nat.zero_le _
                | cons x a ih =>
                  intro b k;rw[List.cons_append,Wk,Wk];split
                  · simp only[List.length_cons];exact Nat.succ_le_succ (ih b (k+1))
                  · exact ih b (k+1)
              have h:=this (l.take (i+1)) (l.drop (i+1)) 0
              rwa [List.take_append_drop]at h
            rw[c]at hc;omega
          · right
            simp only[hc,decide_false,jB,jA];exact⟨(br,bs++[(i:Int)]),rfl,e,c,fun _=>by show(bs++[(i:Int)]).length<=best.length;omega⟩) 0 ([],[]) (Nat.zero_le _) ⟨rfl,rfl,fun _=>Nat.zero_le _⟩
  have f:X1O (m:Int) l (l.length:Int) fd best (0,[],[])=some w:=r;rcases o with⟨p,rfl,g1,g2⟩|⟨rfl,g⟩
  · exact .inl ⟨p,f,g1,g2⟩
  · exact .inr ⟨f,g⟩
def Z3z (a b:List Int):Prop:=a.length<b.length\/(a.length=b.length/\X7n a b<=0)
structure X4U (r:CoRecord) (l:List Zr) (k:Nat) (fd:Bool) (best:List Int):Prop where
  yes:fd=true->∃m,m<k/\best=X3 m 0 l/\Wh r (XP m 0 l)=true
  least:fd=true->∀m,m<k->Wh r (XP m 0 l)=true->Z3z best (X3 m 0 l)
  no:fd=false->best=[]/\∀m,m<k->Wh r (XP m 0 l)=false
theorem X82:∀{a b c:List Int},X7n a b<=0->X7n b c<=0->X7n a c<=0
  | [],[],[],_,_=>by decide
  | [],_,_::_,_,_=>by show(-1:Int)<=0;decide
  | [],_::_,[],_,h=>absurd h (by show ¬(1:Int)<=0;decide)
  | _::_,[],_,h,_=>absurd h (by show ¬(1:Int)<=0;decide)
  | _::_,_::_,[],_,h=>absurd h (by show ¬(1:Int)<=0;decide)
  | x::a,y::b,z::c,h1,h2=>by
    rw[X6z]at h1 h2⊢
    by_cases e1:x<y
    · by_cases e2:y<z
      · rw[if_pos (by omega)];decide
      · rw[if_neg e2]at h2
        by_cases e3:y>z
        · rw[if_pos e3]at h2;omega
        · rw[if_pos (by omega)];decide
    · rw[if_neg e1]at h1
      by_cases e4:x>y
      · rw[if_pos e4]at h1;omega
      · rw[if_neg e4]at h1
        by_cases e2:y<z
        · rw[if_pos (by omega)];decide
        · rw[if_neg e2]at h2
          by_cases e3:y>z
          · rw[if_pos e3]at h2;omega
          · rw[if_neg e3]at h2
            rw[if_neg (by omega),if_neg (by omega)]
            exact X82 h1 h2
theorem X8G:∀a:List Int,X7n a a=0
  | []=>rfl
  | x::a=>by rw[X6z,if_neg (Int.lt_irrefl x),if_neg (Int.lt_irrefl x),X8G a]
theorem X8F:∀(a b:List Int),X7n a b>0->X7n b a<=0
  | [],[],h=>absurd h (by decide)
  | [],_::_,h=>absurd h (by show ¬(-1:Int)>0;decide)
  | _::_,[],_=>by show(-1:Int)<=0;decide
  | x::a,y::b,h=>by
    rw[X6z]at h⊢
    by_cases e1:x<y
    · rw[if_pos e1]at h;omega
    · rw[if_neg e1]at h
      by_cases e2:x>y
      · rw[if_pos (by omega)];decide
      · rw[if_neg e2]at h
        rw[if_neg (by omega),if_neg (by omega)]
        exact X8F a b h
theorem X9x (a:List Int):Z3z a a:=.inr ⟨rfl,by rw[X8G];exact Int.le_refl 0⟩
theorem X9g {a b c:List Int} (e:Z3z a b) (d:Z3z b c):Z3z a c:=by
  rcases e with e|⟨e,g⟩<;>rcases d with d|⟨d,f⟩
  · exact .inl (by omega)
  · exact .inl (by omega)
  · exact .inl (by omega)
  · exact .inr ⟨by omega,X82 g f⟩
theorem X8R (r:CoRecord) (l:List Zr) (y:l.length<=4) (u:X61 r l) :
    ∃fd best,X3U ((2 ^ l.length:Nat):Int) l r (0,false,[])=some best/\X4U r l (2 ^ l.length) fd best:=by
  have h16:2 ^ l.length<=16:=by
    have:2 ^ l.length<=2 ^ 4:=Nat.pow_le_pow_right (by omega) y
    omega
  obtain⟨w,h1,fd,z⟩:=XA (X18 ((2 ^ l.length:Nat):Int) l r) (2 ^ l.length) (fun k (b:Bool×List Int)=>((k:Int),b.1,b.2)) (fun k b=>X4U r l k b.1 b.2) (fun w=>∃fd,X4U r l (2 ^ l.length) fd w)
    (fun b g=>⟨b.2,by
      have e1:decide (((2 ^ l.length:Nat):Int)<((2 ^ l.length:Nat):Int))=false:=by simp
      simp only[X18,X1o,e1,jA],b.1,g⟩)
    (fun k b hk g=>by
      right;obtain⟨fd,best⟩:=b;simp only at g;have e1:decide ((k:Int)<((2 ^ l.length:Nat):Int))=true:=by rw[jk];exact Int.ofNat_lt.2 hk
      have w1:=wS k (by omega)
      have n:X61 r (XP k 0 l):=⟨u.ent,Nat.le_trans (X5c _ _ _) u.many,fun x i=>u.seen x (X5J _ _ _ x i)⟩;have t:X6 ⟨r,XP k 0 l⟩=some (Wh r (XP k 0 l)):=X50 n;have keep:fd=true->Z3z best (X3 k 0 l)->X4U r l (k+1) fd best:=fun d f=>⟨fun h=>by
          obtain⟨m,a,b,c⟩:=g.yes h;exact⟨m,by omega,b,c⟩,fun h m q j=>by
          by_cases e:m=k
          · subst e;exact f
          · exact g.least h m (by omega) j,fun h=>by rw[d]at h;cases h⟩
      have drop:Wh r (XP k 0 l)=false->X4U r l (k+1) fd best:=fun j=>⟨fun h=>by
          obtain⟨m,a,b,c⟩:=g.yes h;exact⟨m,by omega,b,c⟩,fun h m q i=>by
          by_cases e:m=k
          · subst e;rw[j]at i;cases i
          · exact g.least h m (by omega) i,fun h=>⟨(g.no h).1,fun m q=>by
          by_cases e:m=k
          · subst e;exact j
          · exact(g.no h).2 m (by omega)⟩⟩
      have take:Wh r (XP k 0 l)=true->(fd=true->Z3z (X3 k 0 l) best)->X4U r l (k+1) true (X3 k 0 l):=fun j f=>⟨fun _=>⟨k,by omega,rfl,j⟩,fun _ m q i=>by
          by_cases e:m=k
          · subst e;exact X9x _
          · cases d:fd with
            | true=>exact X9g (f d) (g.least d m (by omega) i)
            | false=>rw[(g.no d).2 m (by omega)]at i;(cases i),fun h=>by cases h⟩
      simp only[X18,X1o,e1,jB,w1];rcases X8S l y k (by omega) fd best with⟨p,v,d,f⟩|⟨v,o⟩
      · simp only[v,jS,jw]
        exact⟨(fd,best),rfl,keep d (.inl f)⟩
      · simp only[v,jS,jy,t]
        have fin:(fd=true->Z3z (X3 k 0 l) best)->∃b':Bool×List Int,(bif Wh r (XP k 0 l)then some (Sum.inl (((k+1:Nat):Int),true,X3 k 0 l))else some (Sum.inl (((k+1:Nat):Int),fd,best)))=(some (Sum.inl (((k+1:Nat):Int),b'.1,b'.2)):Option ((Int×Bool×List Int)⊕List Int))/\X4U r l (k+1) b'.1 b'.2:=fun s=>by
          cases j:Wh r (XP k 0 l)with
          | true=>exact⟨(true,X3 k 0 l),rfl,take j s⟩
          | false=>exact⟨(fd,best),rfl,drop j⟩
        cases d:fd with
        | false =>
          simp only[jA];have:=fin (fun h=>by rw[d]at h;cases h)
          rw[d]at this;exact this
        | true =>
          have o:=o d;simp only[jB]
          by_cases hlen:(X3 k 0 l).length=best.length
          · have c1:(((X3 k 0 l).length:Int)==(best.length:Int))=true:=by simp[hlen]
            have hc:=X9k (X3 k 0 l) best (by have:=X4R k l 0;omega)
            simp only[c1,jB,hc,jS]
            by_cases hgt:X7n (X3 k 0 l) best>0
            · simp only[hgt,decide_true,jB]
              refine⟨(true,best),rfl,?_⟩;have:=keep d (.inr ⟨hlen.symm,X8F _ _ hgt⟩);rw[d]at this;exact this
            · simp only[hgt,decide_false,jA]
              have:=fin (fun _=>.inr ⟨hlen,by omega⟩)
              rw[d]at this;exact this
          · have c1:(((X3 k 0 l).length:Int)==(best.length:Int))=false:=X3a (by omega)
            simp only[c1,jA];have:=fin (fun _=>.inl (by omega))
            rw[d]at this;exact this) 0 (false,[]) (Nat.zero_le _) ⟨fun h=>(by cases h),fun h=>(by cases h),fun _=>⟨rfl,fun m q=>by omega⟩⟩
  exact⟨fd,w,h1,z⟩
end Nore
open Go Go.Ab
namespace Nore
theorem X7u:∀(l:List Zq) (a:Int) (i:Nat),Xo a i l=(0,0)->∃x:Nat->Int,(∀j (h:j<l.length),l[j].At.Lo<=x j/\x j<=l[j].At.Hi/\a<=x j)/\∀j,j+1<l.length->x j<=x (j+1)
  | [],_,_,_=>⟨fun _=>0,fun j h=>by simp at h,fun j h=>by simp at h⟩
  | e::l,a,i,h=>by
    rw[X4z]at h
    by_cases hc:(if e.At.Lo>a then e.At.Lo else a)>e.At.Hi
    · rw[if_pos hc]at h
      have:=congrArg Prod.snd h;simp at this
    · rw[if_neg hc]at h
      obtain⟨x,d,f⟩:=X7u l _ _ h;generalize hm:(if e.At.Lo>a then e.At.Lo else a)=m at hc d;have b:e.At.Lo<=m/\a<=m:=by rw[<-hm];split<;>omega
      refine⟨fun j=>if j=0 then m else x (j-1),fun j c=>?_,fun j c=>?_⟩
      · cases j with
        | zero=>exact⟨b.1,by simp only[if_true];show m<=e.At.Hi;omega,b.2⟩
        | succ j =>
          have:=d j (by simpa using c)
          simp only[Nat.add_one_ne_zero,if_false,Nat.add_sub_cancel,List.getElem_cons_succ];omega
      · cases j with
        | zero =>
          have:=d 0 (by simpa using c)
          simp only[if_true,Nat.add_one_ne_zero,if_false];exact this.2.2
        | succ j =>
          have:=f j (by simpa using c)
          simp only[Nat.add_one_ne_zero,if_false,Nat.add_sub_cancel];exact this
theorem X9f {r:CoRecord} (h:X4S r):Wh r []=true:=by
  unfold Wh X9i;have b:Xm r.Entries.length (([]:List Zr).map (X3y r)) (X3C (X1M r) [])≠[]:=by
    rw[X7F (X9J r []) (fun p a=>by cases a)]
    obtain⟨x,d,c⟩:=X7u r.Entries 0 0 h.order;have e:∀i (hi:i<r.Entries.length),(X3C (X1M r) []).lo i=r.Entries[i].At.Lo/\(X3C (X1M r) []).hi i=r.Entries[i].At.Hi:=fun i hi=>by
      show((r.Entries.getD i (Zq.mk 0 0 (Y2.mk 0 0))).At).Lo=_/\((r.Entries.getD i (Zq.mk 0 0 (Y2.mk 0 0))).At).Hi=_;rw[X5 _ _ _ hi];exact⟨rfl,rfl⟩
    exact⟨x,⟨⟨fun i hi=>by rw[(e i hi).1];exact(d i hi).1,fun i hi=>c i hi,fun p a=>by cases a⟩,⟨fun i hi=>by rw[(e i hi).2];exact(d i hi).2.1,fun i hi=>c i hi,fun p a=>by cases a⟩⟩,fun w f=>by cases f⟩
  cases hq:Xm r.Entries.length (([]:List Zr).map (X3y r)) (X3C (X1M r) [])with
  | nil=>exact absurd hq b
  | cons=>rfl
theorem X6a {r:CoRecord} {l:List Zr} (h:(Wp r l).2=0) :
    ∃m,X3h r l=some (X3 m 0 l,0)/\Wh r (XP m 0 l)=true/\∀m',Wh r (XP m' 0 l)=true->Z3z (X3 m 0 l) (X3 m' 0 l):=by
  obtain⟨hr,f,_⟩:=X3x h;obtain⟨fd,best,i,d⟩:=X8R r l f (X5u h);have b:fd=true:=by
    cases hf:fd with
    | true=>rfl
    | false =>
      have:=(d.no hf).2 (2 ^ l.length-1) (by have:=Nat.two_pow_pos l.length;omega)
      rw[X7I l.length l 0 (by omega),X9f hr]at this
      cases this
  obtain⟨m,j,rfl,g⟩:=d.yes b;refine⟨m,?_,g,fun m' h'=>?_⟩
  · rw[X4X];unfold X20
    rw[X4F];have c:((Wp r l).2 != 0)=false:=by simp[h]
    have a:IntKind.wrap .i64 (1*2 ^ min (Int.toNat (l.length:Int)) (IntKind.bits .i64))=((2 ^ l.length:Nat):Int):=by
      have:∀n:Fin 5,IntKind.wrap .i64 (1*2 ^ min (Int.toNat (n.val:Int)) (IntKind.bits .i64))=((2 ^ n.val:Nat):Int):=by decide +kernel
      exact this ⟨l.length,by omega⟩
    simp only[jS,c,jA,a,i]
  · have e:=Nat.two_pow_pos l.length
    have:=d.least b (m' % 2 ^ l.length) (Nat.mod_lt _ e);rw[X8h m' l.length l 0 (by omega),X7z m' l.length l 0 (by omega)]at this
    exact this h'
theorem X5O {r:CoRecord} {l:List Zr} (h:(Wp r l).2≠0):X3h r l=some ([],(Wp r l).2):=by
  rw[X4X];unfold X20;rw[X4F];have c:((Wp r l).2 != 0)=true:=X3g h;simp only[jS,c,jB]
theorem X8N {α:Type} (m:Nat):∀(a b:List α) (i:Nat),X3 m i (a++b)=X3 m i a++X3 m (i+a.length) b
  | [],b,i=>rfl
  | x::a,b,i=>by
    rw[List.cons_append,Wk,Wk,X8N m a b (i+1),show i+(x::a).length=i+1+a.length by simp only[List.length_cons];omega]
    split<;>rfl
theorem X9u {α:Type} (m:Nat):∀(l:List α) (i:Nat),∀v∈X3 m i l,(i:Int)<=v/\v<((i+l.length:Nat):Int)
  | x::l,i,v,h=>by
    have ih:=X9u m l (i+1) v;rw[Wk]at h;simp only[List.length_cons];split at h
    · rcases jv.1 h with rfl|h
      · omega
      · have:=ih h;omega
    · have:=ih h;omega
theorem X5o (l:List Zr) (u:l.length<=1000) (m:Nat):X3L l (X3 m 0 l)=some (XP m 0 l):=by
  rw[X5C];unfold X27;obtain⟨w,t,q⟩:=XA (WH (X3 m 0 l) l) l.length (fun i (b:Int×List Zr)=>((i:Int),b.1,b.2))
    (fun i b=>b.1=((X3 m 0 (l.take i)).length:Int)/\b.2=XP m 0 (l.take i)) (fun w=>w=XP m 0 l)
    (fun b e=>⟨b.2,by
      have e1:decide ((l.length:Int)<(l.length:Int))=false:=by simp
      simp only[WH,WQ,e1,jA],by rw[e.2,List.take_length]⟩)
    (fun i b hi e=>by
      right;obtain⟨k,left⟩:=b;obtain⟨q1,q2⟩:=e;simp only at q1 q2;have e1:decide ((i:Int)<(l.length:Int))=true:=by simp;omega
      have w1:=wS i (by omega)
      have ht:l.take (i+1)=l.take i++[l[i]]:=List.take_succ_eq_append_getElem hi;have f:(l.take i).length=i:=by rw[List.length_take];omega
      have hr:=X6v m l[i] (l.take i) 0;have j:=X76 m l[i] (l.take i) 0;rw[<-ht,f,Nat.zero_add]at hr j;have a:X3 m 0 l=X3 m 0 (l.take i)++X3 m i (l.drop i):=by
        have:=X8N m (l.take i) (l.drop i) 0
        rwa [List.take_append_drop,f,Nat.zero_add]at this
      have c:l.drop i=l[i]::l.drop (i+1):=jb hi;have o:=X4R m (l.take i) 0;have n:=X5c m (l.take i) 0;rw[f]at o n;have w2:=wS (X3 m 0 (l.take i)).length (by omega)
      have b1:Nat.ble ((left.length+1)*(32+1)) 200000000000000=true:=by rw[Nat.ble_eq,q2];omega
      simp only[WH,WQ,e1,z0S,kS,ju,jB,X5 _ _ _ hi,w1,q1,w2,List.length_singleton,b1];cases e:m.testBit i with
      | true =>
        rw[e]at hr j;rw[c,Wk,e,if_pos rfl]at a;have c1:decide (((X3 m 0 (l.take i)).length:Int)<((X3 m 0 l).length:Int))=true:=by
          rw[a];simp only[List.length_append,List.length_cons,jk];omega
        have d:(X3 m 0 l).getD (X3 m 0 (l.take i)).length 0=(i:Int):=by
          rw[a];simp[List.getD]
        have c2:((i:Int)==(i:Int))=true:=by simp
        simp only[c1,jB,d,c2];refine⟨(_,left),rfl,?_,?_⟩
        · rw[j];simp
        · rw[hr,q2];simp
      | false =>
        rw[e]at hr j;rw[c,Wk,e,if_neg (by decide)]at a
        have h:left++[l[i]]=XP m 0 (l.take (i+1)):=by rw[hr,q2];rfl
        have g:((X3 m 0 (l.take i)).length:Int)=((X3 m 0 (l.take (i+1))).length:Int):=by rw[j];simp
        by_cases hk:(X3 m 0 (l.take i)).length<(X3 m 0 l).length
        · have c1:decide (((X3 m 0 (l.take i)).length:Int)<((X3 m 0 l).length:Int))=true:=by simp;omega
          have d:∃v∈X3 m (i+1) (l.drop (i+1)),(X3 m 0 l).getD (X3 m 0 (l.take i)).length 0=v:=by
            rw[a]at hk⊢;rw[List.length_append]at hk;refine⟨(X3 m (i+1) (l.drop (i+1)))[0]'(by omega),jl _,?_⟩
            rw[X5 _ _ _ (by rw[List.length_append];omega),List.getElem_append_right (Nat.le_refl _)]
            congr 1;omega
          obtain⟨v,hv,s⟩:=d;have r:=X9u m _ _ v hv;have c2:(v==(i:Int))=false:=X3a (by omega)
          simp only[c1,jB,s,c2,jA];exact⟨(_,_),rfl,g,h⟩
        · have c1:decide (((X3 m 0 (l.take i)).length:Int)<((X3 m 0 l).length:Int))=false:=by simp;omega
          simp only[c1,jA];exact⟨(_,_),rfl,g,h⟩) 0 (0,[]) (Nat.zero_le _) ⟨by simp[X3],by simp[XP]⟩
  have p:X3n (X3 m 0 l) l (0,0,[])=some w:=t;rw[p,q];rfl
theorem X6e {α:Type} (f:Nat->α->Int):∀(l:List α) (i:Nat),(∀x∈l,∀j,f j x=0)->X1E f i l=(0,0)
  | [],_,_=>rfl
  | x::l,i,h=>by
    rw[X2A,if_neg (fun q=>q (h x (by simp) i))]
    exact X6e f l (i+1) fun y hy=>h y (by simp[hy])
theorem X75 {r:CoRecord} {l:List Zr} (h:(Wp r l).2=0):(WX r).2.2=0:=by
  unfold Wp at h
  by_cases q1:(WX r).2.2=0
  · exact q1
  · rw[if_pos q1]at h;exact absurd h q1
theorem X9N {r:CoRecord} {l:List Zr} (a:(WX r).2.2=0) (d:l.length<=4) (b:∀x∈l,XQ r x.Device x.State x.At=0):Wp r l=(0,0):=by
  unfold Wp;rw[if_neg (fun q=>q a),if_neg (by omega)]
  exact X6e _ l 0 fun x c _=>b x c
theorem X9H {r:CoRecord} {l:List Zr} (h:(Wp r l).2=0) (m:Nat):Wp r (XP m 0 l)=(0,0):=by
  obtain⟨_,a,b⟩:=X3x h;exact X9N (X75 h) (Nat.le_trans (X5c m l 0) a) fun x c=>b x (X5J m l 0 x c)
end Nore
open Go Go.Ab
namespace Nore
def X4G (dev t:Int) (ms:Nat->Int):List Zq->Nat->Int->Int
  | [],_,now=>now
  | x::xs,i,now=>X4G dev t ms xs (i+1) (if x.Device=dev/\ms i<=t then x.State else now)
theorem X4c (dev t:Int) (ms:Nat->Int) (x:Zq) (xs:List Zq) (i:Nat) (now:Int):X4G dev t ms (x::xs) i now=X4G dev t ms xs (i+1) (if x.Device=dev/\ms i<=t then x.State else now):=rfl
theorem X6w (dev t:Int) (ms:Nat->Int):∀(e:List Zq) (i:Nat) (now:Int),(∀j,i<=j->j<i+e.length->t<ms j)->X4G dev t ms e i now=now
  | [],_,_,_=>rfl
  | x::e,i,now,h=>by
    have c:=h i (Nat.le_refl _) (by simp only[List.length_cons];omega)
    rw[X4c,if_neg (fun q=>by omega)]
    exact X6w dev t ms e (i+1) now fun j b a=>h j (by omega) (by simp only[List.length_cons];omega)
theorem X7e {n:Nat} {ms:Nat->Int} (h:X7B n ms):∀(d i:Nat),i+d<n->ms i<=ms (i+d)
  | 0,_,_=>Int.le_refl _
  | d+1,i,hi=>Int.le_trans (X7e h d i (by omega)) (h (i+d) (by omega))
theorem X8r {n:Nat} {ms:Nat->Int} (d:X7B n ms) (dev t st lo hi:Int) (c:lo<=t) (b:t<=hi):∀(e:List Zq) (i:Nat) (now fr:Int),i+e.length=n -> -1<=fr->fr<i->(0<=fr->ms fr.toNat<=t)->X4G dev t ms e i now=st →
    ∃s∈X5E dev st e i now fr,X8E n ms (X2c s) lo hi
  | [],i,now,fr,hn,h1,h2,h3,a=>by
    simp only[List.length_nil,Nat.add_zero]at hn;have a:now=st:=a;rw[X5F,if_pos a];refine⟨_,List.mem_singleton.2 rfl,fun h=>?_,fun h=>?_,fun _ h=>?_⟩
    · exact Int.le_trans (h3 h) b
    · simp only[X2c,kS]at h;omega
    · simp only[X2c,kS]at h;omega
  | x::e,i,now,fr,hn,h1,h2,h3,a=>by
    simp only[List.length_cons]at hn;rw[X4c]at a;rw[X4d]
    by_cases hd:x.Device=dev
    · rw[if_pos hd]
      by_cases hit:ms i<=t
      · rw[if_pos ⟨hd,hit⟩]at a
        obtain⟨s,g1,g2⟩:=X8r d dev t st lo hi c b e (i+1) x.State i (by omega) (by omega) (by omega) (fun _=>by rw[kS];exact hit) a
        exact⟨s,List.mem_append.2 (.inr g1),g2⟩
      · rw[if_neg (fun q=>hit q.2)]at a
        have f:X4G dev t ms e (i+1) now=now:=X6w dev t ms e (i+1) now fun j j1 j2=>by
          have:=X7e d (j-i) i (by omega)
          rw[show i+(j-i)=j by omega]at this
          omega
        rw[f]at a;refine⟨⟨fr,i⟩,List.mem_append.2 (.inl ?_),fun h=>?_,fun h=>?_,fun h h'=>?_⟩
        · rw[if_pos a];exact List.mem_singleton.2 rfl
        · exact Int.le_trans (h3 h) b
        · simp only[X2c,kS]at h⊢;omega
        · have:=h3 h
          simp only[X2c,kS]at h'⊢;omega
    · rw[if_neg hd]
      rw[if_neg (fun q=>hd q.1)]at a;exact X8r d dev t st lo hi c b e (i+1) now fr (by omega) h1 (by omega) h3 a
def X8V (r:CoRecord) (dev:Int):Int:=(r.Devices.getD dev.toNat ⟨ByteArray.empty,0,0⟩).First
def Xa6 (r:CoRecord) (ms:Nat->Int):Prop:=Sol r.Entries.length (X3C (X1M r) []) ms
end Nore
open Go Go.Ab
namespace Nore
def Xas (r:CoRecord) (ms:Nat->Int) (x:Zr):Prop:=∃s∈X3e r x,X8E r.Entries.length ms (X2c s) x.At.Lo x.At.Hi
def TrN (r:CoRecord) (l:List Zr) (ms:Nat->Int):Prop:=Xa6 r ms/\∀x∈l,Xas r ms x
theorem Xal {r:CoRecord} {l:List Zr} {ms:Nat->Int}:Xa5 r.Entries.length (X3C (X1M r) []) (l.map (X3y r)) ms↔TrN r l ms:=by
  constructor
  · rintro⟨c,b⟩
    refine⟨c,fun x e=>?_⟩;obtain⟨s,d,a⟩:=b (X3y r x) (List.mem_map.2 ⟨x,e,rfl⟩);obtain⟨t,ht,rfl⟩:=List.mem_map.1 d;exact⟨t,ht,a⟩
  · rintro⟨c,b⟩
    refine⟨c,fun w f=>?_⟩;obtain⟨x,e,rfl⟩:=List.mem_map.1 f;obtain⟨s,d,a⟩:=b x e;exact⟨X2c s,List.mem_map.2 ⟨s,d,rfl⟩,a⟩
theorem Xac (r:CoRecord):X60 r.Entries.length (X3C (X1M r) []).ap:=fun p a=>by cases a
theorem X9w {r:CoRecord} {l:List Zr}:Wh r l=true↔∃ms,TrN r l ms:=by
  have h:=X7F (X9J r l) (Xac r);unfold Wh X9i;constructor
  · intro b
    have:Xm r.Entries.length (l.map (X3y r)) (X3C (X1M r) [])≠[]:=fun e=>by rw[e]at b;cases b
    obtain⟨ms,a⟩:=h.1 this;exact⟨ms,Xal.1 a⟩
  · rintro⟨ms,a⟩
    have:=h.2 ⟨ms,Xal.2 a⟩;cases b:Xm r.Entries.length (l.map (X3y r)) (X3C (X1M r) [])with
    | nil=>exact absurd b this
    | cons=>rfl
structure Xax (r:CoRecord) (l:List Zr) (j:Nat) (s:Y2):Prop where
  lo:∃ms,TrN r l ms/\ms j=s.Lo
  hi:∃ms,TrN r l ms/\ms j=s.Hi
  all:∀ms,TrN r l ms->s.Lo<=ms j/\ms j<=s.Hi
theorem X8q {n:Nat} {ms:Nat->Int} (f:X7B n ms) (dev t st lo hi:Int) (d:lo=t) (b:hi=t):∀(e:List Zq) (i:Nat) (now fr:Int),i+e.length=n -> -1<=fr->fr<i →
    (∃s∈X5E dev st e i now fr,X8E n ms (X2c s) lo hi)->X4G dev t ms e i now=st
  | [],i,now,fr,hn,h1,h2,⟨s,a,hq⟩=>by
    rw[X5F]at a;split at a
    · rename_i h;exact h
    · cases a
  | x::e,i,now,fr,hn,h1,h2,⟨s,a,hq⟩=>by
    simp only[List.length_cons]at hn;rw[X4c];rw[X4d]at a
    by_cases hd:x.Device=dev
    · rw[if_pos hd]at a
      rcases List.mem_append.1 a with q|q
      · split at q
        · rename_i c
          rw[List.mem_singleton.1 q]at hq;have o:=hq.2.1 (by simp only[X2c,kS];omega)
          simp only[X2c,kS]at o;rw[if_neg (fun k=>by have:=k.2;omega)]
          rw[X6w dev t ms e (i+1) now fun j j1 j2=>by
            have:=X7e f (j-i) i (by omega)
            rw[show i+(j-i)=j by omega]at this
            omega]
          exact c
        · cases q
      · have g:∀(e:List Zq) (k:Nat) (now:Int) (fr:Int),0<=fr->fr<k->∀s∈X5E dev st e k now fr,fr<=s.from_:=by
          intro e
          induction e with
          | nil =>
            intro k now fr m _ s a;rw[X5F]at a;split at a
            · rw[List.mem_singleton.1 a];exact Int.le_refl _
            · cases a
          | cons y e ih =>
            intro k now fr m u s a;rw[X4d]at a;split at a
            · rcases List.mem_append.1 a with w|w
              · split at w
                · rw[List.mem_singleton.1 w];exact Int.le_refl _
                · cases w
              · have:=ih (k+1) y.State k (by omega) (by omega) s w
                omega
            · exact ih (k+1) now fr m (by omega) s a
        have r:=g e (i+1) x.State i (by omega) (by omega) s q
        have p:=(X7W dev st n e (i+1) x.State i (by omega) (by omega) (by omega)).2 s q
        have o:ms s.from_.toNat<=hi:=hq.1 (by show 0<=s.from_;omega)
        have l:=X7e f (s.from_.toNat-i) i (by omega)
        rw[show i+(s.from_.toNat-i)=s.from_.toNat by omega]at l
        rw[if_pos ⟨hd,by omega⟩]
        exact X8q f dev t st lo hi d b e (i+1) x.State i (by omega) (by omega) (by omega) ⟨s,q,hq⟩
    · rw[if_neg hd]at a
      rw[if_neg (fun k=>hd k.1)];exact X8q f dev t st lo hi d b e (i+1) now fr (by omega) h1 (by omega) ⟨s,a,hq⟩
def X6x (r:CoRecord) (ms:Nat->Int) (dev t:Int):Int:=X4G dev t ms r.Entries 0 (X8V r dev)
theorem X9M {r:CoRecord} {ms:Nat->Int} (h:Xa6 r ms) (dev st t:Int):Xas r ms ⟨dev,st,⟨t,t⟩⟩↔X6x r ms dev t=st:=by
  constructor
  · intro a
    exact X8q h.1.2.1 dev t st t t rfl rfl r.Entries 0 (X8V r dev) (-1) (by omega) (by omega) (by omega) a
  · intro a
    exact X8r h.1.2.1 dev t st t t (Int.le_refl _) (Int.le_refl _) r.Entries 0 (X8V r dev) (-1) (by omega) (by omega) (by omega) (fun h=>by omega) a
end Nore
open Go Go.Ab
namespace Nore
theorem X9y {r:CoRecord} (h:X4S r) (i:Nat) (hi:i<r.Entries.length):0<=r.Entries[i].At.Lo/\r.Entries[i].At.Lo<=r.Entries[i].At.Hi/\r.Entries[i].At.Hi<=9999:=by
  have:=(X6G (x:=⟨r.Entries[i].Device,r.Entries[i].State,r.Entries[i].At⟩) (h.ent _ (jl hi))).2;simpa using this
theorem X9Z {r:CoRecord} (h:X4S r) (i k:Nat) (f:i<=k) (c:k<r.Entries.length):(r.Entries[i]'(by omega)).At.Lo<=r.Entries[k].At.Hi:=by
  obtain⟨x,a,e⟩:=X7u r.Entries 0 0 h.order;have b:X7B r.Entries.length x:=fun j d=>e j d;have g1:=(a i (by omega)).1
  have g2:=(a k c).2.1;have g3:=X7e b (k-i) i (by omega)
  rw[show i+(k-i)=k by omega]at g3
  omega
end Nore
open Go Go.Ab
namespace Nore
theorem Xaw (i:Nat) (h:i<1000000):IntKind.wrap .i64 ((i:Int)+1)=((i+1:Nat):Int):=by rw[w64]<;>omega
theorem X6R (a b:List Int) (l:a.length<1000000):X4u a b=some (decide (a=b)):=by
  unfold X4u
  by_cases hl:a.length=b.length
  · have e:((a.length:Int) != (b.length:Int))=false:=by simp[hl]
    show(bif((a.length:Int) != (b.length:Int))then _ else _)=_;rw[e,jA];have key:=X1V (X1K b a) (fun o=>Sum.elim (fun y249:Bool=>some y249) (fun _:Unit=>some true) o) a.length (fun i (_:Unit)=>(i:Int)) (fun _ _=>True) (fun i _=>some (decide (a.drop i=b.drop i)))
      (by
        intro b' _ R;simp[X1K,X1T,hl])
      (by
        intro i b' hi _ R j;have c:i<b.length:=by omega
        have d:=j () trivial;simp only[X1K,X1T];rw[jb hi,jb c,kS,X5 _ _ _ hi,X5 _ _ _ c,Xaw i (by omega)]
        have k:decide ((i:Int)<↑a.length)=true:=by simp[hi]
        have f:=z0S i;have g:decide ((i:Int)<↑b.length)=true:=by simp[c]
        simp only[k,f,g,ju,jB]
        by_cases hp:a[i]=b[i]
        · rw[hp]
          simp only[bne_self_eq_false,jA,jS,jw];rw[d];congr 1;rw[decide_eq_decide];exact⟨fun h=>by rw[h],fun h=>(List.cons.inj h).2⟩
        · rw[X3g hp]
          simp only[jB,jS,jy,jw];congr 1;symm;rw[decide_eq_false_iff_not];intro h;exact hp (List.cons.inj h).1)
    exact(key 0 () (by omega) trivial).trans (by simp)
  · have e:((a.length:Int) != (b.length:Int))=true:=by simp;omega
    show(bif((a.length:Int) != (b.length:Int))then _ else _)=_;rw[e,jB];have:a≠b:=fun h=>hl (by rw[h])
    simp[this]
end Nore
open Go Go.Ab
namespace Nore
def X5s (l:List Zr) (dev s t:Int):List Zr:=l++[⟨dev,s,⟨t,t⟩⟩]
def XT (r:CoRecord) (l:List Zr) (dev t:Int) (k:Nat):List Int:=((List.range k).filter fun s:Nat=>Wh r (X5s l dev (s:Int) t)).map fun s:Nat=>(s:Int)
theorem X3P (r:CoRecord) (l:List Zr) (dev t:Int) (k:Nat):XT r l dev t (k+1)=XT r l dev t k++if Wh r (X5s l dev (k:Int) t)then [(k:Int)]else []:=by
  unfold XT;rw[List.range_succ,List.filter_append,List.map_append];congr 1;cases h:Wh r (X5s l dev (k:Int) t)<;>simp[h]
theorem X7K (r:CoRecord) (l:List Zr) (dev t:Int) (k:Nat):∀v∈XT r l dev t k,0<=v/\v<(k:Int):=fun v hv=>by
  obtain⟨s,a,rfl⟩:=List.mem_map.1 hv;have:=List.mem_range.1 (List.mem_filter.1 a).1;omega
theorem X4l (r:CoRecord) (l:List Zr) (dev t:Int) (k:Nat):(XT r l dev t k).length<=k:=by
  unfold XT;rw[List.length_map];exact Nat.le_trans (List.length_filter_le _ _) (by simp)
theorem X7l (r:CoRecord) (l:List Zr) (dev t:Int):∀k,(XT r l dev t k).Pairwise (· < ·)
  | 0=>List.Pairwise.nil
  | k+1=>by
    rw[X3P];refine List.pairwise_append.2 ⟨X7l r l dev t k,?_,fun a d b c=>?_⟩
    · split
      · exact List.pairwise_singleton _ _
      · exact List.Pairwise.nil
    · have:=X7K r l dev t k a d
      split at c
      · rw[List.mem_singleton.1 c];exact this.2
      · cases c
theorem X9B (n:Int):∀(l:List Int),(∀v∈l,n<v)->ZeB n l=n::l
  | [],_=>rfl
  | v::l,h=>by
    have:=h v (by simp)
    unfold ZeB;simp[Int.le_of_lt this]
theorem X8P:∀(l:List Int),l.Pairwise (· < ·)->Z3s l=l
  | [],_=>rfl
  | n::l,h=>by
    obtain⟨a,b⟩:=List.pairwise_cons.1 h;show ZeB n (Z3s l)=n::l;rw[X8P l b];exact X9B n l a
theorem X87 (k:Int):∀(m:List (Int×Int)),(∀v∈m.map Prod.fst,v≠k)->Z9O (fun a b=>a==b) k m=none
  | [],_=>rfl
  | (a,b)::m,h=>by
    have c:(k==a)=false:=X3a fun e=>h a (by simp) e.symm
    unfold Z9O;simp only[c,jA];exact X87 k m fun v hv=>h v (by simp only[jr,jv];exact .inr hv)
theorem X9n (k v:Int):∀(m:List (Int×Int)),(∀w∈m.map Prod.fst,w≠k)->Zj0 (fun a b=>a==b) k v m=m++[(k,v)]
  | [],_=>rfl
  | (a,b)::m,h=>by
    have d:(k==a)=false:=X3a fun e=>h a (by simp) e.symm
    unfold Zj0;simp only[d,jA];rw[X9n k v m fun w c=>h w (by simp only[jr,jv];exact .inr c)]
    rfl
theorem X9Q {r:CoRecord} {l:List Zr} (h:X61 r l) (c:l.length<=4) {dev t s:Int} (a:0<=dev/\dev<r.Devices.length) (ht:0<=t/\t<=9999):X61 r (X5s l dev s t) :=
  ⟨h.ent,by unfold X5s;rw[List.length_append,List.length_singleton];omega,fun x b=>by
    rcases List.mem_append.1 b with q|q
    · exact h.seen x q
    · rw[List.mem_singleton.1 q]
      exact⟨a,by simp only;omega,by simp only;omega⟩⟩
theorem X7s {r:CoRecord} {l:List Zr} (h:X61 r l) (q:l.length<=4) {dev t:Int} (g:0<=dev/\dev<r.Devices.length) (ht:0<=t/\t<=9999) {S:Nat} (u:(r.Devices.getD dev.toNat (Zm.mk ByteArray.empty 0 0)).States=(S:Int)) (m:S<=1000) :
    X22 ⟨r,l⟩ dev t=some (XT r l dev t S):=by
  rw[X47];unfold Wd;have c1:decide (0<=dev)=true:=by simp[g.1]
  have c2:decide (dev<(r.Devices.length:Int))=true:=by simp[g.2]
  simp only[c1,c2,ju,jB,u];obtain⟨w,o,f⟩:=XA (Xz dev (S:Int) t ⟨r,l⟩) S (fun i (b:List (Int×Int))=>((i:Int),b)) (fun i b=>b.map Prod.fst=XT r l dev t i) (fun w=>w.map Prod.fst=XT r l dev t S)
    (fun b d=>⟨b,by simp[Xz,XO],d⟩)
    (fun i b hi d=>by
      right;have e1:decide ((i:Int)<(S:Int))=true:=by simp;omega
      have w1:=wS i (by omega)
      have b1:Nat.ble (l.length*(32+1)) 100000000000000=true:=by rw[Nat.ble_eq];omega
      have b2:Nat.ble ((l.length+1)*(32+1)) 200000000000000=true:=by rw[Nat.ble_eq];omega
      have b3:Nat.blt 0 4=true:=rfl;have e:X2J ⟨r,l⟩ [⟨dev,(i:Int),⟨t,t⟩⟩]=some ⟨r,X5s l dev (i:Int) t⟩:=by
        rw[X4m];unfold WA;simp only[b1,b3,ju,jB,List.length_singleton,b2];rfl
      have s:X6 ⟨r,X5s l dev (i:Int) t⟩=some (Wh r (X5s l dev (i:Int) t)):=X50 (X9Q h q g ht);have a:∀v∈b.map Prod.fst,v≠(i:Int):=fun v hv=>by
        rw[d]at hv;have:=X7K r l dev t i v hv;omega
      simp only[Xz,XO,e1,jB,e,s,jS,w1,X87 _ b a,X9n _ _ b a];cases hag:Wh r (X5s l dev (i:Int) t)with
      | true=>exact⟨_,rfl,by rw[List.map_append,d,X3P,hag];rfl⟩
      | false=>exact⟨b,rfl,by rw[d,X3P,hag];simp⟩) 0 [] (Nat.zero_le _) rfl
  have k:X1D dev (S:Int) t ⟨r,l⟩ (0,[])=some w:=o;have n:w.length<=S:=by
    have:=X4l r l dev t S;rw[<-f,List.length_map]at this;exact this
  have b1:Nat.ble w.length 100000=true:=by rw[Nat.ble_eq];omega
  have b2:Nat.ble (w.map fun p=>p.fst).length 1000000=true:=by rw[Nat.ble_eq,List.length_map];omega
  have b2':Nat.ble (XT r l dev t S).length 1000000=true:=by have:=X4l r l dev t S;rw[Nat.ble_eq];omega
  have b4:Nat.beq w.length w.length=true:=Nat.beq_refl _;have b5:(Nat.beq 3 3&&Nat.beq 2 2)=true:=rfl;have b6:(Nat.beq 3 3&&Nat.beq 0 0)=true:=rfl;have j:(w.map fun p=>p.fst)=XT r l dev t S:=f;rw[k];simp only[jS,b5,b4,b1,ju,Bool.true_and,jB];cases e:w with
  | nil =>
    rw[e]at f;rw[<-f];rfl
  | cons p ps =>
    rw[<-e];have c:Nat.beq w.length 0=false:=by rw[e];rfl
    have b7:(Nat.beq 3 3&&Nat.beq 0 0&&Nat.ble (w.map fun p=>p.fst).length 1000000)=true:=by rw[b2];rfl
    have b8:(Nat.beq 1 1&&Nat.ble 8 1000&&Nat.testBit 688269427663 6)=true:=by decide +kernel
    simp only[c,jA,b2',b6,ju,Bool.true_and,jB,j,X8P _ (X7l r l dev t S)]
    first
    | rfl
    | (have b9:Nat.testBit 688269427663 6=true:=by decide +kernel
       have b10:Nat.beq 1 1=true:=rfl;have b11:Nat.ble 8 1000=true:=rfl;simp only[b9,b10,b11,b2',ju,jB])
theorem X7y {r:CoRecord} {l:List Zr} (h:X61 r l) (j:l.length<=4) {dev t:Int} (a:0<=dev/\dev<r.Devices.length) (ht:0<=t/\t<=9999) {S:Nat} (e:(r.Devices.getD dev.toNat (Zm.mk ByteArray.empty 0 0)).States=(S:Int)) (m:S<=1000) :
    X4Q r l dev t=some (XT r l dev t S):=by
  rw[X5Y];unfold X2t;obtain⟨w,o,k⟩:=XA (WW t l dev r) S (fun i (b:List Int)=>((i:Int),b)) (fun i b=>b=XT r l dev t i) (fun w=>w=XT r l dev t S)
    (fun b c=>⟨b,by
      have c1:decide (0<=dev)=true:=by simp[a.1]
      have c2:decide (dev<(r.Devices.length:Int))=true:=by simp[a.2]
      have e1:decide ((S:Int)<(S:Int))=false:=by simp
      simp only[WW,X14,c1,c2,ju,jB,e,e1,jA],c⟩)
    (fun i b hi c=>by
      right;have c1:decide (0<=dev)=true:=by simp[a.1]
      have c2:decide (dev<(r.Devices.length:Int))=true:=by simp[a.2]
      have e1:decide ((i:Int)<(S:Int))=true:=by simp;omega
      have w1:=wS i (by omega)
      have b1:Nat.ble ((0+l.length)*(32+1)) 200000000000000=true:=by rw[Nat.ble_eq];omega
      have b2:Nat.ble ((l.length+1)*(32+1)) 200000000000000=true:=by rw[Nat.ble_eq];omega
      have f:X5I l dev (i:Int) t=some (X5s l dev (i:Int) t):=by
        rw[X6W];unfold X3m;simp only[b1,jB,List.nil_append,List.length_singleton,b2];rfl
      have n:X1j r (X5s l dev (i:Int) t)=some (Wh r (X5s l dev (i:Int) t)):=X59 (X9Q h j a ht);have g:b.length<=i:=by rw[c];exact X4l r l dev t i
      have b3:Nat.ble ((b.length+1)*(8+1)) 200000000000000=true:=by rw[Nat.ble_eq];omega
      simp only[WW,X14,c1,c2,ju,jB,e,e1,f,n,jS,w1,List.length_singleton,b3];cases hag:Wh r (X5s l dev (i:Int) t)with
      | true=>exact⟨_,rfl,by rw[c,X3P,hag];rfl⟩
      | false=>exact⟨b,rfl,by rw[c,X3P,hag];simp⟩) 0 [] (Nat.zero_le _) rfl
  have d:X3J t l dev r (0,[])=some w:=o;rw[d,k];rfl
theorem X51 {r:CoRecord} (h:X4S r) {dev:Int} (a:0<=dev/\dev<r.Devices.length):∃S:Nat,(r.Devices.getD dev.toNat (Zm.mk ByteArray.empty 0 0)).States=(S:Int)/\2<=S/\S<=4:=by
  rw[X5 _ _ _ (by omega)]
  have:=(h.dev _ (jl (by omega:dev.toNat<r.Devices.length))).1
  exact⟨r.Devices[dev.toNat].States.toNat,by omega,by omega,by omega⟩
end Nore
open Go Go.Ab
namespace Nore
theorem Xaj {r:CoRecord} (h:X4S r) (ms:Nat->Int) {dev:Int} (j:0<=dev/\dev<r.Devices.length) (t:Int) {S:Nat} (c:(r.Devices.getD dev.toNat (Zm.mk ByteArray.empty 0 0)).States=(S:Int)) :
    0<=X6x r ms dev t/\X6x r ms dev t<(S:Int):=by
  have a:∀(e:List Zq) (i:Nat) (now:Int),(∀x∈e,x∈r.Entries)->0<=now/\now<(S:Int)->0<=X4G dev t ms e i now/\X4G dev t ms e i now<(S:Int):=by
    intro e
    induction e with
    | nil=>intro i now _ d;exact d
    | cons x e ih =>
      intro i now b d;rw[X4c];refine ih (i+1) _ (fun y hy=>b y (by simp[hy])) ?_
      split
      · rename_i hc
        have hE:=h.ent x (b x (by simp))
        unfold XQ at hE;have k:=h.devs;have q1:X1F 0 ((r.Devices.length:Int)-1) [x.Device]=false:=by
          cases q:X1F 0 ((r.Devices.length:Int)-1) [x.Device]with
          | false=>rfl
          | true=>rw[q]at hE;exact absurd hE (by simp)
        rw[q1,hc.1,c]at hE;have m:2<=S/\S<=4:=by
          obtain⟨S',l,n,o⟩:=X51 h j;rw[c]at l;omega
        have w1:IntKind.wrap .i64 ((S:Int)-1)=(S:Int)-1:=by rw[w64]<;>omega
        rw[w1]at hE;have q2:X1F 0 ((S:Int)-1) [x.State]=false:=by
          cases q:X1F 0 ((S:Int)-1) [x.State]with
          | false=>rfl
          | true=>rw[q]at hE;exact absurd hE (by simp)
        have:=X3v q2;omega
      · exact d
  refine a r.Entries 0 _ (fun x b=>b) ?_;have g:r.Devices.getD dev.toNat (Zm.mk ByteArray.empty 0 0)=r.Devices[dev.toNat]'(by omega):=X5 _ _ _ (by omega)
  have f:=(h.dev _ (jl (by omega:dev.toNat<r.Devices.length))).2
  rw[g]at c;rw[c]at f;show 0<=(r.Devices.getD dev.toNat ⟨ByteArray.empty,0,0⟩).First/\(r.Devices.getD dev.toNat ⟨ByteArray.empty,0,0⟩).First<(S:Int);rw[g];exact f
end Nore
open Go Go.Ab
namespace Nore
end Nore
open Go Go.Ab
namespace Nore
theorem X9U (l:List Int) (f:l.length<=1000000) (v:Int):∃k,X29 l v=some k/\(decide (k>=0)=decide (v∈l)):=by
  rw[X4a];unfold Wg;obtain⟨w,e,d⟩:=XA (XC (l.length:Int) v l) l.length (fun i (_:Unit)=>(i:Int)) (fun i _=>¬v∈l.take i)
    (fun w=>(∃i:Nat,w=.inl (i:Int)/\v∈l)\/(w=.inr ()/\¬v∈l))
    (fun _ b=>⟨.inr (),by simp[XC,XS],.inr ⟨rfl,by rwa [List.take_length]at b⟩⟩)
    (fun i _ hi b=>by
      have e1:decide ((i:Int)<(l.length:Int))=true:=by simp;omega
      have w1:=wS i (by omega)
      simp only[XC,XS,e1,z0S,kS,ju,jB,X5 _ _ _ hi,w1]
      by_cases he:v=l[i]
      · left
        have c:(v==l[i])=true:=by simp[he]
        simp only[c,jB];exact⟨_,rfl,.inl ⟨i,rfl,he▸jl hi⟩⟩
      · right
        have c:(v==l[i])=false:=X3a he;simp only[c,jA];refine⟨(),by first|rfl|trivial,fun h=>?_⟩
        rw[List.take_succ_eq_append_getElem hi]at h;rcases List.mem_append.1 h with h|h
        · exact b h
        · exact he (List.mem_singleton.1 h)) 0 () (Nat.zero_le _) (by simp)
  have a:X1H (l.length:Int) v l 0=some w:=e;rw[a];rcases d with⟨i,rfl,h⟩|⟨rfl,h⟩
  · exact⟨(i:Int),rfl,by simp[h]⟩
  · exact⟨-1,rfl,by simp[h]⟩
theorem X8T (l:List Int) (b:l.length<=1000000) (v:Int):X1g l v=some (decide (v∈l)):=by
  rw[X3p];unfold XZ;obtain⟨k,a,c⟩:=X9U l b v;simp only[a,jS,c]
def WN (r:CoRecord) (l:List Zr) (dev t:Int):List Int:=XT r l dev t (r.Devices.getD dev.toNat (Zm.mk ByteArray.empty 0 0)).States.toNat
def X2g (L:List Int) (st:Int):Int:=if st∈L then(if L.length=1 then 2 else 1)else 0
def X3f (r:CoRecord) (l:List Zr) (x:Zr):Int :=
  if(Wp r l).2≠0 then(Wp r l).2 else if XQ r x.Device x.State x.At≠0 then XQ r x.Device x.State x.At else if x.At.Lo≠x.At.Hi then 2 else if Wh r l then 0 else 9
theorem X6d (r:CoRecord) (l:List Zr) (x:Zr):X4Y r l x=some (⟨r,l⟩,X3f r l x):=by
  rw[X6L];unfold X3i;rw[X4F r l];simp only[jS];unfold X3f
  by_cases q:(Wp r l).2=0
  · obtain⟨hr,b,_⟩:=X3x q
    have a:=hr.devs;have c:((Wp r l).2==0)=true:=by simp[q]
    simp only[c,jB,if_neg (fun h:(Wp r l).2≠0=>h q),X4Z r x (by omega:r.Devices.length<=1000000),jS,X50 (X5u q)]
    by_cases q1:XQ r x.Device x.State x.At=0
    · have c1:(XQ r x.Device x.State x.At != 0)=false:=by simp[q1]
      simp only[c1,jA,if_neg (fun h:XQ r x.Device x.State x.At≠0=>h q1)]
      by_cases q2:x.At.Lo=x.At.Hi
      · have c2:(x.At.Lo != x.At.Hi)=false:=by simp[q2]
        simp only[c2,jA,if_neg (fun h:x.At.Lo≠x.At.Hi=>h q2)];unfold Wh;cases(X9i r l).isEmpty<;>rfl
      · have c2:(x.At.Lo != x.At.Hi)=true:=X3g q2
        simp only[c2,jB,if_pos q2]
    · have c1:(XQ r x.Device x.State x.At != 0)=true:=X3g q1
      simp only[c1,jB,if_pos q1]
  · have c:((Wp r l).2==0)=false:=X3a q
    have c':((Wp r l).2 != 0)=true:=X3g q;simp only[c,c',jB,jA,if_pos q]
theorem X4r {r:CoRecord} {l:List Zr} (j:X61 r l) (hr:X4S r) (h:l.length<=4) {x:Zr} (i:XQ r x.Device x.State x.At=0) :
    W4 ⟨r,l⟩ x=some (X2g (WN r l x.Device x.At.Lo) x.State):=by
  rw[X43];unfold Wb;obtain⟨d,a,m,n⟩:=X6G i;obtain⟨S,e,_,g⟩:=X51 hr d.dev;have b:=X7s j h d.dev ⟨a,by omega⟩ e (by omega)
  have k:WN r l x.Device x.At.Lo=XT r l x.Device x.At.Lo S:=by unfold WN;rw[e,kS]
  rw[k];have f:=X4l r l x.Device x.At.Lo S;simp only[b,jS,X8T _ (by omega:(XT r l x.Device x.At.Lo S).length<=1000000)]
  unfold X2g
  by_cases hm:x.State∈XT r l x.Device x.At.Lo S
  · simp only[hm,decide_true,Bool.not_true,jA,if_true]
    by_cases a:(XT r l x.Device x.At.Lo S).length=1
    · have c:(((XT r l x.Device x.At.Lo S).length:Int)==1)=true:=by simp[a]
      simp only[c,jB,if_pos a]
    · have c:(((XT r l x.Device x.At.Lo S).length:Int)==1)=false:=X3a (by omega)
      simp only[c,jA,if_neg a]
  · simp only[hm,decide_false,Bool.not_false,jB,if_false]
theorem X7Y {r:CoRecord} {l:List Zr} {x:Zr} (h:X3f r l x=0):(Wp r l).2=0/\XQ r x.Device x.State x.At=0/\x.At.Lo=x.At.Hi/\Wh r l=true:=by
  unfold X3f at h
  by_cases q:(Wp r l).2=0
  · rw[if_neg (fun k=>k q)]at h
    by_cases q1:XQ r x.Device x.State x.At=0
    · rw[if_neg (fun k=>k q1)]at h
      by_cases q2:x.At.Lo=x.At.Hi
      · rw[if_neg (fun k=>k q2)]at h
        cases q3:Wh r l with
        | true=>exact⟨q,q1,q2,rfl⟩
        | false=>rw[q3]at h;exact absurd h (by simp)
      · rw[if_pos q2]at h;exact absurd h (by simp)
    · rw[if_pos q1]at h;exact absurd h q1
  · rw[if_pos q]at h;exact absurd h q
theorem X7o (r:CoRecord) (l:List Zr) (x:Zr):X4K r l x=some (if X3f r l x≠0 then(0,X3f r l x)else(X2g (WN r l x.Device x.At.Lo) x.State,0)):=by
  rw[X5M];unfold X2l;rw[X6d];simp only[jS]
  by_cases q:X3f r l x=0
  · obtain⟨a,d,_,_⟩:=X7Y q
    obtain⟨hr,b,_⟩:=X3x a;have c:(X3f r l x != 0)=false:=by simp[q]
    simp only[c,jA,if_neg (fun k:X3f r l x≠0=>k q),X4r (X5u a) hr b d,jS]
  · have c:(X3f r l x != 0)=true:=X3g q
    simp only[c,jB,if_pos q]
theorem X8n {r:CoRecord} {l:List Zr} (hr:X4S r) {dev:Int} (e:0<=dev/\dev<r.Devices.length) (t st:Int):st∈WN r l dev t↔∃ms,TrN r l ms/\X6x r ms dev t=st:=by
  obtain⟨S,f,_,_⟩:=X51 hr e;have d:∀s,Wh r (X5s l dev s t)=true↔∃ms,TrN r l ms/\X6x r ms dev t=s:=fun s=>by
    rw[X9w];constructor
    · rintro⟨ms,c,a⟩
      exact⟨ms,⟨c,fun x b=>a x (List.mem_append.2 (.inl b))⟩,(X9M c dev s t).1 (a _ (List.mem_append.2 (.inr (List.mem_singleton.2 rfl))))⟩
    · rintro⟨ms,⟨c,a⟩,g⟩
      refine⟨ms,c,fun x b=>?_⟩;rcases List.mem_append.1 b with b|b
      · exact a x b
      · rw[List.mem_singleton.1 b]
        exact(X9M c dev s t).2 g
  unfold WN XT;rw[f,kS];constructor
  · intro h
    obtain⟨s,j,rfl⟩:=List.mem_map.1 h;exact(d _).1 (List.mem_filter.1 j).2
  · rintro⟨ms,c,a⟩
    have i:=Xaj hr ms e t f;rw[a]at i;refine List.mem_map.2 ⟨st.toNat,List.mem_filter.2 ⟨List.mem_range.2 (by omega),?_⟩,by omega⟩
    rw[show((st.toNat:Nat):Int)=st by omega]
    exact(d st).2 ⟨ms,c,a⟩
end Nore
open Go Go.Ab
namespace Nore
theorem X8c:∀(l:List Zq) (a:Int) (i:Nat),(∀k (e:k<l.length),a<=l[k].At.Hi/\∀j (g:j<=k),(l[j]'(by omega)).At.Lo<=l[k].At.Hi)->Xo a i l=(0,0)
  | [],_,_,_=>rfl
  | x::l,a,i,h=>by
    have f:=h 0 (by simp)
    have d:=f.2 0 (Nat.le_refl _);simp only[List.getElem_cons_zero]at f d;rw[X4z,if_neg (by split<;>omega)]
    refine X8c l _ (i+1) fun k e=>?_;have b:=h (k+1) (by simpa using e)
    have c:=b.2 0 (by omega)
    simp only[List.getElem_cons_succ,List.getElem_cons_zero]at b c;refine⟨by split<;>omega,fun j g=>?_⟩
    have:=b.2 (j+1) (by omega)
    simpa using this
def X3B (r:CoRecord) (i:Nat):CoRecord:=⟨r.Devices,r.Entries.set i (Zq.mk (r.Entries.getD i (Zq.mk 0 0 (Y2.mk 0 0))).Device (r.Entries.getD i (Zq.mk 0 0 (Y2.mk 0 0))).State (Y2.mk 0 9999))⟩
def X8x (e:List Zq):List (Int×Int):=e.map fun x=>(x.Device,x.State)
theorem X8p (dev st:Int):∀(e e':List Zq) (i:Nat) (now fr:Int),X8x e=X8x e'->X5E dev st e i now fr=X5E dev st e' i now fr
  | [],[],_,_,_,_=>rfl
  | x::e,y::e',i,now,fr,h=>by
    unfold X8x at h;simp only[jr,List.cons.injEq,Prod.mk.injEq]at h;rw[X4d,X4d,h.1.1,h.1.2,X8p dev st e e' (i+1) y.State i h.2,X8p dev st e e' (i+1) now fr h.2]
  | [],_::_,_,_,_,h=>by cases h
  | _::_,[],_,_,_,h=>by cases h
theorem X8m (dev t:Int) (ms:Nat->Int):∀(e e':List Zq) (i:Nat) (now:Int),X8x e=X8x e'->X4G dev t ms e i now=X4G dev t ms e' i now
  | [],[],_,_,_=>rfl
  | x::e,y::e',i,now,h=>by
    unfold X8x at h;simp only[jr,List.cons.injEq,Prod.mk.injEq]at h;rw[X4c,X4c,h.1.1,h.1.2,X8m dev t ms e e' (i+1) _ h.2]
  | [],_::_,_,_,h=>by cases h
  | _::_,[],_,_,h=>by cases h
structure X5t (r s:CoRecord):Prop where
  dev:s.Devices=r.Devices
  key:X8x s.Entries=X8x r.Entries
  wide:∀i (h:i<r.Entries.length) (h':i<s.Entries.length),s.Entries[i].At.Lo<=r.Entries[i].At.Lo/\r.Entries[i].At.Hi<=s.Entries[i].At.Hi
theorem X5t.len {r s:CoRecord} (h:X5t r s):s.Entries.length=r.Entries.length:=by
  have:=congrArg List.length h.key;unfold X8x at this;simpa using this
theorem X5t.tr {r s:CoRecord} (h:X5t r s) {l:List Zr} {ms:Nat->Int} (g:TrN r l ms):TrN s l ms:=by
  have a:=h.len;have b:∀(r:CoRecord) i (hi:i<r.Entries.length),(X3C (X1M r) []).lo i=r.Entries[i].At.Lo/\(X3C (X1M r) []).hi i=r.Entries[i].At.Hi:=fun r i hi=>by
    show((r.Entries.getD i (Zq.mk 0 0 (Y2.mk 0 0))).At).Lo=_/\((r.Entries.getD i (Zq.mk 0 0 (Y2.mk 0 0))).At).Hi=_;rw[X5 _ _ _ hi];exact⟨rfl,rfl⟩
  obtain⟨⟨⟨a1,a2,_⟩,⟨b1,_,_⟩⟩,d⟩:=g;refine⟨⟨⟨fun i hi=>?_,fun i hi=>a2 i (by omega),fun p c=>by cases c⟩,⟨fun i hi=>?_,fun i hi=>a2 i (by omega),fun p c=>by cases c⟩⟩,fun x f=>?_⟩
  · have:=a1 i (by omega)
    rw[(b r i (by omega)).1]at this
    rw[(b s i hi).1];have:=(h.wide i (by omega) hi).1
    omega
  · have:=b1 i (by omega)
    rw[(b r i (by omega)).2]at this
    rw[(b s i hi).2];have:=(h.wide i (by omega) hi).2
    omega
  · obtain⟨t,ht,j⟩:=d x f
    refine⟨t,?_,by rw[a];exact j⟩
    have e:X3e s x=X3e r x:=by
      unfold X3e;rw[h.dev];exact X8p _ _ _ _ _ _ _ h.key
    rw[e];exact ht
theorem X5t.state {r s:CoRecord} (h:X5t r s) (ms:Nat->Int) (dev t:Int):X6x s ms dev t=X6x r ms dev t:=by
  unfold X6x X8V;rw[h.dev];exact X8m _ _ _ _ _ _ _ h.key
theorem X5t.states {r s:CoRecord} (h:X5t r s) (hr:X4S r) (d:X4S s) {l:List Zr} {dev:Int} (a:0<=dev/\dev<r.Devices.length) (t:Int):∀v∈WN r l dev t,v∈WN s l dev t:=fun v hv=>by
  rw[X8n hr a]at hv;rw[X8n d (by rw[h.dev];exact a)]
  obtain⟨ms,c,b⟩:=hv;exact⟨ms,h.tr c,by rw[h.state];exact b⟩
theorem X6i (r:CoRecord) (i:Nat) (hi:i<r.Entries.length) (j:Nat) (h:j<(X3B r i).Entries.length) (h':j<r.Entries.length):(X3B r i).Entries[j]=if i=j then Zq.mk r.Entries[i].Device r.Entries[i].State (Y2.mk 0 9999)else r.Entries[j]:=by
  unfold X3B;simp only[List.getElem_set,X5 _ _ _ hi]
theorem X7f (r:CoRecord) (i:Nat):(X3B r i).Entries.length=r.Entries.length:=by unfold X3B;simp
theorem X9D {r:CoRecord} (hr:X4S r) (i:Nat) (hi:i<r.Entries.length):X5t r (X3B r i) where
  dev:=rfl
  key:=by
    unfold X8x;refine List.ext_getElem (by simp[X7f]) fun j b a=>?_
    simp only[List.length_map]at b a;simp only[List.getElem_map,X6i r i hi j b a]
    by_cases e:i=j
    · subst e;simp
    · simp[e]
  wide:=fun j h h'=>by
    rw[X6i r i hi j h' h];have:=X9y hr j h
    by_cases e:i=j
    · simp only[e,if_true];omega
    · rw[if_neg e];omega
theorem Xa0 {r s:CoRecord} (h:s.Devices=r.Devices) (dev st:Int) (p:Y2):XQ s dev st p=XQ r dev st p:=by
  unfold XQ;rw[h]
theorem X5K (r:CoRecord) (i:Nat) (dev st:Int) (p:Y2):XQ (X3B r i) dev st p=XQ r dev st p:=Xa0 (r:=r) (s:=X3B r i) rfl dev st p
theorem X9C {r:CoRecord} (hc:(WX r).2.2=0) (i:Nat) (hi:i<r.Entries.length):(WX (X3B r i)).2.2=0:=by
  have hr:=X64 hc;have b:(X3b (X3B r i)).2=0:=by
    unfold X3b;rw[X6e _ _ 0 fun x m j=>?_];obtain⟨k,g,rfl⟩:=List.getElem_of_mem m;have a:k<r.Entries.length:=by rw[<-X7f r i];exact g
    rw[X6i r i hi k g a,X5K]
    by_cases e:i=k
    · simp only[e,if_true]
      have hE:=hr.ent _ (jl a);have l:=(X6G (x:=⟨r.Entries[k].Device,r.Entries[k].State,r.Entries[k].At⟩) hE).1.dev;obtain⟨S,p,_,_⟩:=X51 hr l;unfold XQ at hE⊢;have w1:X1F 0 9999 [0,9999]=false:=by decide
      cases q1:X1F 0 ((r.Devices.length:Int)-1) [r.Entries[k].Device]with
      | true=>rw[q1]at hE;exact absurd hE (by simp)
      | false =>
        rw[q1]at hE;cases q2:X1F 0 (IntKind.wrap .i64 ((r.Devices.getD r.Entries[k].Device.toNat (Zm.mk ByteArray.empty 0 0)).States-1)) [r.Entries[k].State]with
        | true=>rw[q2]at hE;exact absurd hE (by simp)
        | false=>simp[w1]
    · rw[if_neg e]
      exact hr.ent _ (jl a)
  have d:Xo 0 0 (X3B r i).Entries=(0,0):=X8c _ 0 0 fun k g=>by
    have a:k<r.Entries.length:=by rw[<-X7f r i];exact g
    have bk:=X9y hr k a;rw[X6i r i hi k g a];refine⟨by split<;>first|omega|(simp only;omega),fun j n=>?_⟩
    have f:j<r.Entries.length:=by omega
    have bj:=X9y hr j f;have o:=X9Z hr j k n a;rw[X6i r i hi j (by omega) f]
    split<;>split<;>first|omega|(simp only;omega)
  unfold WX at hc⊢;have h:(X3B r i).Entries.length=r.Entries.length:=X7f r i;have c:X49 (X3B r i)=X49 r:=rfl;rw[show(X3B r i).Devices=r.Devices from rfl,h,c];cases q1:X1F 1 4 [(r.Devices.length:Int)]||decide ((r.Entries.length:Int)>10)with
  | true=>rw[q1]at hc;exact absurd hc (by simp)
  | false =>
    rw[q1]at hc;simp only[jg,if_false]at hc⊢
    by_cases q3:(X49 r).2=0
    · rw[if_neg (fun k=>k q3),if_neg (fun k=>k b),d]
      rfl
    · rw[if_pos q3]at hc;exact absurd hc q3
structure Xat (r:CoRecord) (l:List Zr) (i:Nat):Prop where
  rec_:X4S (X3B r i)
  sees:Wp (X3B r i) l=(0,0)
  wide:X5t r (X3B r i)
theorem X9L {r:CoRecord} {l:List Zr} (h:(Wp r l).2=0) (i:Nat) (hi:i<r.Entries.length):Xat r l i:=by
  have hc:=X9C (X75 h) i hi;obtain⟨hr,b,c⟩:=X3x h;exact⟨X64 hc,X9N hc b fun x a=>by rw[X5K];exact c x a,X9D hr i hi⟩
theorem Xa4 {r:CoRecord} (a:r.Entries.length<=10) (i:Nat) (hi:i<r.Entries.length):X5H r (i:Int)=some (X3B r i):=by
  rw[X6S];unfold X3k;have b1:Nat.ble ((0+r.Entries.length)*(32+1)) 200000000000000=true:=by rw[Nat.ble_eq];omega
  have e1:decide ((i:Int)<(r.Entries.length:Int))=true:=by simp;omega
  have e2:Nat.blt i r.Entries.length=true:=by rw[Nat.blt_eq];exact hi
  simp only[b1,jB,List.nil_append,z0S,e1,ju,kS,e2];rfl
def X8b (r:CoRecord) (l:List Zr) (x:Zr) (i:Nat):Int:=X2g (WN (X3B r i) l x.Device x.At.Lo) x.State
def X3u (r:CoRecord) (l:List Zr) (x:Zr) (k:Nat):List Int:=((List.range k).filter fun i:Nat=>X8b r l x i==1).map fun i:Nat=>(i:Int)
theorem X4L (r:CoRecord) (l:List Zr) (x:Zr) (k:Nat):X3u r l x (k+1)=X3u r l x k++if X8b r l x k==1 then [(k:Int)]else []:=by
  unfold X3u;rw[List.range_succ,List.filter_append,List.map_append];congr 1;cases h:X8b r l x k==1<;>simp[h]
theorem X6g (r:CoRecord) (l:List Zr) (x:Zr) (k:Nat):(X3u r l x k).length<=k:=by
  unfold X3u;rw[List.length_map];exact Nat.le_trans (List.length_filter_le _ _) (by simp)
theorem X7N (r:CoRecord) (l:List Zr) (x:Zr):X5g r l x=some (if X3f r l x≠0 then([],X3f r l x)else if X2g (WN r l x.Device x.At.Lo) x.State=1 then([],4)else(X3u r l x r.Entries.length,0)):=by
  rw[X67];unfold X2U;rw[X6d];simp only[jS]
  by_cases q:X3f r l x=0
  · obtain⟨e,h,_,_⟩:=X7Y q
    obtain⟨hr,g,_⟩:=X3x e;have c:(X3f r l x != 0)=false:=by simp[q]
    simp only[c,jA,if_neg (fun k:X3f r l x≠0=>k q),X4r (X5u e) hr g h,jS]
    by_cases q2:X2g (WN r l x.Device x.At.Lo) x.State=1
    · have c2:(X2g (WN r l x.Device x.At.Lo) x.State==1)=true:=by simp[q2]
      simp only[c2,jB,if_pos q2]
    · have c2:(X2g (WN r l x.Device x.At.Lo) x.State==1)=false:=X3a q2
      simp only[c2,jA,if_neg q2];obtain⟨w,g1,g2⟩:=XA (X17 l (r.Entries.length:Int) x r) r.Entries.length (fun i (b:List Int)=>((i:Int),b)) (fun i b=>b=X3u r l x i) (fun w=>w=X3u r l x r.Entries.length)
        (fun b a=>⟨b,by simp[X17,X1n],a⟩)
        (fun i b hi a=>by
          right;have m:=hr.many;have f:=X9L e i hi;have e1:decide ((i:Int)<(r.Entries.length:Int))=true:=by simp;omega
          have e2:Nat.blt i r.Entries.length=true:=by rw[Nat.blt_eq];exact hi
          have b1:Nat.ble (r.Entries.length*(32+1)) 100000000000000=true:=by rw[Nat.ble_eq];omega
          have b2:Nat.blt 0 4=true:=rfl;have j:b.length<=i:=by rw[a];exact X6g r l x i
          have b3:Nat.ble ((b.length+1)*(8+1)) 200000000000000=true:=by rw[Nat.ble_eq];omega
          have w1:=wS i (by omega)
          have d:W4 ⟨⟨r.Devices,r.Entries.set i (Zq.mk (r.Entries.getD i (Zq.mk 0 0 (Y2.mk 0 0))).Device (r.Entries.getD i (Zq.mk 0 0 (Y2.mk 0 0))).State (Y2.mk 0 9999))⟩,l⟩ x=some (X8b r l x i) :=
            X4r (r:=X3B r i) (X5u (by rw[f.sees])) f.rec_ g (by rw[X5K];exact h)
          simp only[X17,X1n,e1,e2,b1,b2,z0S,kS,ju,jB,d,jS,w1,List.length_singleton,b3];cases ha:X8b r l x i==1 with
          | true=>exact⟨_,rfl,by rw[a,X4L,ha];rfl⟩
          | false=>exact⟨b,rfl,by rw[a,X4L,ha];simp⟩) 0 [] (Nat.zero_le _) rfl
      have g1':X3T l (r.Entries.length:Int) x r (0,[])=some w:=g1;rw[g1',g2];rfl
  · have c:(X3f r l x != 0)=true:=X3g q
    simp only[c,jB,if_pos q]
end Nore
open Go Go.Ab
namespace Nore
theorem X9z {r:CoRecord} (x:Zr):X1E (fun _ (x:Zr)=>XQ r x.Device x.State x.At) 0 [x]=if XQ r x.Device x.State x.At≠0 then(0,XQ r x.Device x.State x.At)else(0,0):=rfl
theorem Xai {r:CoRecord} (hc:(WX r).2.2=0) (x:Zr):(Wp r [x]).2=XQ r x.Device x.State x.At:=by
  unfold Wp;rw[if_neg (fun q=>q hc),if_neg (by simp),X9z]
  by_cases h:XQ r x.Device x.State x.At=0
  · rw[if_neg (fun q=>q h),h]
  · rw[if_pos h]
structure Xay (r:CoRecord) (out:List Zq) (k:Nat):Prop where
  len:out.length=k
  ent:∀j (h:j<out.length) (h':j<r.Entries.length),out[j].Device=r.Entries[j].Device/\out[j].State=r.Entries[j].State/\r.Entries[j].At.Lo<=out[j].At.Lo/\out[j].At.Lo<=out[j].At.Hi/\out[j].At.Hi<=r.Entries[j].At.Hi
end Nore
open Go Go.Ab
namespace Nore
theorem X5V (r:CoRecord) (l:List Zr) (x:Zr):X4B r l x=some (X3f r l x):=by
  rw[X6q];unfold X33;simp only[X4I,jS];unfold X3f
  by_cases q:(Wp r l).2=0
  · have c:((Wp r l).2==0)=true:=by simp[q]
    have c':((0:Int)==0)=true:=rfl;simp only[c,jB,if_neg (fun h:(Wp r l).2≠0=>h q),Xai (X75 q) x]
    by_cases q1:XQ r x.Device x.State x.At=0
    · have c1:(XQ r x.Device x.State x.At==0)=true:=by simp[q1]
      simp only[c1,jB,if_neg (fun h:XQ r x.Device x.State x.At≠0=>h q1),X59 (X5u q),jS]
      by_cases q2:x.At.Lo=x.At.Hi
      · have c2:(x.At.Lo != x.At.Hi)=false:=by simp[q2]
        simp only[c2,jA,if_neg (fun h:x.At.Lo≠x.At.Hi=>h q2),q1];unfold Wh;cases(X9i r l).isEmpty<;>rfl
      · have c2:(x.At.Lo != x.At.Hi)=true:=X3g q2
        simp only[c2,jB,if_pos q2]
    · have c1:(XQ r x.Device x.State x.At==0)=false:=X3a q1
      simp only[c1,jA,if_pos q1]
  · have c:((Wp r l).2==0)=false:=X3a q
    simp only[c,jA,if_pos q]
theorem X4v {r:CoRecord} {l:List Zr} (p:X61 r l) (hr:X4S r) (m:l.length<=4) {x:Zr} (n:XQ r x.Device x.State x.At=0) :
    X2P r l x=some (X2g (WN r l x.Device x.At.Lo) x.State):=by
  rw[X5T];unfold X2r;obtain⟨g,a,q,s⟩:=X6G n;obtain⟨S,j,_,k⟩:=X51 hr g.dev;have f:=X7y p m g.dev ⟨a,by omega⟩ j (by omega)
  have o:WN r l x.Device x.At.Lo=XT r l x.Device x.At.Lo S:=by unfold WN;rw[j,kS]
  rw[o];have b:=X4l r l x.Device x.At.Lo S;simp only[f,jS];generalize XT r l x.Device x.At.Lo S=L at b;obtain⟨w,g1,g2⟩:=XA (WS L x) L.length (fun i (_:Unit)=>(i:Int)) (fun i _=>¬x.State∈L.take i)
    (fun w=>(w=.inl (if L.length=1 then 2 else 1)/\x.State∈L)\/(w=.inr ()/\¬x.State∈L))
    (fun _ d=>⟨.inr (),by
      have e:decide ((L.length:Int)<(L.length:Int))=false:=by simp
      simp only[WS,WZ,e,jA],.inr ⟨rfl,by rwa [List.take_length]at d⟩⟩)
    (fun i _ hi d=>by
      have e1:decide ((i:Int)<(L.length:Int))=true:=by simp;omega
      have w1:=wS i (by omega)
      simp only[WS,WZ,e1,z0S,kS,ju,jB,X5 _ _ _ hi,w1]
      by_cases he:L[i]=x.State
      · left
        have c:(L[i]==x.State)=true:=by simp[he]
        simp only[c,jB]
        by_cases a:L.length=1
        · have c1:((L.length:Int)==1)=true:=by simp[a]
          simp only[c1,jB];exact⟨_,rfl,.inl ⟨by rw[if_pos a],he▸jl hi⟩⟩
        · have c1:((L.length:Int)==1)=false:=X3a (by omega)
          simp only[c1,jA];exact⟨_,rfl,.inl ⟨by rw[if_neg a],he▸jl hi⟩⟩
      · right
        have c:(L[i]==x.State)=false:=X3a he;simp only[c,jA];refine⟨(),by first|rfl|trivial,fun h=>?_⟩
        rw[List.take_succ_eq_append_getElem hi]at h;rcases List.mem_append.1 h with h|h
        · exact d h
        · exact he (List.mem_singleton.1 h).symm) 0 () (Nat.zero_le _) (by simp)
  have g1':X3E L x 0=some w:=g1;rw[g1'];unfold X2g;rcases g2 with⟨rfl,h⟩|⟨rfl,h⟩
  · rw[if_pos h];rfl
  · rw[if_neg h];rfl
theorem X7v (r:CoRecord) (l:List Zr) (x:Zr):X4N r l x=some (if X3f r l x≠0 then(0,X3f r l x)else(X2g (WN r l x.Device x.At.Lo) x.State,0)):=by
  rw[X5R];unfold X2q;rw[X5V];simp only[jS]
  by_cases q:X3f r l x=0
  · obtain⟨a,d,_,_⟩:=X7Y q
    obtain⟨hr,b,_⟩:=X3x a;have c:(X3f r l x != 0)=false:=by simp[q]
    simp only[c,jA,if_neg (fun k:X3f r l x≠0=>k q),X4v (X5u a) hr b d,jS]
  · have c:(X3f r l x != 0)=true:=X3g q
    simp only[c,jB,if_pos q]
theorem X7R (r:CoRecord) (l:List Zr) (x:Zr):X5n r l x=some (if X3f r l x≠0 then([],X3f r l x)else if X2g (WN r l x.Device x.At.Lo) x.State=1 then([],4)else(X3u r l x r.Entries.length,0)):=by
  rw[X6m];unfold X31;rw[X5V];simp only[jS]
  by_cases q:X3f r l x=0
  · obtain⟨f,j,_,_⟩:=X7Y q
    obtain⟨hr,h,_⟩:=X3x f;have c:(X3f r l x != 0)=false:=by simp[q]
    have c':(X3f r l x==0)=true:=by simp[q]
    simp only[c,c',jB,jA,if_neg (fun k:X3f r l x≠0=>k q),X4v (X5u f) hr h j,jS]
    by_cases q2:X2g (WN r l x.Device x.At.Lo) x.State=1
    · have c2:(X2g (WN r l x.Device x.At.Lo) x.State==1)=true:=by simp[q2]
      simp only[c2,jB,if_pos q2]
    · have c2:(X2g (WN r l x.Device x.At.Lo) x.State==1)=false:=X3a q2
      simp only[c2,jA,if_neg q2];obtain⟨w,g1,g2⟩:=XA (X1b l x r) r.Entries.length (fun i (b:List Int)=>((i:Int),b)) (fun i b=>b=X3u r l x i) (fun w=>w=X3u r l x r.Entries.length)
        (fun b a=>⟨b,by
          have e:decide ((r.Entries.length:Int)<(r.Entries.length:Int))=false:=by simp
          simp only[X1b,X1v,e,jA],a⟩)
        (fun i b hi a=>by
          right;have n:=hr.many;have g:=X9L f i hi;have e1:decide ((i:Int)<(r.Entries.length:Int))=true:=by simp;omega
          have m:b.length<=i:=by rw[a];exact X6g r l x i
          have b3:Nat.ble ((b.length+1)*(8+1)) 200000000000000=true:=by rw[Nat.ble_eq];omega
          have w1:=wS i (by omega)
          have d:X2P (X3B r i) l x=some (X8b r l x i) :=
            X4v (r:=X3B r i) (X5u (by rw[g.sees])) g.rec_ h (by rw[X5K];exact j)
          simp only[X1b,X1v,e1,jB,Xa4 n i hi,d,jS,w1,List.length_singleton,b3];cases ha:X8b r l x i==1 with
          | true=>exact⟨_,rfl,by rw[a,X4L,ha];rfl⟩
          | false=>exact⟨b,rfl,by rw[a,X4L,ha];simp⟩) 0 [] (Nat.zero_le _) rfl
      have g1':X2N l x r (0,[])=some w:=g1;rw[g1',g2];rfl
  · have c:(X3f r l x != 0)=true:=X3g q
    have c':(X3f r l x==0)=false:=X3a q;simp only[c,c',jB,jA,if_pos q]
end Nore
open Go Go.Ab
namespace Nore
def X3D (b:Nat):Nat->Nat->List (List Int)
  | 0,_=>[[]]
  | k+1,f=>(List.range' f (b-f)).flatMap fun n=>(X3D b k (n+1)).map ((n:Int) :: ·)
def X9t (m n:Nat):List Int:=X3 m 0 (List.replicate n ())
theorem X8O {α:Type} (m:Nat):∀(l:List α) (i:Nat),X3 m i l=X3 m i (List.replicate l.length ())
  | [],_=>rfl
  | x::l,i=>by rw[Wk,List.length_cons,List.replicate_succ,Wk,X8O m l (i+1)]
theorem X8l {α:Type} (m:Nat) (l:List α):X3 m 0 l=X9t m l.length:=X8O m l 0
theorem X84:∀(b k f:Fin 5),(X3D b.1 k.1 f.1).length<=6/\∀s∈X3D b.1 k.1 f.1,s.length=k.1:=by decide +kernel
theorem X86:∀(b k:Fin 5),∀s∈X3D b.1 k.1 0,∃m:Fin 16,s=X9t m.1 b.1:=by decide +kernel
theorem X9V:∀(b:Fin 5) (m:Fin 16),(X9t m.1 b.1).length<5/\X9t m.1 b.1∈X3D b.1 (X9t m.1 b.1).length 0:=by decide +kernel
instance aheadD (a b:List Int):Decidable (Z3z a b):=by unfold Z3z;infer_instance
theorem X9W:∀(b k:Fin 5),(X3D b.1 k.1 0).Pairwise fun x y=>¬Z3z y x:=by decide +kernel
theorem X7x (f g:(Int×Int×Int×Unit)->Option (List (List Int))) (h:∀x r,f x=some r->g x=some r) (x:Int×Int×Int×Unit) (r:List (List Int)) (hr:W6 f x=some r):W6 g x=some r:=by
  unfold W6 X1l at hr⊢;refine X37 hr (fun e=>e) fun b=>?_;refine X3V b (fun w a=>?_) fun _ e=>e;unfold X2Q at a⊢;refine X8i (fun s y hy=>?_) a;unfold WD WI at hy⊢;refine X37 hy (fun hy=>?_) fun e=>e;exact X3V hy (fun _ e=>h _ _ e) fun u c=>c
theorem Xag (ih:(Int×Int×Int×Unit)->Option (List (List Int))) (X:List (List Int)) (n:Int) (acc:List (List Int)) (hX:X.length<=6) (d:∀s∈X,s.length<=4) (f:acc.length<=1000):X2R ih X n (0,acc)=some (acc++X.map (n :: ·)):=by
  obtain⟨w,g1,g2⟩:=XA (X1e ih X n) X.length (fun i (b:List (List Int))=>((i:Int),b)) (fun i b=>b=acc++(X.take i).map (n :: ·)) (fun w=>w=acc++X.map (n :: ·))
    (fun b a=>⟨b,by
      have e:decide ((X.length:Int)<(X.length:Int))=false:=by simp
      simp only[X1e,X1x,e,jA],by rw[List.take_length]at a;exact a⟩)
    (fun i b hi a=>by
      right;have e1:decide ((i:Int)<(X.length:Int))=true:=by simp;omega
      have w1:=wS i (by omega)
      have g:=d _ (jl hi);have c:b.length<=1006:=by rw[a,List.length_append,List.length_map,List.length_take];omega
      have b1:Nat.ble ((1+X[i].length)*(8+1)) 200000000000000=true:=by rw[Nat.ble_eq];omega
      have b2:Nat.ble ((b.length+1)*(24+1)) 200000000000000=true:=by rw[Nat.ble_eq];omega
      simp only[X1e,X1x,e1,z0S,kS,ju,jB,X5 _ _ _ hi,w1,List.length_singleton,b1,b2];refine⟨_,rfl,?_⟩;rw[a,List.take_succ_eq_append_getElem hi,List.map_append,jj];rfl) 0 acc (Nat.zero_le _) (by simp)
  have g1':X2R ih X n (0,acc)=some w:=g1;rw[g1',g2]
theorem X85 (b:Nat) (j:b<=4):∀(k f:Nat),k<=4->f<=b->Z9E W6 (k+1) ((f:Int),(b:Int),(k:Int),())=some (X3D b k f)
  | 0,f,_,_=>by
    show X1l (Z9E W6 0) f b ((0:Nat):Int)=some [[]];unfold X1l;rfl
  | k+1,f,hk,hf=>by
    show X1l (Z9E W6 (k+1)) f b ((k+1:Nat):Int)=_;unfold X1l;have c:(((k+1:Nat):Int)==0)=false:=X3a (by omega)
    obtain⟨w,g1,g2⟩:=XA (WD (Z9E W6 (k+1)) (b:Int) ((k+1:Nat):Int)) b (fun i (a:List (List Int))=>((i:Int),a))
      (fun i a=>f<=i/\a=((List.range' f (i-f)).flatMap fun n=>(X3D b k (n+1)).map ((n:Int) :: ·))/\a.length<=6*(i-f)) (fun w=>w=X3D b (k+1) f)
      (fun a g=>⟨a,by
        have e:decide ((b:Int)<(b:Int))=false:=by simp
        simp only[WD,WI,e,jA],g.2.1⟩)
      (fun i a hi g=>by
        right;obtain⟨q0,q1,q2⟩:=g;have e1:decide ((i:Int)<(b:Int))=true:=by simp;omega
        have w1:=wS i (by omega)
        have w2:IntKind.wrap .i64 (((k+1:Nat):Int)-1)=(k:Int):=by rw[w64]<;>omega
        have h:=X85 b j k (i+1) (by omega) (by omega)
        have d:=X84 ⟨b,by omega⟩ ⟨k,by omega⟩ ⟨i+1,by omega⟩
        simp only at d;simp only[WD,WI,e1,jB,w1,w2,h,jS,Xag _ _ (i:Int) a d.1 (fun s l=>by rw[d.2 s l];omega) (by omega)]
        refine⟨_,rfl,by omega,?_,?_⟩
        · rw[q1,show i+1-f=i-f+1 by omega,List.range'_1_concat,List.flatMap_append,show f+(i-f)=i by omega]
          simp
        · rw[List.length_append,List.length_map]
          have:=d.1;omega) f [] hf ⟨Nat.le_refl _,by simp,by simp⟩
    have g1':X2Q (Z9E W6 (k+1)) (b:Int) ((k+1:Nat):Int) ((f:Int),[])=some w:=g1;simp only[c,jA,g1',jS,g2]
theorem X7T (b:Nat) (c:b<=4) (k:Nat) (a:k<=4):X5q 0 (b:Int) (k:Int)=some (X3D b k 0):=by
  unfold X5q;exact X74 X7x (X85 b c k 0 a (Nat.zero_le _))
noncomputable def okS (r:CoRecord) (l:List Zr) (s:List Int):Bool:=match X3L l s with
  | some q=>Wh r q
  | none=>false
theorem X8a {r:CoRecord} {l:List Zr} (a:l.length<=4) (m:Nat):okS r l (X3 m 0 l)=Wh r (XP m 0 l):=by
  unfold okS;rw[X5o l (by omega) m]
theorem Xa7 {r:CoRecord} {l:List Zr} (h:(Wp r l).2=0) (k:Nat) (p:k<=4) :
    X2O l (X3D l.length k 0) r 0=some (match(X3D l.length k 0).find? (okS r l)with|some s=>.inl (0,s)|none=>.inr ()):=by
  obtain⟨hr,n,_⟩:=X3x h;have a:=X86 ⟨l.length,by omega⟩ ⟨k,by omega⟩
  have c:=X84 ⟨l.length,by omega⟩ ⟨k,by omega⟩ ⟨0,by omega⟩
  simp only at a c;generalize X3D l.length k 0=X at a c;obtain⟨w,g1,g2⟩:=XA (X1c l X r) X.length (fun i (_:Unit)=>(i:Int)) (fun i _=>∀s∈X.take i,okS r l s=false)
    (fun w=>w=(match X.find? (okS r l)with|some s=>.inl (0,s)|none=>.inr ()))
    (fun _ f=>⟨.inr (),by
      have e:decide ((X.length:Int)<(X.length:Int))=false:=by simp
      simp only[X1c,X1w,e,jA],by
      rw[List.take_length]at f;rw[List.find?_eq_none.2 fun s b=>by rw[f s b];decide]⟩)
    (fun i _ hi f=>by
      have e1:decide ((i:Int)<(X.length:Int))=true:=by simp;omega
      have hX:=c.1;have w1:=wS i (by omega)
      obtain⟨m,g⟩:=a _ (jl hi);rw[<-X8l m.1 l]at g;have d:=X8a (r:=r) n m.1;rw[<-g]at d;have j:=X5o l (by omega) m.1
      rw[<-g]at j;have o:X1j r (XP m.1 0 l)=some (Wh r (XP m.1 0 l)):=X59 (X5u (by rw[X9H h]))
      simp only[X1c,X1w,e1,z0S,kS,ju,jB,X5 _ _ _ hi,w1,j,jS,o];cases ha:Wh r (XP m.1 0 l)with
      | true =>
        left;rw[ha]at d;refine⟨_,rfl,?_⟩;have:X.find? (okS r l)=some X[i]:=by
          rw[List.find?_eq_some_iff_append];refine⟨d,X.take i,X.drop (i+1),?_,fun s b=>by rw[f s b];rfl⟩
          rw[<-jb hi,List.take_append_drop]
        rw[this]
      | false =>
        right;rw[ha]at d;refine⟨(),rfl,fun s b=>?_⟩;rw[List.take_succ_eq_append_getElem hi]at b;rcases List.mem_append.1 b with b|b
        · exact f s b
        · rw[List.mem_singleton.1 b];exact d) 0 () (Nat.zero_le _) (by simp)
  have g1':X2O l X r 0=some w:=g1;rw[g1',g2]
theorem X7S (r:CoRecord) (l:List Zr):X5p r l=X3h r l:=by
  rw[X6o];unfold X32;rw[X4I]
  by_cases h:(Wp r l).2=0
  · obtain⟨hr,p,_⟩:=X3x h
    obtain⟨m,h1,y,h3⟩:=X6a h;rw[h1];have c:((Wp r l).2 != 0)=false:=by simp[h]
    have hp:=Nat.two_pow_pos l.length;have hp4:2 ^ l.length<=2 ^ 4:=Nat.pow_le_pow_right (by omega) p
    have o:=X7z m l.length l 0 (by omega)
    have b:=X9V ⟨l.length,by omega⟩ ⟨m % 2 ^ l.length,by have:=Nat.mod_lt m hp;omega⟩
    simp only at b;rw[<-X8l,o]at b;have x:okS r l (X3 m 0 l)=true:=by rw[X8a p];exact y
    have a:∀k,k<=4->∀s∈X3D l.length k 0,okS r l s=true->Z3z (X3 m 0 l) s:=fun k hk s j g=>by
      obtain⟨m1,e⟩:=X86 ⟨l.length,by omega⟩ ⟨k,by omega⟩ s j
      simp only at e;rw[<-X8l]at e;rw[e]at g⊢;rw[X8a p]at g;exact h3 _ g
    have t:∀k,k<(X3 m 0 l).length->(X3D l.length k 0).find? (okS r l)=none:=fun k hk=>by
      rw[List.find?_eq_none];intro s j g;have v:=a k (by omega) s j g
      have n:=(X84 ⟨l.length,by omega⟩ ⟨k,by omega⟩ ⟨0,by omega⟩).2 s j
      simp only at n;rcases v with q|q
      · omega
      · omega
    have u:(X3D l.length (X3 m 0 l).length 0).find? (okS r l)=some (X3 m 0 l):=by
      have d:=X9W ⟨l.length,by omega⟩ ⟨(X3 m 0 l).length,b.1⟩
      simp only at d;obtain⟨xs1,ys1,f⟩:=List.append_of_mem b.2;rw[List.find?_eq_some_iff_append];refine⟨x,xs1,ys1,f,fun s j=>?_⟩;cases g:okS r l s with
      | false=>rfl
      | true =>
        have v:=a (X3 m 0 l).length (by omega) s (by rw[f];simp[j]) g
        rw[f,List.pairwise_append]at d;exact absurd v (d.2.2 s j _ (by simp))
    obtain⟨w,g1,g2⟩:=XA (X28 l r) ((X3 m 0 l).length+1) (fun i (_:Unit)=>(i:Int)) (fun i _=>i<=(X3 m 0 l).length) (fun w=>w=.inl (0,X3 m 0 l))
      (fun _ z=>by omega)
      (fun i _ hi z=>by
        have n:=X4R m l 0;have e1:decide ((i:Int)<=(l.length:Int))=true:=by simp;omega
        have w1:=wS i (by omega)
        simp only[X28,X2k,e1,jB,X7T l.length p i (by omega),jS,Xa7 h i (by omega),w1]
        by_cases e:i=(X3 m 0 l).length
        · left
          rw[e,u];exact⟨_,rfl,rfl⟩
        · right
          rw[t i (by omega)]
          exact⟨(),rfl,by omega⟩) 0 () (Nat.zero_le _) (Nat.zero_le _)
    have g1':X3Y l r 0=some w:=g1;simp only[jS,c,jA,g1',g2,jw]
  · rw[X5O h]
    have c:((Wp r l).2 != 0)=true:=X3g h;simp only[jS,c,jB]
theorem X77 (r:CoRecord) (l:List Zr) (q:Zr):X2K r l q=some true:=by
  rw[X4o];unfold WB;have b:∃a e,X3h r l=some (a,e)/\a.length<=1000:=by
    by_cases h:(Wp r l).2=0
    · obtain⟨_,g,_⟩:=X3x h
      obtain⟨m,c,_⟩:=X6a h;have:=X4R m l 0;exact⟨_,_,c,by omega⟩
    · exact⟨_,_,X5O h,by simp⟩
  obtain⟨a,e,b,d⟩:=b;have hh:(if X3f r l q≠0 then(([]:List Int),X3f r l q)else if X2g (WN r l q.Device q.At.Lo) q.State=1 then([],4)else(X3u r l q r.Entries.length,0)).1.length<1000000:=by
    split
    · simp
    · rename_i h
      have f:X3f r l q=0:=Classical.not_not.1 h;obtain⟨hr,_,_⟩:=X3x (X7Y f).1;have i:=hr.many;split
      · simp
      · have:=X6g r l q r.Entries.length
        show(X3u r l q r.Entries.length).length<1000000;omega
  have b2:∀a:Int,(a != a)=false:=fun a=>by simp
  have b3:∀a:Int,(a==a)=true:=fun a=>by simp
  simp only[X7o,X7v,X7N,X7R,X7S,b,jS,b2,b3,jA,X6R _ _ hh,X6R a a (by omega),decide_true,Bool.not_true,jB]
end Nore
