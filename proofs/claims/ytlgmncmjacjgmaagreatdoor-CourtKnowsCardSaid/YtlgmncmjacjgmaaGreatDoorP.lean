/- The plain functions of the program and of the document answer alike. -/
import Derived.Test.YtlgmncmjacjgmaaGreatDoorY
import Derived.Test.YtlgmncmjacjgmaaGreatDoorD
set_option linter.unusedSectionVars false
set_option linter.unusedVariables false
set_option linter.unusedSimpArgs false
open Go Go.Ab
namespace Nore
theorem w64 {x:Int} (a : -9223372036854775808<=x) (b:x<=9223372036854775807):IntKind.wrap .i64 x=x:=by
  simp only[IntKind.wrap,IntKind.signed,IntKind.bits];simp;omega
theorem jS {α β:Type} (a:α) (f:α->Option β):Option.bind (some a) f=f a:=rfl
theorem kS (n:Nat):Int.toNat (n:Int)=n:=rfl
theorem wS (i:Nat) (h:i<9223372036854775807):IntKind.wrap .i64 ((i:Int)+1)=((i+1:Nat):Int):=by rw[w64]<;>omega
theorem z0S (i:Nat):decide ((0:Int)<=↑i)=true:=by simp
theorem X6c {σ ω γ:Type} (st:σ->Option (σ⊕ω)) (k:ω->Option γ) (s:σ):Option.bind (Z8I st s) k=Option.bind (st s) (Sum.elim (fun s'=>Option.bind (Z8I st s') k) k):=by
  rw[ZjJ];cases st s with
  | none=>rfl
  | some r=>cases r<;>rfl
theorem X1y {β σ ω γ:Type} (st:σ->Option (σ⊕ω)) (k:ω->Option γ) (n:Nat) (emb:Nat->β->σ) (P:Nat->β->Prop) (nice:Nat->β->Option γ)
    (d:∀b,P n b->∀R:σ->Option γ,Option.bind (st (emb n b)) (Sum.elim R k)=nice n b)
    (e:∀i b,i<n->P i b->∀R:σ->Option γ,(∀b',P (i+1) b'->R (emb (i+1) b')=nice (i+1) b')->Option.bind (st (emb i b)) (Sum.elim R k)=nice i b) :
    ∀i b,i<=n->P i b->Option.bind (Z8I st (emb i b)) k=nice i b:=by
  intro i b hi c
  induction hj:n-i generalizing i b with
  | zero =>
    have:i=n:=by omega
    subst this;rw[X6c];exact d b c _
  | succ j ih =>
    rw[X6c];exact e i b (by omega) c _ fun b' a=>ih (i+1) b' (by omega) a (by omega)
theorem X2s {a b:Int} (h:¬a=b):(a==b)=false:=beq_eq_false_iff_ne.2 h
theorem X2E {a b:Int} (h:¬a=b):(a != b)=true:=bne_iff_ne.2 h
theorem XZ {α:Type} (l:List α) (i:Nat) (d:α) (h:i<l.length):l.getD i d=l[i]:=by simp[List.getD,h]
theorem X1X {β σ ω:Type} (st:σ->Option (σ⊕ω)) (n:Nat) (emb:Nat->β->σ) (P:Nat->β->Prop) (Q:ω->Prop)
    (e:∀b,P n b->∃w,st (emb n b)=some (.inr w)/\Q w)
    (g:∀i b,i<n->P i b->(∃w,st (emb i b)=some (.inr w)/\Q w)\/∃b',st (emb i b)=some (.inl (emb (i+1) b'))/\P (i+1) b') :
    ∀i b,i<=n->P i b->∃w,Z8I st (emb i b)=some w/\Q w:=by
  intro i b hi d
  induction hj:n-i generalizing i b with
  | zero =>
    have:i=n:=by omega
    subst this;obtain⟨w,c,a⟩:=e b d;exact⟨w,by rw[ZjJ,c];rfl,a⟩
  | succ j ih =>
    rcases g i b (by omega) d with⟨w,c,a⟩|⟨b',c,a⟩
    · exact⟨w,by rw[ZjJ,c];rfl,a⟩
    · obtain⟨w,f,h⟩:=ih (i+1) b' (by omega) a (by omega)
      exact⟨w,by rw[ZjJ,c];exact f,h⟩
end Nore
namespace Nore
structure Con where
  lo:Nat->Int
  hi:Nat->Int
  ap:List (Nat×Nat)
def X68 (n:Nat) (x:Nat->Int):Prop:=∀i,i+1<n->x i<=x (i+1)
def ApN (ap:List (Nat×Nat)) (x:Nat->Int):Prop:=∀p∈ap,x p.1+1<=x p.2
def UpN (n:Nat) (c:Con) (x:Nat->Int):Prop:=(∀i,i<n->c.lo i<=x i)/\X68 n x/\ApN c.ap x
def DnN (n:Nat) (c:Con) (x:Nat->Int):Prop:=(∀i,i<n->x i<=c.hi i)/\X68 n x/\ApN c.ap x
def Sol (n:Nat) (c:Con) (x:Nat->Int):Prop:=UpN n c x/\DnN n c x
structure X4Q (n:Nat) (c:Con) (L:Nat->Int):Prop where
  up:UpN n c L
  least:∀x,UpN n c x->∀i,i<n->L i<=x i
structure X4P (n:Nat) (c:Con) (H:Nat->Int):Prop where
  dn:DnN n c H
  great:∀x,DnN n c x->∀i,i<n->x i<=H i
def X55 (n:Nat) (ap:List (Nat×Nat)):Prop:=∀p∈ap,p.1<p.2/\p.2<n
theorem X6Y {n:Nat} {c c':Con} {L L':Nat->Int} (h:X4Q n c L) (h':X4Q n c' L') (e:∀x,UpN n c x↔UpN n c' x):∀i,i<n->L i=L' i:=fun i hi =>
  Int.le_antisymm (h.least _ ((e _).2 h'.up) i hi) (h'.least _ ((e _).1 h.up) i hi)
theorem X6X {n:Nat} {c c':Con} {H H':Nat->Int} (h:X4P n c H) (h':X4P n c' H') (e:∀x,DnN n c x↔DnN n c' x):∀i,i<n->H i=H' i:=fun i hi =>
  Int.le_antisymm (h'.great _ ((e _).1 h.dn) i hi) (h.great _ ((e _).2 h'.dn) i hi)
theorem X5Q {n:Nat} {c:Con} {L H:Nat->Int} (hL:X4Q n c L) (a:X4P n c H) (h:∀i,i<n->L i<=H i):Sol n c L :=
  ⟨hL.up,fun i hi=>Int.le_trans (h i hi) (a.dn.1 i hi),hL.up.2.1,hL.up.2.2⟩
theorem X6O {n:Nat} {c:Con} {L H:Nat->Int} (hL:X4Q n c L) (a:X4P n c H) (h:∀i,i<n->L i<=H i):Sol n c H :=
  ⟨⟨fun i hi=>Int.le_trans (hL.up.1 i hi) (h i hi),a.dn.2.1,a.dn.2.2⟩,a.dn⟩
theorem X6z {n:Nat} {c:Con} {L H:Nat->Int} (hL:X4Q n c L) (a:X4P n c H):(∃x,Sol n c x)↔∀i,i<n->L i<=H i :=
  ⟨fun⟨x,h1,h2⟩ i hi=>Int.le_trans (hL.least x h1 i hi) (a.great x h2 i hi),fun h=>⟨L,X5Q hL a h⟩⟩
def X4J (L:Nat->Int):List (Nat×Nat)->Nat->Int->Int
  | [],_,a=>a
  | p::ps,i,a=>X4J L ps i (if p.2=i then(if L p.1+1>a then L p.1+1 else a)else a)
def up1 (ap:List (Nat×Nat)) (L:Nat->Int) (i:Nat):Int:=X4J L ap i (if 0<i then(if L (i-1)>L i then L (i-1)else L i)else L i)
def Wu (ap:List (Nat×Nat)):Nat->(Nat->Int)->Nat->Int
  | 0,L=>L
  | k+1,L=>fun j=>if j=k then up1 ap (Wu ap k L) k else Wu ap k L j
theorem X5Y (L:Nat->Int) (i:Nat):∀(ap:List (Nat×Nat)) (a:Int),a<=X4J L ap i a/\∀p∈ap,p.2=i->L p.1+1<=X4J L ap i a
  | [],a=>⟨Int.le_refl _,by simp⟩
  | p::ps,a=>by
    unfold X4J;have b:a<=(if p.2=i then(if L p.1+1>a then L p.1+1 else a)else a)/\(p.2=i->L p.1+1<=(if p.2=i then(if L p.1+1>a then L p.1+1 else a)else a)):=by
      by_cases e:p.2=i
      · by_cases e2:L p.1+1>a
        · simp only[e,e2,if_true];exact⟨by omega,fun _=>Int.le_refl _⟩
        · simp only[e,e2,if_true,if_false];exact⟨Int.le_refl _,fun _=>by omega⟩
      · simp only[e,if_false];exact⟨Int.le_refl _,fun h=>h.elim⟩
    generalize (if p.2=i then(if L p.1+1>a then L p.1+1 else a)else a)=a' at b⊢;obtain⟨d,f⟩:=X5Y L i ps a';refine⟨Int.le_trans b.1 d,fun q c e=>?_⟩;rcases jv.1 c with rfl|c
    · exact Int.le_trans (b.2 e) d
    · exact f q c e
theorem X5Z (L:Nat->Int) (i:Nat) (b:Int):∀(ap:List (Nat×Nat)) (a:Int),a<=b->(∀p∈ap,p.2=i->L p.1+1<=b)->X4J L ap i a<=b
  | [],_,h,_=>h
  | p::ps,a,h,hp=>by
    unfold X4J;refine X5Z L i b ps _ ?_ fun q c=>hp q (by simp[c])
    have:=hp p (by simp)
    split
    · rename_i e
      have:=this e;split<;>omega
    · exact h
theorem X6D (ap:List (Nat×Nat)) (L:Nat->Int):∀(k j:Nat),k<=j->Wu ap k L j=L j
  | 0,_,_=>rfl
  | k+1,j,h=>by
    unfold Wu;rw[if_neg (by omega)]
    exact X6D ap L k j (by omega)
theorem X2r {n:Nat} {c:Con} (g:X55 n c.ap):X4Q n c (Wu c.ap n c.lo):=by
  have main:∀k,k<=n->(∀i,i<k->c.lo i<=Wu c.ap k c.lo i)/\(∀i,i+1<k->Wu c.ap k c.lo i<=Wu c.ap k c.lo (i+1))/\(∀p∈c.ap,p.2<k->Wu c.ap k c.lo p.1+1<=Wu c.ap k c.lo p.2) ∧
      ∀x,UpN n c x->∀i,i<k->Wu c.ap k c.lo i<=x i:=by
    intro k
    induction k with
    | zero=>intro _;exact⟨fun i h=>by omega,fun i h=>by omega,fun p _ h=>by omega,fun x _ i h=>by omega⟩
    | succ k ih =>
      intro w;obtain⟨r,o,q,m⟩:=ih (by omega)
      have a:∀j,j≠k->Wu c.ap (k+1) c.lo j=Wu c.ap k c.lo j:=fun j v=>by show(if j=k then _ else _)=_;rw[if_neg v]
      have b:Wu c.ap (k+1) c.lo k=up1 c.ap (Wu c.ap k c.lo) k:=by show(if k=k then _ else _)=_;rw[if_pos rfl]
      have f:Wu c.ap k c.lo k=c.lo k:=X6D _ _ _ _ (Nat.le_refl _);obtain⟨g1,g2⟩:=X5Y (Wu c.ap k c.lo) k c.ap (if 0<k then(if Wu c.ap k c.lo (k-1)>Wu c.ap k c.lo k then Wu c.ap k c.lo (k-1)else Wu c.ap k c.lo k)else Wu c.ap k c.lo k);have g0:Wu c.ap k c.lo k<=(if 0<k then(if Wu c.ap k c.lo (k-1)>Wu c.ap k c.lo k then Wu c.ap k c.lo (k-1)else Wu c.ap k c.lo k)else Wu c.ap k c.lo k):=by
        split
        · split<;>omega
        · exact Int.le_refl _
      refine⟨fun i hi=>?_,fun i hi=>?_,fun p d hi=>?_,fun x l i hi=>?_⟩
      · by_cases e:i=k
        · subst e;rw[b,<-f];exact Int.le_trans g0 g1
        · rw[a i e];exact r i (by omega)
      · by_cases e:i+1=k
        · subst e
          rw[b,a i (by omega)]
          refine Int.le_trans ?_ g1;rw[if_pos (by omega),Nat.add_sub_cancel]
          split<;>omega
        · rw[a i (by omega),a (i+1) e];exact o i (by omega)
      · have:=g p d
        by_cases e:p.2=k
        · rw[e,b,a p.1 (by omega)];exact g2 p d e
        · rw[a p.1 (by omega),a p.2 e];exact q p d (by omega)
      · by_cases e:i=k
        · subst e
          rw[b];refine X5Z _ _ _ _ _ ?_ fun p d e=>?_
          · have s:=l.1 i (by omega)
            rw[f];split
            · have:=m x l (i-1) (by omega)
              have t:=l.2.1 (i-1) (by omega)
              rw[Nat.sub_add_cancel (by omega)]at t
              split<;>omega
            · exact s
          · have y:=g p d
            have:=m x l p.1 (by omega)
            have u:=l.2.2 p d;rw[e]at u;omega
        · rw[a i e];exact m x l i (by omega)
  obtain⟨r,o,q,m⟩:=main n (Nat.le_refl _);exact⟨⟨r,o,fun p d=>q p d (g p d).2⟩,m⟩
def X4K (H:Nat->Int):List (Nat×Nat)->Nat->Int->Int
  | [],_,a=>a
  | p::ps,i,a=>X4K H ps i (if p.1=i then(if H p.2-1<a then H p.2-1 else a)else a)
def dn1 (n:Nat) (ap:List (Nat×Nat)) (H:Nat->Int) (i:Nat):Int:=X4K H ap i (if i+1<n then(if H (i+1)<H i then H (i+1)else H i)else H i)
def Wt (n:Nat) (ap:List (Nat×Nat)):Nat->(Nat->Int)->Nat->Int
  | 0,H=>H
  | k+1,H=>fun j=>if j=n-1-k then dn1 n ap (Wt n ap k H) (n-1-k)else Wt n ap k H j
theorem X61 (H:Nat->Int) (i:Nat):∀(ap:List (Nat×Nat)) (a:Int),X4K H ap i a<=a/\∀p∈ap,p.1=i->X4K H ap i a<=H p.2-1
  | [],a=>⟨Int.le_refl _,by simp⟩
  | p::ps,a=>by
    unfold X4K;have b:(if p.1=i then(if H p.2-1<a then H p.2-1 else a)else a)<=a/\(p.1=i->(if p.1=i then(if H p.2-1<a then H p.2-1 else a)else a)<=H p.2-1):=by
      by_cases e:p.1=i
      · by_cases e2:H p.2-1<a
        · simp only[e,e2,if_true];exact⟨by omega,fun _=>Int.le_refl _⟩
        · simp only[e,e2,if_true,if_false];exact⟨Int.le_refl _,fun _=>by omega⟩
      · simp only[e,if_false];exact⟨Int.le_refl _,fun h=>h.elim⟩
    generalize (if p.1=i then(if H p.2-1<a then H p.2-1 else a)else a)=a' at b⊢;obtain⟨d,f⟩:=X61 H i ps a';refine⟨Int.le_trans d b.1,fun q c e=>?_⟩;rcases jv.1 c with rfl|c
    · exact Int.le_trans d (b.2 e)
    · exact f q c e
theorem X60 (H:Nat->Int) (i:Nat) (b:Int):∀(ap:List (Nat×Nat)) (a:Int),b<=a->(∀p∈ap,p.1=i->b<=H p.2-1)->b<=X4K H ap i a
  | [],_,h,_=>h
  | p::ps,a,h,hp=>by
    unfold X4K;refine X60 H i b ps _ ?_ fun q c=>hp q (by simp[c])
    have:=hp p (by simp)
    split
    · rename_i e
      have:=this e;split<;>omega
    · exact h
theorem X6u (n:Nat) (ap:List (Nat×Nat)) (H:Nat->Int):∀(k j:Nat),k<=n->j+k<n->Wt n ap k H j=H j
  | 0,_,_,_=>rfl
  | k+1,j,hk,h=>by
    unfold Wt;rw[if_neg (by omega)]
    exact X6u n ap H k j (by omega) (by omega)
theorem X2k {n:Nat} {c:Con} (l:X55 n c.ap):X4P n c (Wt n c.ap n c.hi):=by
  have main:∀k,k<=n->(∀i,i<n->n<=i+k->Wt n c.ap k c.hi i<=c.hi i)/\(∀i,i+1<n->n<=i+k->Wt n c.ap k c.hi i<=Wt n c.ap k c.hi (i+1))/\(∀p∈c.ap,n<=p.1+k->Wt n c.ap k c.hi p.1+1<=Wt n c.ap k c.hi p.2) ∧
      ∀x,DnN n c x->∀i,i<n->n<=i+k->x i<=Wt n c.ap k c.hi i:=by
    intro k
    induction k with
    | zero=>intro _;exact⟨fun i h h'=>by omega,fun i h h'=>by omega,fun p d h=>by have:=l p d;omega,fun x _ i h h'=>by omega⟩
    | succ k ih =>
      intro y;obtain⟨t,r,s,o⟩:=ih (by omega)
      have a:∀j,j≠n-1-k->Wt n c.ap (k+1) c.hi j=Wt n c.ap k c.hi j:=fun j v=>by show(if j=n-1-k then _ else _)=_;rw[if_neg v]
      have b:Wt n c.ap (k+1) c.hi (n-1-k)=dn1 n c.ap (Wt n c.ap k c.hi) (n-1-k):=by show(if n-1-k=n-1-k then _ else _)=_;rw[if_pos rfl]
      have f:Wt n c.ap k c.hi (n-1-k)=c.hi (n-1-k):=X6u _ _ _ _ _ (by omega) (by omega)
      obtain⟨g1,g2⟩:=X61 (Wt n c.ap k c.hi) (n-1-k) c.ap (if n-1-k+1<n then(if Wt n c.ap k c.hi (n-1-k+1)<Wt n c.ap k c.hi (n-1-k)then Wt n c.ap k c.hi (n-1-k+1)else Wt n c.ap k c.hi (n-1-k))else Wt n c.ap k c.hi (n-1-k));have g0:(if n-1-k+1<n then(if Wt n c.ap k c.hi (n-1-k+1)<Wt n c.ap k c.hi (n-1-k)then Wt n c.ap k c.hi (n-1-k+1)else Wt n c.ap k c.hi (n-1-k))else Wt n c.ap k c.hi (n-1-k))<=Wt n c.ap k c.hi (n-1-k):=by
        split
        · split<;>omega
        · exact Int.le_refl _
      refine⟨fun i hi m=>?_,fun i hi m=>?_,fun p d hi=>?_,fun x g i hi m=>?_⟩
      · by_cases e:i=n-1-k
        · rw[e,b,<-f];exact Int.le_trans g1 g0
        · rw[a i e];exact t i hi (by omega)
      · by_cases e:i=n-1-k
        · rw[e,b,a (n-1-k+1) (by omega)]
          refine Int.le_trans g1 ?_;rw[if_pos (by omega)]
          split<;>omega
        · rw[a i e,a (i+1) (by omega)];exact r i hi (by omega)
      · have:=l p d
        by_cases e:p.1=n-1-k
        · have:=g2 p d e
          rw[e,b,a p.2 (by omega)]
          unfold dn1;omega
        · rw[a p.1 e,a p.2 (by omega)];exact s p d (by omega)
      · by_cases e:i=n-1-k
        · rw[e,b]
          refine X60 _ _ _ _ _ ?_ fun p d e'=>?_
          · have q:=g.1 i hi
            rw[e]at q;rw[f];split
            · have:=o x g (n-1-k+1) (by omega) (by omega)
              have w:=g.2.1 (n-1-k) (by omega)
              split<;>omega
            · exact q
          · have z:=l p d
            have:=o x g p.2 (by omega) (by omega)
            have u:=g.2.2 p d;rw[e']at u;omega
        · rw[a i e];exact o x g i hi (by omega)
  obtain⟨t,r,s,o⟩:=main n (Nat.le_refl _);exact⟨⟨fun i hi=>t i hi (by omega),fun i hi=>r i hi (by omega),fun p d=>s p d (by omega)⟩,fun x g i hi=>o x g i hi (by omega)⟩
def X3M (n:Nat) (c:Con):Nat->Int:=Wu c.ap n c.lo
def X3L (n:Nat) (c:Con):Nat->Int:=Wt n c.ap n c.hi
def okN (n:Nat) (c:Con):Bool:=(List.range n).all fun i=>decide (X3M n c i<=X3L n c i)
theorem X4L {n:Nat} {c:Con}:okN n c=true↔∀i,i<n->X3M n c i<=X3L n c i:=by
  unfold okN;rw[List.all_eq_true];exact⟨fun h i hi=>by simpa using h i (List.mem_range.2 hi),fun h i hi=>by simpa using h i (List.mem_range.1 hi)⟩
abbrev Str:=Int×Nat
def X2o (n:Nat) (c:Con) (s:Str) (a b:Int):Con where
  hi:=fun i=>if 0<=s.1/\i=s.1.toNat then(if b<c.hi i then b else c.hi i)else c.hi i
  lo:=fun i=>if s.2<n/\i=s.2 then(if a+1>c.lo i then a+1 else c.lo i)else c.lo i
  ap:=if 0<=s.1/\s.2<n then c.ap++[(s.1.toNat,s.2)]else c.ap
def X4Y (n:Nat) (s:Str):Prop:=s.1<s.2/\s.2<=n /\ -1<=s.1
theorem X6w {n:Nat} {c:Con} (h:X55 n c.ap) {s:Str} (e:X4Y n s) (a b:Int):X55 n (X2o n c s a b).ap:=by
  unfold X2o;simp only;split
  · rename_i hc
    intro p d;rcases List.mem_append.1 d with d|d
    · exact h p d
    · simp only[List.mem_singleton]at d
      subst d;unfold X4Y at e;simp only;omega
  · exact h
def X5L (n:Nat) (x:Nat->Int) (s:Str) (a b:Int):Prop:=(0<=s.1->x s.1.toNat<=b)/\(s.2<n->a+1<=x s.2)/\(0<=s.1->s.2<n->x s.1.toNat+1<=x s.2)
theorem X53 {n:Nat} {c:Con} {s:Str} {a b:Int} {x:Nat->Int}:ApN (X2o n c s a b).ap x↔ApN c.ap x/\(0<=s.1->s.2<n->x s.1.toNat+1<=x s.2):=by
  unfold X2o ApN;simp only;split
  · rename_i hc
    constructor
    · intro h
      exact⟨fun p d=>h p (List.mem_append.2 (.inl d)),fun _ _=>h (s.1.toNat,s.2) (List.mem_append.2 (.inr (by simp)))⟩
    · rintro⟨f,e⟩ p d
      rcases List.mem_append.1 d with d|d
      · exact f p d
      · simp only[List.mem_singleton]at d
        subst d;exact e hc.1 hc.2
  · rename_i hc
    exact⟨fun h=>⟨h,fun f e=>absurd ⟨f,e⟩ hc⟩,fun h=>h.1⟩
theorem X79 {n:Nat} {c:Con} {s:Str} {a b:Int} {x:Nat->Int}:UpN n (X2o n c s a b) x↔UpN n c x/\(s.2<n->a+1<=x s.2)/\(0<=s.1->s.2<n->x s.1.toNat+1<=x s.2):=by
  unfold UpN;rw[X53];have e:(∀i,i<n->(X2o n c s a b).lo i<=x i)↔(∀i,i<n->c.lo i<=x i)/\(s.2<n->a+1<=x s.2):=by
    unfold X2o;simp only;constructor
    · intro h
      refine⟨fun i hi=>?_,fun l=>?_⟩
      · have:=h i hi
        split at this
        · split at this<;>omega
        · exact this
      · have:=h s.2 l
        rw[if_pos ⟨l,rfl⟩]at this;split at this<;>omega
    · rintro⟨f,d⟩ i hi
      have:=f i hi;split
      · rename_i hc
        have g:=d hc.1;rw[<-hc.2]at g;split<;>omega
      · exact this
  rw[e];constructor
  · rintro⟨⟨f,d⟩,g,j,k⟩;exact⟨⟨f,g,j⟩,d,k⟩
  · rintro⟨⟨f,g,j⟩,d,k⟩;exact⟨⟨f,d⟩,g,j,k⟩
theorem X78 {n:Nat} {c:Con} {s:Str} (m:X4Y n s) {a b:Int} {x:Nat->Int}:DnN n (X2o n c s a b) x↔DnN n c x/\(0<=s.1->x s.1.toNat<=b)/\(0<=s.1->s.2<n->x s.1.toNat+1<=x s.2):=by
  unfold DnN;rw[X53];have e:(∀i,i<n->x i<=(X2o n c s a b).hi i)↔(∀i,i<n->x i<=c.hi i)/\(0<=s.1->x s.1.toNat<=b):=by
    unfold X2o;unfold X4Y at m;simp only;constructor
    · intro h
      refine⟨fun i hi=>?_,fun l=>?_⟩
      · have:=h i hi
        split at this
        · split at this<;>omega
        · exact this
      · have:=h s.1.toNat (by omega)
        rw[if_pos ⟨l,rfl⟩]at this;split at this<;>omega
    · rintro⟨g,d⟩ i hi
      have:=g i hi;split
      · rename_i hc
        have f:=d hc.1;rw[<-hc.2]at f;split<;>omega
      · exact this
  rw[e];constructor
  · rintro⟨⟨g,d⟩,f,j,k⟩;exact⟨⟨g,f,j⟩,d,k⟩
  · rintro⟨⟨g,f,j⟩,d,k⟩;exact⟨⟨g,d⟩,f,j,k⟩
theorem X6d {n:Nat} {c:Con} {s:Str} (i:X4Y n s) {a b:Int} {x:Nat->Int}:Sol n (X2o n c s a b) x↔Sol n c x/\X5L n x s a b:=by
  unfold Sol X5L;rw[X79,X78 i];constructor
  · rintro⟨⟨g,e,d⟩,f,h,_⟩;exact⟨⟨g,f⟩,h,e,d⟩
  · rintro⟨⟨g,f⟩,h,e,d⟩;exact⟨⟨g,e,d⟩,f,h,d⟩
def EqC (n:Nat) (c c':Con):Prop:=(∀x,UpN n c x↔UpN n c' x)/\∀x,DnN n c x↔DnN n c' x
theorem EqC.lo {n:Nat} {c c':Con} (h:EqC n c c') (a:X55 n c.ap) (b:X55 n c'.ap) (i:Nat) (hi:i<n):X3M n c i=X3M n c' i:=X6Y (X2r a) (X2r b) h.1 i hi
theorem EqC.hi {n:Nat} {c c':Con} (h:EqC n c c') (a:X55 n c.ap) (b:X55 n c'.ap) (i:Nat) (hi:i<n):X3L n c i=X3L n c' i:=X6X (X2k a) (X2k b) h.2 i hi
def X62 (n:Nat) (c:Con):Con:=⟨X3M n c,X3L n c,c.ap⟩
structure Wit where
  strs:List Str
  a:Int
  b:Int
def X6s (n:Nat) (w:Wit):Prop:=∀s∈w.strs,X4Y n s
def XF (n:Nat):List Wit->Con->List Con
  | [],c=>if okN n c then [X62 n c]else []
  | w::ws,c=>if okN n c then w.strs.flatMap fun s=>XF n ws (X2o n c s w.a w.b)else []
def X6R (n:Nat) (c:Con) (ws:List Wit) (x:Nat->Int):Prop:=Sol n c x/\∀w∈ws,∃s∈w.strs,X5L n x s w.a w.b
theorem X4I {n:Nat}:∀(ws:List Wit) (c:Con),(∀w∈ws,X6s n w)->X55 n c.ap->∀d∈XF n ws c,X6R n c ws d.lo/\X6R n c ws d.hi/\∀i,i<n->d.lo i<=d.hi i
  | [],c,_,h1,d,a=>by
    unfold XF at a;split at a
    · rename_i g
      simp only[List.mem_singleton]at a;subst a;have b:=X4L.1 g;exact⟨⟨X5Q (X2r h1) (X2k h1) b,by simp⟩,⟨X6O (X2r h1) (X2k h1) b,by simp⟩,b⟩
    · cases a
  | w::ws,c,hw,h1,d,a=>by
    unfold XF at a;split at a
    · obtain⟨s,f,a⟩:=List.mem_flatMap.1 a
      have e:=hw w (by simp) s f
      obtain⟨⟨k1,k2⟩,⟨k3,k4⟩,k5⟩:=X4I ws _ (fun v hv=>hw v (by simp[hv])) (X6w h1 e _ _) d a
      rw[X6d e]at k1 k3;refine⟨⟨k1.1,fun v hv=>?_⟩,⟨k3.1,fun v hv=>?_⟩,k5⟩
      · rcases jv.1 hv with rfl|hv
        · exact⟨s,f,k1.2⟩
        · exact k2 v hv
      · rcases jv.1 hv with rfl|hv
        · exact⟨s,f,k3.2⟩
        · exact k4 v hv
    · cases a
theorem X50 {n:Nat}:∀(ws:List Wit) (c:Con),(∀w∈ws,X6s n w)->X55 n c.ap->∀x,X6R n c ws x->∃d∈XF n ws c,∀i,i<n->d.lo i<=x i/\x i<=d.hi i
  | [],c,_,h1,x,hx=>by
    have g:okN n c=true:=X4L.2 ((X6z (X2r h1) (X2k h1)).1 ⟨x,hx.1⟩);unfold XF;rw[if_pos g];exact⟨X62 n c,List.mem_singleton.2 rfl,fun i hi=>⟨(X2r h1).least x hx.1.1 i hi,(X2k h1).great x hx.1.2 i hi⟩⟩
  | w::ws,c,hw,h1,x,hx=>by
    have g:okN n c=true:=X4L.2 ((X6z (X2r h1) (X2k h1)).1 ⟨x,hx.1⟩);unfold XF;rw[if_pos g];obtain⟨s,j,e⟩:=hx.2 w (by simp)
    have f:=hw w (by simp) s j
    obtain⟨d,k,h⟩:=X50 ws (X2o n c s w.a w.b) (fun v hv=>hw v (by simp[hv])) (X6w h1 f _ _) x ⟨(X6d f).2 ⟨hx.1,e⟩,fun v hv=>hx.2 v (by simp[hv])⟩
    exact⟨d,List.mem_flatMap.2 ⟨s,j,k⟩,h⟩
theorem X6a {n:Nat} {ws:List Wit} {c:Con} (b:∀w∈ws,X6s n w) (e:X55 n c.ap):XF n ws c≠[]↔∃x,X6R n c ws x:=by
  constructor
  · intro h
    obtain⟨d,a⟩:=List.exists_mem_of_ne_nil _ h;exact⟨_,(X4I ws c b e d a).1⟩
  · rintro⟨x,f⟩ h
    obtain⟨d,a,_⟩:=X50 ws c b e x f;rw[h]at a;cases a
end Nore
open Go Go.Ab
namespace Nore
def WB (lo hi:Int) (l:List Int):Bool:=l.any fun n=>decide (n<lo)||decide (n>hi)
theorem X3g (lo hi:Int):WB lo hi []=false:=rfl
theorem X2Q (lo hi n:Int) (l:List Int):WB lo hi (n::l)=(decide (n<lo)||decide (n>hi)||WB lo hi l):=rfl
def inN (n lo hi:Int):Bool:=decide (lo<=n)&&decide (n<=hi)
theorem X48 (n lo hi:Int):X3i n lo hi=some (inN n lo hi):=by
  unfold X3i inN
  by_cases h:lo<=n<;>simp[h]
def X47:Int->List UInt8->Option Int
  | last,[]=>some last
  | last,c::l=>if 97<=(c.toNat:Int)/\(c.toNat:Int)<=122 then X47 c.toNat l else if(c.toNat:Int)≠45\/last=45 then none else X47 c.toNat l
def X3q:Option Int->Bool
  | none=>false
  | some last=>last != 45
def X4v (s:ByteArray):Bool:=decide (s.size<=14)&&X3q (X47 45 s.toList)
theorem X6G (s:ByteArray) (i:Nat) (h:(s.get! i).toNat<128):Utf8.decode s i=((s.get! i).toNat,1):=by
  unfold Utf8.decode;simp only[Nat.add_zero];rw[if_pos h]
theorem X6F (s:ByteArray) (i:Nat) (h:¬(s.get! i).toNat<128):128<=(Utf8.decode s i).1:=by
  unfold Utf8.decode;simp only[Nat.add_zero,Utf8.runeError];rw[if_neg h]
  repeat' split
  all_goals simp_all
  all_goals omega
theorem X1G (s:ByteArray):s.toList.length=s.size:=by rw[ByteArray.toList_eq];rfl
theorem X6j (s:ByteArray) (i:Nat) (h:i<s.toList.length):s.get! i=s.toList[i]:=by
  have a:i<s.size:=by rw[<-X1G];exact h
  simp only[ByteArray.toList_eq];show(s.data[i]!)=_;have b:i<s.data.size:=a;rw[getElem!_pos s.data i b];rfl
theorem X5C (s:ByteArray):X3I s=some (X4v s):=by
  have key:=X1y (WZ s s) (fun o0=>Sum.elim (fun y1:Bool×Nat=>some y1.fst) (fun y2:Int×Nat=>bif decide ((↑(ByteArray.size s):Int)<=14)then some (y2.fst != 45)else some false) o0) s.toList.length (fun i (b:Int)=>(b,i)) (fun _ _=>True) (fun i b=>some (decide (s.size<=14)&&X3q (X47 b (s.toList.drop i))))
    (by
      intro b _ R;have hh:(decide ((↑s.size:Int)<=14))=decide (s.size<=14):=by rw[decide_eq_decide];omega
      have j:s.toList.drop s.size=[]:=jd (by rw[X1G];exact Nat.le_refl _)
      simp only[j,X47,X3q,WZ,X12,X1G,hh,Nat.lt_irrefl,decide_false,jA,jS,jy];cases decide (s.size<=14)<;>simp)
    (by
      intro i b hi _ R k;have f:i<s.size:=by rw[<-X1G];exact hi
      have g:=X6j s i hi;simp only[WZ,X12];rw[jb hi];simp only[X47]
      by_cases h:(s.get! i).toNat<128
      · rw[X6G s i h]
        have e:=k ((s.get! i).toNat:Int) trivial;rw[g]at *;generalize s.toList[i]=c at *;simp only[f,decide_true,jB]
        by_cases h1:97<=(c.toNat:Int)
        · have q1:decide ((c.toNat:Int)>=97)=true:=decide_eq_true h1
          by_cases h2:(c.toNat:Int)<=122
          · have q2:decide ((c.toNat:Int)<=122)=true:=decide_eq_true h2
            simp only[decide_true,decide_false,q1,q2,jB,jS,jw,h1,h2,and_self,if_true];exact e
          · have q2:decide ((c.toNat:Int)<=122)=false:=decide_eq_false h2
            have a:¬((c.toNat:Int)=45):=by omega
            have q3:((c.toNat:Int) != 45)=true:=bne_iff_ne.2 a;simp only[decide_true,decide_false,q1,q2,q3,jB,jA,jS,jw,jy,h2,and_false,if_false,ne_eq,a,not_false_iff,true_or,if_true,X3q,Bool.and_false]
        · have q1:decide ((c.toNat:Int)>=97)=false:=decide_eq_false h1
          by_cases a:(c.toNat:Int)=45
          · have q3:((c.toNat:Int) != 45)=false:=by rw[a];rfl
            by_cases h4:b=45
            · have q4:(b==45)=true:=by rw[h4];rfl
              rw[q1,q3,q4,if_neg (fun hc=>h1 hc.1),if_pos (Or.inr h4)];simp[X3q]
            · have q4:(b==45)=false:=beq_eq_false_iff_ne.2 h4
              simp only[decide_true,decide_false,q1,q3,q4,jB,jA,jS,jw,jy,h1,false_and,if_false,h4,ne_eq,a,not_true,or_self,if_true];rw[a]at e;exact e
          · have q3:((c.toNat:Int) != 45)=true:=bne_iff_ne.2 a
            simp only[decide_true,decide_false,q1,q3,jB,jA,jS,jw,jy,h1,false_and,if_false,ne_eq,a,not_false_iff,true_or,if_true,X3q,Bool.and_false]
      · have h':=X6F s i h
        rw[g]at h;generalize s.toList[i]=c at *;simp only[f,decide_true,jB];generalize (Utf8.decode s i)=d at *;have e1:((d.1:Nat):Int)>=97:=by omega
        have e2:¬((d.1:Nat):Int)<=122:=by omega
        have e3:¬((d.1:Nat):Int)=45:=by omega
        have e4:¬((c.toNat:Int)<=122):=by omega
        have e5:¬((c.toNat:Int)=45):=by omega
        have q1:decide (((d.1:Nat):Int)>=97)=true:=decide_eq_true e1;have q2:decide (((d.1:Nat):Int)<=122)=false:=decide_eq_false e2;have q3:(((d.1:Nat):Int) != 45)=true:=bne_iff_ne.2 e3;simp only[decide_true,decide_false,q1,q2,q3,jB,jA,jS,jw,jy,e4,and_false,if_false,ne_eq,e5,not_false_iff,true_or,if_true,X3q,Bool.and_false])
  exact(key 0 45 (by omega) trivial).trans (by simp[X4v])
theorem X5G (s:ByteArray):X3h s=some (X4v s):=by
  unfold X3h;rw[X48];simp only[jS]
  by_cases hsz:1<=s.size/\s.size<=14
  · have e1:inN (↑s.size) 1 14=true:=by simp[inN];omega
    rw[e1];simp only[Bool.not_true,jA];have o:=X1G s;have key:=X1y (X10 s) (fun o0=>Sum.elim (fun y76:Bool=>some y76) (fun _:Unit=>some true) o0) s.toList.length (fun i (_:Int)=>(i:Int)) (fun i b=>b=if i=0 then 45 else((s.toList.getD (i-1) 0).toNat:Int)) (fun i b=>some (if i<s.toList.length then X3q (X47 b (s.toList.drop i))else true))
      (by
        intro b _ R;simp[X10,X16,X1G])
      (by
        intro i b hi j R n;have m:i<s.size:=by rw[<-X1G];exact hi
        simp only[X10,X16];rw[jb hi];have a:=n ((s.toList[i]).toNat:Int) (by simp[List.getD,hi])
        have l:=wS i (by omega)
        have f:IntKind.wrap .i64 ((i:Int)-1)=((i:Int)-1):=by rw[w64]<;>omega
        have e:IntKind.wrap .i64 ((s.size:Int)-1)=((s.size:Int)-1):=by rw[w64]<;>omega
        simp only[X47,kS,XZ _ _ _ hi,l,f,e];have d1:decide ((i:Int)<↑s.size)=true:=by simp[m]
        have d2:=z0S i;simp only[d1,d2,ju,jB,hi,if_true];generalize hc:s.toList[i]=c at *
        by_cases h1:97<=(c.toNat:Int)/\(c.toNat:Int)<=122
        · have q1:decide ((c.toNat:Int)>=97)=true:=decide_eq_true h1.1
          have q2:decide ((c.toNat:Int)<=122)=true:=decide_eq_true h1.2;simp only[decide_true,decide_false,q1,q2,jB,jS,jw,h1,and_self,if_true];have d:¬((c.toNat:Int)=45):=by omega
          rw[a]
          by_cases hi2:i+1<s.toList.length
          · simp[hi2]
          · have:s.toList.drop (i+1)=[]:=jd (by omega)
            simp[hi2,this,X47,X3q,d]
        · have g:(bif decide ((c.toNat:Int)>=97)then bif decide ((c.toNat:Int)<=122)then true else false else false)=false:=by
            by_cases a1:(c.toNat:Int)>=97
            · by_cases a2:(c.toNat:Int)<=122
              · exact absurd ⟨a1,a2⟩ h1
              · simp[a1,a2]
            · simp[a1]
          have g2:∀(Z:Type) (x y:Z),(bif decide ((c.toNat:Int)>=97)then bif decide ((c.toNat:Int)<=122)then x else y else y)=y:=by
            intro Z x y
            by_cases a1:(c.toNat:Int)>=97
            · by_cases a2:(c.toNat:Int)<=122
              · exact absurd ⟨a1,a2⟩ h1
              · simp[a1,a2]
            · simp[a1]
          rw[g2,if_neg h1]
          by_cases h2:(c.toNat:Int)=45
          · simp only[h2,bne_self_eq_false,jA]
            by_cases h3:i=0
            · subst h3
              simp[j,X3q]
            · by_cases h4:i+1=s.size
              · have:s.toList.drop (i+1)=[]:=jd (by omega)
                have e5:(i:Int)=(s.size:Int)-1:=by omega
                have e6:((s.size:Int)-1==0)=false:=by simp;omega
                simp only[e5,e6,this,X47]
                by_cases h5:b=45<;>simp[h5,X3q]
              · have e5:((i:Int)==(s.size:Int)-1)=false:=by simp;omega
                have e6:((i:Int)==0)=false:=by simp;omega
                have e7:(0:Int)<=(i:Int)-1:=by omega
                have e8:(i:Int)-1<(s.size:Int):=by omega
                have e9:((i:Int)-1).toNat=i-1:=by omega
                simp only[e5,e6,e7,e8,e9,jA,decide_true,ju,jB];simp only[h3,if_false]at j;rw[<-j]
                by_cases h5:b=45
                · simp[h5,X3q]
                · have q5:(b==45)=false:=beq_eq_false_iff_ne.2 h5
                  rw[h2]at a;rw[q5];simp only[jA,jS,jw,ne_eq,not_true,false_or,h5,if_false];rw[a];simp[show i+1<s.toList.length by omega]
          · have:((c.toNat:Int) != 45)=true:=by simp[h2]
            simp[this,h2,X3q])
    have:=key 0 45 (by omega) (by simp)
    refine this.trans ?_;simp[X4v,show 0<s.toList.length by omega,hsz.2]
  · have e1:inN (↑s.size) 1 14=false:=by
      simp[inN];omega
    rw[e1];simp only[Bool.not_false,jB,X4v]
    by_cases h:s.size<=14
    · have k:s.toList=[]:=by
        apply List.eq_nil_of_length_eq_zero;rw[X1G];omega
      simp[k,X47,X3q]
    · simp[h]
theorem X4g (n lo hi:Int):inN n lo hi = !WB lo hi [n]:=by
  simp only[inN,X2Q,X3g,Bool.or_false,Bool.not_or];congr 1<;>rw[<-decide_not,decide_eq_decide]<;>omega
def X4i (lo hi:Int):Int->List Y2->Int
  | e,[]=>e
  | e,s::l=>if WB lo hi [s.Lo,s.Hi]then 7 else X4i lo hi (if s.Lo>s.Hi then 2 else e) l
theorem X5b (l:List Y2) (lo hi:Int) (h:l.length<1000000):X2I l lo hi=some (X4i lo hi 0 l):=by
  unfold X2I;exact X1y (WC lo l hi) _ l.length (fun i (b:Int)=>(b,(i:Int))) (fun _ _=>True) (fun i b=>some (X4i lo hi b (l.drop i)))
      (by
        intro b _ R;simp[WC,WF,X4i])
      (by
        intro i b c _ R d;simp only[WC,WF];rw[jb c];have e:=wS i (by omega)
        simp only[kS,XZ _ _ _ c,X4i,e];rw[X48,X48,X4g,X4g];have g:decide ((i:Int)<↑l.length)=true:=by simp[c]
        have f:=z0S i;simp only[g,f,ju,jB,jS];have a:WB lo hi [l[i].Lo,l[i].Hi]=(WB lo hi [l[i].Lo]||WB lo hi [l[i].Hi]):=by simp[WB]
        rw[a];cases h3:WB lo hi [l[i].Lo]
        · cases h4:WB lo hi [l[i].Hi]
          · by_cases h5:l[i].Lo>l[i].Hi
            · have:=d 2 trivial
              simp only[h5];simp;simpa using this
            · have:=d b trivial
              simp only[h5];simp;simpa using this
          · simp
        · simp) 0 0 (by omega) trivial
theorem Z9a (a b:ByteArray):(a==b)=(a.data==b.data):=by cases a;cases b;rfl
instance:LawfulBEq ByteArray where
  rfl:=by intro a;rw[Z9a];simp
  eq_of_beq:=by
    intro a b h;rw[Z9a]at h;have:=eq_of_beq h;cases a;cases b;simp only at this;rw[this]
instance:DecidableEq ByteArray:=fun a b=>if h:(a==b)=true then isTrue (eq_of_beq h)else isFalse (fun e=>h (by rw[e];simp))
def X46 (s:ByteArray) (names:List ByteArray):Int:=if X4v s then(if s∈names then 5 else 0)else 6
theorem X5A {a b:ByteArray} (h:a.toList=b.toList):a=b:=by
  cases a;cases b;simp only[ByteArray.toList_eq]at h;congr 1;exact Array.ext' h
theorem X5q (s:ByteArray) (names:List ByteArray) (j:names.length<1000000):X2W s names=some (X46 s names):=by
  unfold X2W X46;rw[X5G];simp only[jS];cases X4v s
  · simp
  · simp only[Bool.not_true,jA,if_true]
    unfold X3t;have key:=X1y (Wr s names) (fun o78=>Option.bind (Sum.elim (fun y79:Int=>some y79) (fun _:Unit=>some (-1)) o78) fun r82=>bif decide (r82>=0)then some (5:Int)else some 0) names.length (fun i (_:Unit)=>(i:Int)) (fun _ _=>True) (fun i _=>some (if s∈names.drop i then 5 else 0))
      (by
        intro b _ R;simp[Wr,WM])
      (by
        intro i b hi _ R f;have c:=f () trivial;simp only[Wr,WM];rw[jb hi];have d:=wS i (by omega)
        simp only[kS,XZ _ _ _ hi,d];have g:decide ((i:Int)<↑names.length)=true:=by simp[hi]
        have e:=z0S i;simp only[g,e,ju,jB]
        by_cases h:names[i]=s
        · simp[h]
        · have h':(names[i].toList==s.toList)=false:=by
            simp only[beq_eq_false_iff_ne];intro hh;exact h (X5A hh)
          have a:¬s=names[i]:=fun hh=>h hh.symm;simp only[h',jA,jS,jw,jv,a,false_or];exact c)
    have:=key 0 () (by omega) trivial
    simp only[List.drop_zero]at this;rw[<-this];show Option.bind (Option.bind _ _) _=Option.bind _ _;unfold X2m;simp only[Int.natCast_zero];cases Z8I (Wr s names) 0<;>rfl
end Nore
open Go Go.Ab
namespace Nore
def spN (L H:Nat->Int):Nat->Y2:=fun j=>⟨L j,H j⟩
def X2e (f:Nat->Y2) (k:Nat) (s:Y2):Nat->Y2:=fun j=>bif Nat.beq j k then s else f j
theorem X6f (f:Nat->Y2) (k:Nat) (s s':Y2):(fun j=>bif Nat.beq j k then s' else X2e f k s j)=X2e f k s':=by
  funext j;unfold X2e;cases Nat.beq j k<;>rfl
theorem X6e (f:Nat->Y2) (k:Nat) (s:Y2):X2e f k s k=s:=by unfold X2e;simp
theorem X5t (f:Nat->Y2) {k j:Nat} (s:Y2) (h:j≠k):X2e f k s j=f j:=by
  unfold X2e;cases e:Nat.beq j k with
  | false=>rfl
  | true=>exact absurd (je e) h
def X1 (ap:List Zb):List (Nat×Nat):=ap.map fun s=>(s.from_.toNat,s.to_.toNat)
def X67 (ap:List Zb):Prop:=ap.length<=1000/\∀s∈ap,0<=s.from_/\s.from_<s.to_/\s.to_<10
def BdN (L:Nat->Int):Prop:=∀i,-1000000<=L i/\L i<=1000000
theorem X6J (L:Nat->Int) (p:Nat×Nat) (ps:List (Nat×Nat)) (i:Nat) (a:Int):X4J L (p::ps) i a=X4J L ps i (if p.2=i then(if L p.1+1>a then L p.1+1 else a)else a):=rfl
theorem X6K (H:Nat->Int) (p:Nat×Nat) (ps:List (Nat×Nat)) (i:Nat) (a:Int):X4K H (p::ps) i a=X4K H ps i (if p.1=i then(if H p.2-1<a then H p.2-1 else a)else a):=rfl
theorem X4M (ap:List Zb) (f:X67 ap) (L H:Nat->Int) (hL:BdN L) (k:Nat) (t:k<10) (a:Int) (s : -1000000<=a/\a<=1000001) (x1 x3:Int) (x6:List Zb) (x9:Zc) (x10:Nat->Y2) :
    Wj (ap.length:Int) x1 (k:Int) x3 (k:Int) x6 ap x9 x10 (0,X2e (spN L H) k ⟨a,H k⟩)=some (X2e (spN L H) k ⟨X4J L (X1 ap) k a,H k⟩):=by
  obtain⟨w,o,n⟩:=X1X (Xt (ap.length:Int) x1 (k:Int) x3 (k:Int) x6 ap x9 x10) ap.length (fun i (b:Nat->Y2)=>((i:Int),b))
    (fun i b=>∃a',(-1000000<=a'/\a'<=1000001)/\b=X2e (spN L H) k ⟨a',H k⟩/\X4J L (X1 (ap.drop i)) k a'=X4J L (X1 ap) k a) (fun w=>w=X2e (spN L H) k ⟨X4J L (X1 ap) k a,H k⟩)
    (fun b ⟨a',_,e,h⟩=>⟨_,by simp[Xt,X6];rfl,by
      rw[e,<-h,List.drop_length];rfl⟩)
    (fun i b hi ⟨a',m,e,h⟩=>by
      right;have g:ap[i]∈ap:=jl hi;obtain⟨s1,s2,s3⟩:=f.2 _ g;have j:ap.getD i ⟨0,0⟩=ap[i]:=XZ _ _ _ hi;have e1:decide ((i:Int)<(ap.length:Int))=true:=by simp;omega
      have w1:=wS i (by have:=f.1;omega)
      have c:X1 (ap.drop i)=(ap[i].from_.toNat,ap[i].to_.toNat)::X1 (ap.drop (i+1)):=by
        rw[jb hi];rfl
      rw[c,X6J]at h;simp only at h;simp only[Xt,X6,e1,z0S,ju,jB,kS,j,w1]
      by_cases ht:ap[i].to_=(k:Int)
      · have p:ap[i].from_.toNat≠k:=by omega
        have c1:(ap[i].to_==(k:Int))=true:=by simp[ht]
        have c2:decide ((k:Int)<(10:Int))=true:=by simp;omega
        have c3:Nat.blt k 10=true:=by simp[Nat.blt_eq];omega
        have c4:decide (0<=ap[i].from_)=true:=by simp[s1]
        have c5:decide (ap[i].from_<(10:Int))=true:=by simp;omega
        have c6:Nat.blt ap[i].from_.toNat 10=true:=by rw[Nat.blt_eq];omega
        have hv:=hL ap[i].from_.toNat;have r:(b ap[i].from_.toNat).Lo=L ap[i].from_.toNat:=by rw[e,X5t _ _ p];rfl
        have q:b k=⟨a',H k⟩:=by rw[e,X6e]
        have w2:IntKind.wrap .i64 (L ap[i].from_.toNat+1)=L ap[i].from_.toNat+1:=by rw[w64]<;>omega
        simp only[c1,c2,c3,c4,c5,c6,jB,ju,r,q,w2];have d:ap[i].to_.toNat=k:=by omega
        rw[if_pos d]at h;refine⟨_,rfl,(if L ap[i].from_.toNat+1>a' then L ap[i].from_.toNat+1 else a'),by split<;>omega,?_,h⟩
        rw[e,X6f]
        by_cases hc:L ap[i].from_.toNat+1>a'<;>simp[hc]
      · have c1:(ap[i].to_==(k:Int))=false:=X2s ht
        simp only[c1,jA];have d:¬ap[i].to_.toNat=k:=by omega
        rw[if_neg d]at h;exact⟨_,rfl,a',m,e,h⟩) 0 _ (Nat.zero_le _) ⟨a,s,rfl,rfl⟩
  have l:Wj (ap.length:Int) x1 (k:Int) x3 (k:Int) x6 ap x9 x10 (0,X2e (spN L H) k ⟨a,H k⟩)=some w:=o;rw[l,n]
theorem X64 (ap:List Zb) (b:X67 ap) (L H:Nat->Int) (hL:BdN L) (k:Nat) (c:k<10) (a:Int) (d : -1000000<=a/\a<=1000001) (x1 x3:Int) (x6:List Zb) (x9:Zc) (x10:Nat->Y2) :
    WR (ap.length:Int) x1 (k:Int) x3 (k:Int) x6 ap x9 x10 (0,X2e (spN L H) k ⟨a,H k⟩)=some (X2e (spN L H) k ⟨X4J L (X1 ap) k a,H k⟩) :=
  X4M ap b L H hL k c a d x1 x3 x6 x9 x10
theorem X4N (ap:List Zb) (f:X67 ap) (L H:Nat->Int) (r:BdN H) (k:Nat) (u:k<10) (a:Int) (t : -1000001<=a/\a<=1000000) (x2:Int) (x5:List Zb) (x7:Zc) (x8:Nat->Y2) :
    Wl ap x2 (ap.length:Int) (k:Int) x5 x7 x8 (0,X2e (spN L H) k ⟨L k,a⟩)=some (X2e (spN L H) k ⟨L k,X4K H (X1 ap) k a⟩):=by
  obtain⟨w,o,n⟩:=X1X (Xv ap x2 (ap.length:Int) (k:Int) x5 x7 x8) ap.length (fun i (b:Nat->Y2)=>((i:Int),b))
    (fun i b=>∃a',(-1000001<=a'/\a'<=1000000)/\b=X2e (spN L H) k ⟨L k,a'⟩/\X4K H (X1 (ap.drop i)) k a'=X4K H (X1 ap) k a) (fun w=>w=X2e (spN L H) k ⟨L k,X4K H (X1 ap) k a⟩)
    (fun b ⟨a',_,e,h⟩=>⟨_,by simp[Xv,X7];rfl,by
      rw[e,<-h,List.drop_length];rfl⟩)
    (fun i b hi ⟨a',m,e,h⟩=>by
      right;have g:ap[i]∈ap:=jl hi;obtain⟨s1,s2,s3⟩:=f.2 _ g;have j:ap.getD i ⟨0,0⟩=ap[i]:=XZ _ _ _ hi;have e1:decide ((i:Int)<(ap.length:Int))=true:=by simp;omega
      have w1:=wS i (by have:=f.1;omega)
      have c:X1 (ap.drop i)=(ap[i].from_.toNat,ap[i].to_.toNat)::X1 (ap.drop (i+1)):=by
        rw[jb hi];rfl
      rw[c,X6K]at h;simp only at h;simp only[Xv,X7,e1,z0S,ju,jB,kS,j,w1]
      by_cases ht:ap[i].from_=(k:Int)
      · have p:ap[i].to_.toNat≠k:=by omega
        have c1:(ap[i].from_==(k:Int))=true:=by simp[ht]
        have c2:decide ((k:Int)<(10:Int))=true:=by simp;omega
        have c3:Nat.blt k 10=true:=by simp[Nat.blt_eq];omega
        have c4:decide (0<=ap[i].to_)=true:=by simp;omega
        have c5:decide (ap[i].to_<(10:Int))=true:=by simp;omega
        have c6:Nat.blt ap[i].to_.toNat 10=true:=by rw[Nat.blt_eq];omega
        have hv:=r ap[i].to_.toNat;have s:(b ap[i].to_.toNat).Hi=H ap[i].to_.toNat:=by rw[e,X5t _ _ p];rfl
        have q:b k=⟨L k,a'⟩:=by rw[e,X6e]
        have w2:IntKind.wrap .i64 (H ap[i].to_.toNat-1)=H ap[i].to_.toNat-1:=by rw[w64]<;>omega
        simp only[c1,c2,c3,c4,c5,c6,jB,ju,s,q,w2];have d:ap[i].from_.toNat=k:=by omega
        rw[if_pos d]at h;refine⟨_,rfl,(if H ap[i].to_.toNat-1<a' then H ap[i].to_.toNat-1 else a'),by split<;>omega,?_,h⟩
        rw[e,X6f]
        by_cases hc:H ap[i].to_.toNat-1<a'<;>simp[hc]
      · have c1:(ap[i].from_==(k:Int))=false:=X2s ht
        simp only[c1,jA];have d:¬ap[i].from_.toNat=k:=by omega
        rw[if_neg d]at h;exact⟨_,rfl,a',m,e,h⟩) 0 _ (Nat.zero_le _) ⟨a,t,rfl,rfl⟩
  have l:Wl ap x2 (ap.length:Int) (k:Int) x5 x7 x8 (0,X2e (spN L H) k ⟨L k,a⟩)=some w:=o;rw[l,n]
theorem X66 (ap:List Zb) (b:X67 ap) (L H:Nat->Int) (e:BdN H) (k:Nat) (c:k<10) (a:Int) (d : -1000001<=a/\a<=1000000) (x2:Int) (x5:List Zb) (x7:Zc) (x8:Nat->Y2) :
    WS ap x2 (ap.length:Int) (k:Int) x5 x7 x8 (0,X2e (spN L H) k ⟨L k,a⟩)=some (X2e (spN L H) k ⟨L k,X4K H (X1 ap) k a⟩) :=
  X4N ap b L H e k c a d x2 x5 x7 x8
end Nore
open Go Go.Ab
namespace Nore
theorem X6C (ap:List (Nat×Nat)) (L:Nat->Int) (a b:Int) (hL:∀i,a<=L i/\L i<=b):∀(k j:Nat),a<=Wu ap k L j/\Wu ap k L j<=b+k
  | 0,j=>by
    have:=hL j;show a<=L j/\L j<=b+((0:Nat):Int);omega
  | k+1,j=>by
    have ih:=X6C ap L a b hL k;unfold Wu;split
    · unfold up1
      obtain⟨g,_⟩:=X5Y (Wu ap k L) k ap (if 0<k then(if Wu ap k L (k-1)>Wu ap k L k then Wu ap k L (k-1)else Wu ap k L k)else Wu ap k L k);have i1:=ih k;have i2:=ih (k-1);refine⟨Int.le_trans ?_ g,X5Z _ _ _ _ _ ?_ fun p _ _=>?_⟩
      · split
        · split<;>omega
        · omega
      · split
        · split<;>omega
        · omega
      · have:=ih p.1
        omega
    · have:=ih j
      omega
theorem X6t (n:Nat) (ap:List (Nat×Nat)) (H:Nat->Int) (a b:Int) (c:∀i,a<=H i/\H i<=b):∀(k j:Nat),a-k<=Wt n ap k H j/\Wt n ap k H j<=b
  | 0,j=>by
    have:=c j;show a-((0:Nat):Int)<=H j/\H j<=b;omega
  | k+1,j=>by
    have ih:=X6t n ap H a b c k;unfold Wt;split
    · unfold dn1
      obtain⟨g,_⟩:=X61 (Wt n ap k H) (n-1-k) ap (if n-1-k+1<n then(if Wt n ap k H (n-1-k+1)<Wt n ap k H (n-1-k)then Wt n ap k H (n-1-k+1)else Wt n ap k H (n-1-k))else Wt n ap k H (n-1-k));have i1:=ih (n-1-k);have i2:=ih (n-1-k+1);refine⟨X60 _ _ _ _ _ ?_ fun p _ _=>?_,Int.le_trans g ?_⟩
      · split
        · split<;>omega
        · omega
      · have:=ih p.2
        omega
      · split
        · split<;>omega
        · omega
    · have:=ih j
      omega
theorem X5P (f:Nat->Y2) (k:Nat):X2e f k (f k)=f:=by
  funext j;unfold X2e;cases e:Nat.beq j k with
  | false=>rfl
  | true=>rw[je e];rfl
theorem X6y (ap:List (Nat×Nat)) (L H:Nat->Int) (i:Nat):X2e (spN (Wu ap i L) H) i ⟨up1 ap (Wu ap i L) i,H i⟩=spN (Wu ap (i+1) L) H:=by
  funext j;unfold X2e spN;cases e:Nat.beq j i with
  | false =>
    have:j≠i:=fun h=>by subst h;simp at e
    show(⟨Wu ap i L j,H j⟩:Y2)=⟨if j=i then _ else _,H j⟩;rw[if_neg this]
  | true =>
    have:=je e;subst this;show(⟨_,_⟩:Y2)=⟨if j=j then _ else _,H j⟩;rw[if_pos rfl]
theorem X7b (n:Nat) (ap:List (Nat×Nat)) (L H:Nat->Int) (i:Nat):X2e (spN L (Wt n ap i H)) (n-1-i) ⟨L (n-1-i),dn1 n ap (Wt n ap i H) (n-1-i)⟩=spN L (Wt n ap (i+1) H):=by
  funext j;unfold X2e spN;cases e:Nat.beq j (n-1-i)with
  | false =>
    have:j≠n-1-i:=fun h=>by subst h;simp at e
    show(⟨L j,Wt n ap i H j⟩:Y2)=⟨L j,if j=n-1-i then _ else _⟩;rw[if_neg this]
  | true =>
    have:=je e;subst this;show(⟨_,_⟩:Y2)=⟨L (n-1-i),if n-1-i=n-1-i then _ else _⟩;rw[if_pos rfl]
theorem X63 (ap:List Zb) (c:X67 ap) (L H:Nat->Int) (hL:∀i,-900000<=L i/\L i<=900000) (n:Nat) (p:n<=10) (x1:Int) (x5:Zc) (x6:Nat->Y2) :
    Wi (n:Int) x1 ap x5 x6 (0,spN L H)=some (spN (Wu (X1 ap) n L) H):=by
  obtain⟨w,m,k⟩:=X1X (Xs (n:Int) x1 ap x5 x6) n (fun i (b:Nat->Y2)=>((i:Int),b))
    (fun i b=>b=spN (Wu (X1 ap) i L) H) (fun w=>w=spN (Wu (X1 ap) n L) H)
    (fun b d=>⟨b,by simp[Xs,XH],d⟩)
    (fun i b hi d=>by
      right;have e1:decide ((i:Int)<(n:Int))=true:=by simp;omega
      have w1:=wS i (by omega)
      have f:=X6C (X1 ap) L _ _ hL i;have h:BdN (Wu (X1 ap) i L):=fun j=>by have:=f j;omega
      have o:=f i;simp only[Xs,XH,e1,jB,w1,kS]
      by_cases h0:0<i
      · have l:=f (i-1)
        have c1:decide ((i:Int)>0)=true:=by simp;omega
        have c2:decide ((i:Int)<(10:Int))=true:=by simp;omega
        have c3:Nat.blt i 10=true:=by rw[Nat.blt_eq];omega
        have w2:IntKind.wrap .i64 ((i:Int)-1)=((i-1:Nat):Int):=by rw[w64]<;>omega
        have c4:decide (((i-1:Nat):Int)<(10:Int))=true:=by simp;omega
        have c5:Nat.blt (i-1) 10=true:=by rw[Nat.blt_eq];omega
        simp only[c1,c2,c3,w2,c4,c5,z0S,kS,ju,jB];have a:(fun j=>bif Nat.beq j i then(⟨bif decide ((b (i-1)).Lo>(b i).Lo)then(b (i-1)).Lo else(b i).Lo,(b i).Hi⟩:Y2)else b j)=X2e (spN (Wu (X1 ap) i L) H) i ⟨if Wu (X1 ap) i L (i-1)>Wu (X1 ap) i L i then Wu (X1 ap) i L (i-1)else Wu (X1 ap) i L i,H i⟩:=by
          rw[d];funext j;unfold X2e spN
          by_cases hc:Wu (X1 ap) i L (i-1)>Wu (X1 ap) i L i<;>simp[hc]
        rw[a,X4M ap c _ H h i (by omega) _ (by split<;>omega)]
        refine⟨_,rfl,?_⟩;rw[<-X6y];unfold up1;rw[if_pos h0]
      · have g:i=0:=by omega
        subst g;have c1:decide (((0:Nat):Int)>0)=false:=rfl;simp only[c1,jA];have a:b=X2e (spN (Wu (X1 ap) 0 L) H) 0 ⟨Wu (X1 ap) 0 L 0,H 0⟩:=by
          rw[d];exact(X5P (spN (Wu (X1 ap) 0 L) H) 0).symm
        rw[a,X64 ap c _ H h 0 (by omega) _ (by omega)]
        refine⟨_,rfl,?_⟩;rw[<-X6y];rfl) 0 _ (Nat.zero_le _) rfl
  have e:Wi (n:Int) x1 ap x5 x6 (0,spN L H)=some w:=m;rw[e,k]
theorem X65 (ap:List Zb) (d:X67 ap) (L H:Nat->Int) (r:∀i,-900000<=H i/\H i<=900000) (n:Nat) (t:n<=10) (x4:Zc) (x5:Nat->Y2) :
    Wk (n:Int) ap x4 x5 ((n:Int)-1,spN L H)=some (spN L (Wt n (X1 ap) n H)):=by
  obtain⟨w,l,o⟩:=X1X (Xu (n:Int) ap x4 x5) n (fun i (b:Nat->Y2)=>((n:Int)-1-i,b))
    (fun i b=>b=spN L (Wt n (X1 ap) i H)) (fun w=>w=spN L (Wt n (X1 ap) n H))
    (fun b e=>⟨b,by
      have e1:decide ((n:Int)-1-(n:Int)>=0)=false:=by simp;omega
      simp only[Xu,XI,e1,jA],e⟩)
    (fun i b hi e=>by
      right;obtain⟨k,q⟩:∃k:Nat,k=n-1-i:=⟨_,rfl⟩;have f:(n:Int)-1-i=(k:Int):=by omega
      have e1:decide ((k:Int)>=0)=true:=by simp
      have w1:=wS k (by omega)
      have w3:IntKind.wrap .i64 ((k:Int)-1)=(n:Int)-1-((i+1:Nat):Int):=by rw[w64]<;>omega
      have g:=X6t n (X1 ap) H _ _ r i;have m:BdN (Wt n (X1 ap) i H):=fun j=>by have:=g j;omega
      have p:=g k;have a:=X7b n (X1 ap) L H i;rw[<-q]at a;unfold dn1 at a;simp only[f,Xu,XI,e1,jB,w1,kS,w3]
      by_cases h0:k+1<n
      · have s:=g (k+1)
        have c1:decide (((k+1:Nat):Int)<(n:Int))=true:=by simp;omega
        have c2:decide ((k:Int)<(10:Int))=true:=by simp;omega
        have c3:Nat.blt k 10=true:=by rw[Nat.blt_eq];omega
        have c4:decide (((k+1:Nat):Int)<(10:Int))=true:=by simp;omega
        have c5:Nat.blt (k+1) 10=true:=by rw[Nat.blt_eq];omega
        simp only[c1,c2,c3,c4,c5,z0S,kS,ju,jB];have c:(fun j=>bif Nat.beq j k then(⟨(b k).Lo,bif decide ((b (k+1)).Hi<(b k).Hi)then(b (k+1)).Hi else(b k).Hi⟩:Y2)else b j)=X2e (spN L (Wt n (X1 ap) i H)) k ⟨L k,if Wt n (X1 ap) i H (k+1)<Wt n (X1 ap) i H k then Wt n (X1 ap) i H (k+1)else Wt n (X1 ap) i H k⟩:=by
          rw[e];funext j;unfold X2e spN
          by_cases hc:Wt n (X1 ap) i H (k+1)<Wt n (X1 ap) i H k<;>simp[hc]
        rw[c,X4N ap d L _ m k (by omega) _ (by split<;>omega)]
        refine⟨_,rfl,?_⟩;rw[if_pos h0]at a;exact a
      · have c1:decide (((k+1:Nat):Int)<(n:Int))=false:=by simp;omega
        simp only[c1,jA];have c:b=X2e (spN L (Wt n (X1 ap) i H)) k ⟨L k,Wt n (X1 ap) i H k⟩:=by
          rw[e];exact(X5P (spN L (Wt n (X1 ap) i H)) k).symm
        rw[c,X66 ap d L _ m k (by omega) _ (by omega)]
        refine⟨_,rfl,?_⟩;rw[if_neg h0]at a;exact a) 0 _ (Nat.zero_le _) rfl
  have e0:(n:Int)-1-((0:Nat):Int)=(n:Int)-1:=by omega
  rw[e0]at l;have h:Wk (n:Int) ap x4 x5 ((n:Int)-1,spN L H)=some w:=l;rw[h,o]
def X5D (L H:Nat->Int) (ap:List Zb):Con:=⟨L,H,X1 ap⟩
theorem X6p (q:Zc) (L H:Nat->Int) (ap:List Zb) (g:X67 ap) (hL:∀i,-900000<=L i/\L i<=900000) (s:∀i,-900000<=H i/\H i<=900000) (m:q.CoRecord.Entries.length<=10) :
    Wg q (spN L H) ap=some (spN (X3M q.CoRecord.Entries.length (X5D L H ap)) (X3L q.CoRecord.Entries.length (X5D L H ap)),okN q.CoRecord.Entries.length (X5D L H ap)):=by
  rw[X2v];unfold W8;generalize q.CoRecord.Entries.length=n at m;have w1:IntKind.wrap .i64 ((n:Int)-1)=(n:Int)-1:=by rw[w64]<;>omega
  rw[X63 ap g L H hL n m];simp only[jS,w1];rw[X65 ap g _ H s n m];have c1:decide ((n:Int)<=(10:Int))=true:=by simp;omega
  simp only[jS,z0S,c1,ju,jB,kS,List.drop_zero];have c:(List.map (spN (Wu (X1 ap) n L) (Wt n (X1 ap) n H)) (List.range 10)).take n=(List.range n).map (spN (X3M n (X5D L H ap)) (X3L n (X5D L H ap))):=by
    rw[<-List.map_take,List.take_range,Nat.min_eq_left m];rfl
  rw[c];generalize hA:X3M n (X5D L H ap)=A;generalize hB:X3L n (X5D L H ap)=B;have a:((List.range n).map (spN A B)).length=n:=by simp
  obtain⟨w,u,r⟩:=X1X (Xw (n:Int) ((List.range n).map (spN A B))) n (fun i (_:Unit)=>(i:Int)) (fun i _=>∀j,j<i->A j<=B j)
    (fun w=>(∃j:Nat,w=.inl (j:Int)/\¬∀i,i<n->A i<=B i)\/(w=.inr ()/\∀i,i<n->A i<=B i))
    (fun _ h=>⟨.inr (),by simp[Xw,XJ],.inr ⟨rfl,h⟩⟩)
    (fun i _ hi h=>by
      have e1:decide ((i:Int)<(n:Int))=true:=by simp;omega
      have l:((List.range n).map (spN A B)).getD i ⟨0,0⟩=⟨A i,B i⟩:=by
        rw[XZ _ _ _ (by rw[a];exact hi)]
        simp[spN]
      have w1:=wS i (by omega)
      simp only[Xw,XJ,e1,a,z0S,ju,jB,kS,l,w1];rw[X2b];unfold XY;simp only[jS]
      by_cases hc:A i>B i
      · left
        exact⟨.inl (i:Int),by simp[hc],.inl ⟨i,rfl,fun k=>by have:=k i hi;omega⟩⟩
      · right
        refine⟨(),by simp[hc],fun j t=>?_⟩
        by_cases e:j=i
        · subst e;omega
        · exact h j (by omega)) 0 () (Nat.zero_le _) (fun j t=>by omega)
  have p:WT (n:Int) ((List.range n).map (spN A B)) 0=some w:=u;have d:Wu (X1 ap) n L=A:=hA;have b:Wt n (X1 ap) n H=B:=hB;rw[a,p,d,b];rcases r with⟨k,rfl,o⟩|⟨rfl,f⟩
  · have:okN n (X5D L H ap)=false:=by
      rw[Bool.eq_false_iff];intro h;rw[X4L,hA,hB]at h;exact o h
    rw[this];simp
  · have:okN n (X5D L H ap)=true:=by
      rw[X4L,hA,hB];exact f
    rw[this];simp
end Nore
open Go Go.Ab
namespace Nore
def gtN (l:List Int) (i:Nat):Int:=l.getD i 0
structure X7m (n:Nat) (c:Con) (A B:Nat->Int) (lo hi:List Int):Prop where
  l1:lo.length=n
  l2:hi.length=n
  bd:∀i,i<n->c.lo i<=gtN lo i/\gtN lo i<=A i/\B i<=gtN hi i/\gtN hi i<=c.hi i
end Nore
open Go Go.Ab
namespace Nore
def OkR (n:Nat) (ap:List Z6):Prop:=ap.length<=1000000/\∀s∈ap,0<=s.from_/\s.from_<s.to_/\s.to_<n
end Nore
open Go Go.Ab
namespace Nore
structure X7l (n:Nat) (x:Z8):Prop where
  l1:x.lo.length=n
  l2:x.hi.length=n
  ap:OkR n x.later
  bd:∀i,i<n -> -900000<=gtN x.lo i/\gtN x.lo i<=900000 /\ -900000<=gtN x.hi i/\gtN x.hi i<=900000
end Nore
open Go Go.Ab
namespace Nore
def X4C (dev st:Int):List Zq->Nat->Int->Int->List Z6
  | [],i,now,fr=>if now=st then [⟨fr,i⟩]else []
  | x::xs,i,now,fr=>if x.Device=dev then(if now=st then [⟨fr,i⟩]else [])++X4C dev st xs (i+1) x.State i else X4C dev st xs (i+1) now fr
theorem X4d (dev st:Int) (i:Nat) (now fr:Int):X4C dev st [] i now fr=if now=st then [⟨fr,i⟩]else []:=rfl
theorem X2S (dev st:Int) (x:Zq) (xs:List Zq) (i:Nat) (now fr:Int):X4C dev st (x::xs) i now fr=if x.Device=dev then(if now=st then [⟨fr,i⟩]else [])++X4C dev st xs (i+1) x.State i else X4C dev st xs (i+1) now fr:=rfl
theorem X5d {c d:Con} (g:∀i,c.lo i=d.lo i) (f:∀i,c.hi i=d.hi i) (h:c.ap=d.ap):c=d:=by
  obtain⟨a,b,e⟩:=c;obtain⟨a',b',e'⟩:=d;have g:a=a':=funext g;have f:b=b':=funext f;simp only at h;rw[g,f,h]
end Nore
open Go Go.Ab
namespace Nore
end Nore
open Go Go.Ab
namespace Nore
theorem X70 {σ ω:Type} {st st':σ->Option (σ⊕ω)} (h:∀s x,st s=some x->st' s=some x) {s:σ} {w:ω} (hr:Z8I st s=some w):Z8I st' s=some w:=by
  rw[Z1C]at hr⊢
  induction hr with
  | done e=>exact .done (h _ _ e)
  | next e _ ih=>exact .next (h _ _ e) ih
theorem X5M {α β:Type} {t:(α->Option β)->α->Option β} (ht:∀f g:α->Option β,(∀x r,f x=some r->g x=some r)->∀x r,t f x=some r->t g x=some r) :
    ∀(n:Nat) (x:α) (r:β),Z9E t n x=some r->Z9E t (n+1) x=some r
  | 0,_,_,h=>by cases h
  | n+1,x,r,h=>ht _ _ (X5M ht n) x r h
theorem ZfI {α β:Type} {t:(α->Option β)->α->Option β} (ht:∀f g:α->Option β,(∀x r,f x=some r->g x=some r)->∀x r,t f x=some r->t g x=some r) (n:Nat) :
    ∀(k:Nat) (x:α) (r:β),Z9E t n x=some r->Z9E t (n+k) x=some r
  | 0,_,_,h=>h
  | k+1,x,r,h=>X5M ht (n+k) x r (ZfI ht n k x r h)
theorem X6o {α β:Type} {t:(α->Option β)->α->Option β} (ht:∀f g:α->Option β,(∀x r,f x=some r->g x=some r)->∀x r,t f x=some r->t g x=some r) {n:Nat} {x:α} {r:β} (h:Z9E t n x=some r):Zba t x=some r:=by
  refine Zka (fun m q b=>?_) ⟨n,r,h⟩;have c:=ZfI ht n m x r h;have a:=ZfI ht m n x q b;rw[Nat.add_comm]at a;rw[c]at a;exact(Option.some.inj a).symm
theorem X5g (dev st:Int) (n:Nat):∀(e:List Zq) (i:Nat) (now fr:Int),i+e.length=n -> -1<=fr->fr<i->((X4C dev st e i now fr).length<=e.length+1)/\∀s∈X4C dev st e i now fr,-1<=s.from_/\s.from_<s.to_/\s.to_<=n
  | [],i,now,fr,h,h1,h2=>by
    simp only[List.length_nil,Nat.add_zero]at h;rw[X4d];split
    · refine⟨by simp,fun s a=>?_⟩
      rw[List.mem_singleton.1 a];simp only;omega
    · exact⟨by simp,fun s a=>by cases a⟩
  | x::xs,i,now,fr,h,h1,h2=>by
    simp only[List.length_cons]at h;rw[X2S];split
    · obtain⟨g1,g2⟩:=X5g dev st n xs (i+1) x.State i (by omega) (by omega) (by omega)
      split
      · refine⟨by simp only[List.length_append,List.length_cons,List.length_nil];omega,fun s a=>?_⟩
        rcases List.mem_append.1 a with q|q
        · rw[List.mem_singleton.1 q]
          simp only;omega
        · exact g2 s q
      · refine⟨by simp only[List.nil_append,List.length_cons];omega,fun s a=>g2 s (by simpa using a)⟩
    · obtain⟨g1,g2⟩:=X5g dev st n xs (i+1) now fr (by omega) h1 (by omega)
      exact⟨by simp only[List.length_cons];omega,g2⟩
end Nore
open Go Go.Ab
namespace Nore
def X4O (r:CoRecord) (x:Zr):List Z6:=X4C x.Device x.State r.Entries 0 (r.Devices.getD x.Device.toNat ⟨ByteArray.empty,0,0⟩).First (-1)
def X30 (s:Z6):Str:=(s.from_,s.to_.toNat)
def X38 (r:CoRecord) (x:Zr):Wit:=⟨(X4O r x).map X30,x.At.Lo,x.At.Hi⟩
structure X3Y (r:CoRecord) (x:Zr):Prop where
  dev:0<=x.Device/\x.Device<r.Devices.length
  lo : -900000<=x.At.Lo/\x.At.Lo<900000
  hi : -900000<=x.At.Hi/\x.At.Hi<=900000
theorem X73 {r:CoRecord} (x:Zr) {n:Nat} (d:r.Entries.length=n):(X4O r x).length<=n+1/\∀s∈X4O r x,0<=s.to_/\X4Y n (X30 s):=by
  obtain⟨a,c⟩:=X5g x.Device x.State n r.Entries 0 (r.Devices.getD x.Device.toNat ⟨ByteArray.empty,0,0⟩).First (-1) (by omega) (by omega) (by omega)
  rw[d]at a;refine⟨a,fun s b=>?_⟩;have:=c s b;unfold X4Y X30;simp only;omega
end Nore
open Go Go.Ab
namespace Nore
end Nore
open Go Go.Ab
namespace Nore
def X6r (r:CoRecord):Prop:=r.Entries.length<=10/\∀x∈r.Entries,-900000<=x.At.Lo/\x.At.Lo<=900000 /\ -900000<=x.At.Hi/\x.At.Hi<=900000
end Nore
open Go Go.Ab
namespace Nore
def LeO {β:Type} (a b:Option β):Prop:=∀r,a=some r->b=some r
theorem LeO.same {β:Type} (a:Option β):LeO a a:=fun _ h=>h
theorem LeO.cond {β:Type} {c:Bool} {a a' b b':Option β} (d:LeO a a') (e:LeO b b'):LeO (bif c then a else b) (bif c then a' else b'):=by
  cases c
  · exact e
  · exact d
theorem LeO.bind {α β:Type} {o o':Option α} {k k':α->Option β} (b:LeO o o') (c:∀a,LeO (k a) (k' a)):LeO (o.bind k) (o'.bind k'):=fun r h=>by
  cases o with
  | none=>cases h
  | some a=>rw[b a rfl];exact c a r h
theorem LeO.run {σ ω:Type} {st st':σ->Option (σ⊕ω)} (h:∀s,LeO (st s) (st' s)) (s:σ):LeO (Z8I st s) (Z8I st' s):=fun _ hr=>X70 h hr
theorem X5B (f g:((Nat->Y2)×Int×(List Zb)×Zc×Bool×Zc×Zc)->Option ((Bool×Zc×Bool×Zc×Zc)⊕(Bool×Zc×Bool×Zc×Zc))) (h:∀x,LeO (f x) (g x)) (x):LeO (X2 f x) (X2 g x):=by
  unfold X2 X8;refine .bind (.same _) fun a=>.cond (.same _) (.cond (.same _) (.cond (.cond (.cond (.cond (.bind ?_ fun _=>.same _) (.same _)) (.same _)) (.same _)) (.same _)));unfold XE;refine LeO.run (fun s=>?_) _;unfold X5 X0;dsimp only
  repeat' (first|with_reducible exact LeO.same _|with_reducible exact LeO.bind (h _) fun _=>LeO.same _|with_reducible apply LeO.cond)
end Nore
open Go Go.Ab
namespace Nore
def X2T (u:Nat->Y2) (ap:List Zb):Con:=X5D (fun j=>(u j).Lo) (fun j=>(u j).Hi) ap
def UBd (u:Nat->Y2):Prop:=∀i,-900000<=(u i).Lo/\(u i).Lo<=900000 /\ -900000<=(u i).Hi/\(u i).Hi<=900000
def ApK (n k:Nat) (ap:List Zb):Prop:=ap.length<=k/\∀s∈ap,0<=s.from_/\s.from_<s.to_/\s.to_<n
theorem ApK.bd {n k:Nat} {ap:List Zb} (h:ApK n k ap) (c:n<=10) (a:k<=1000):X67 ap:=⟨Nat.le_trans h.1 a,fun s b=>by have:=h.2 s b;omega⟩
theorem ApK.keep {n k:Nat} {ap:List Zb} (h:ApK n k ap):ApK n (k+1) ap:=⟨Nat.le_succ_of_le h.1,h.2⟩
theorem ApK.add {n k:Nat} {ap:List Zb} (h:ApK n k ap) {f t:Nat} (c:f<t) (b:t<n):ApK n (k+1) (ap++[⟨(f:Int),(t:Int)⟩]) :=
  ⟨by rw[List.length_append,List.length_singleton];exact Nat.succ_le_succ h.1,fun s a=>by
    rcases List.mem_append.1 a with q|q
    · exact h.2 s q
    · rw[List.mem_singleton.1 q];simp only;omega⟩
theorem X5u (q:Zc) (u:Nat->Y2) (ap:List Zb) {k:Nat} (a:UBd u) (b:ApK q.CoRecord.Entries.length k ap) (d:k<=1000) (c:q.CoRecord.Entries.length<=10) :
    Wg q u ap=some (spN (X3M q.CoRecord.Entries.length (X2T u ap)) (X3L q.CoRecord.Entries.length (X2T u ap)),okN q.CoRecord.Entries.length (X2T u ap)) :=
  X6p q (fun j=>(u j).Lo) (fun j=>(u j).Hi) ap (b.bd c d) (fun i=>⟨(a i).1,(a i).2.1⟩) (fun i=>⟨(a i).2.2.1,(a i).2.2.2⟩) c
def X3Z (u:Nat->Y2) (f:Nat) (b:Int):Nat->Y2:=fun j=>bif Nat.beq j f then Y2.mk (u f).Lo (bif decide (b<(u f).Hi)then b else(u f).Hi)else u j
def X40 (u:Nat->Y2) (t:Nat) (a:Int):Nat->Y2:=fun j=>bif Nat.beq j t then Y2.mk (bif decide (a>(u t).Lo)then a else(u t).Lo) (u t).Hi else u j
theorem X4D (u:Nat->Y2) (f:Nat) (b:Int) (j:Nat):(X3Z u f b j).Lo=(u j).Lo:=by
  unfold X3Z;cases e:Nat.beq j f with
  | true=>rw[je e];rfl
  | false=>rfl
theorem X5i (u:Nat->Y2) (f:Nat) (b:Int) (j:Nat):(X3Z u f b j).Hi=if j=f then(if b<(u f).Hi then b else(u f).Hi)else(u j).Hi:=by
  unfold X3Z;cases e:Nat.beq j f with
  | true =>
    rw[if_pos (je e)]
    by_cases c:b<(u f).Hi<;>simp[c]
  | false=>rw[if_neg (Nat.ne_of_beq_eq_false e)];rfl
theorem X5j (u:Nat->Y2) (f:Nat) (b:Int) (j:Nat):(X40 u f b j).Hi=(u j).Hi:=by
  unfold X40;cases e:Nat.beq j f with
  | true=>rw[je e];rfl
  | false=>rfl
theorem X5k (u:Nat->Y2) (f:Nat) (b:Int) (j:Nat):(X40 u f b j).Lo=if j=f then(if b>(u f).Lo then b else(u f).Lo)else(u j).Lo:=by
  unfold X40;cases e:Nat.beq j f with
  | true =>
    rw[if_pos (je e)]
    by_cases c:b>(u f).Lo<;>simp[c]
  | false=>rw[if_neg (Nat.ne_of_beq_eq_false e)];rfl
theorem UBd.hi {u:Nat->Y2} (h:UBd u) (f:Nat) {b:Int} (c : -900000<=b/\b<=900000):UBd (X3Z u f b):=fun i=>by
  rw[X4D,X5i];have a:=h i;have d:=h f;refine⟨a.1,a.2.1,?_⟩;split
  · split<;>omega
  · exact a.2.2
theorem UBd.lo {u:Nat->Y2} (h:UBd u) (f:Nat) {b:Int} (c : -900000<=b/\b<=900000):UBd (X40 u f b):=fun i=>by
  rw[X5k,X5j];have a:=h i;have d:=h f;refine⟨?_,?_,a.2.2⟩
  · split
    · split<;>omega
    · exact a.1
  · split
    · split<;>omega
    · exact a.2.1
theorem X6n (ap:List Zb) (f t:Nat):X1 (ap++[⟨(f:Int),(t:Int)⟩])=X1 ap++[(f,t)]:=by
  unfold X1;rw[List.map_append];rfl
theorem X6E (u:Nat->Y2) (ap:List Zb) {n f t:Nat} (ht:t<n) (a b:Int):X2T (X40 (X3Z u f b) t (a+1)) (ap++[⟨(f:Int),(t:Int)⟩])=X2o n (X2T u ap) ((f:Int),t) a b:=by
  refine X5d (fun i=>?_) (fun i=>?_) ?_
  · show(X40 (X3Z u f b) t (a+1) i).Lo=if t<n/\i=t then(if a+1>(u i).Lo then a+1 else(u i).Lo)else(u i).Lo
    rw[X5k,X4D,X4D]
    by_cases e:i=t
    · subst e;simp[ht]
    · rw[if_neg e,if_neg fun h=>e h.2]
  · show(X40 (X3Z u f b) t (a+1) i).Hi=if 0<=(f:Int)/\i=(f:Int).toNat then(if b<(u i).Hi then b else(u i).Hi)else(u i).Hi
    rw[X5j,X5i,kS]
    by_cases e:i=f
    · subst e;simp
    · rw[if_neg e,if_neg fun h=>e h.2]
  · show X1 (ap++[⟨(f:Int),(t:Int)⟩])=if 0<=(f:Int)/\t<n then X1 ap++[((f:Int).toNat,t)]else X1 ap
    rw[if_pos ⟨by omega,ht⟩,X6n,kS]
theorem X75 (u:Nat->Y2) (ap:List Zb) {n f t:Nat} (ht:¬t<n) (a b:Int):X2T (X3Z u f b) ap=X2o n (X2T u ap) ((f:Int),t) a b:=by
  refine X5d (fun i=>?_) (fun i=>?_) ?_
  · show(X3Z u f b i).Lo=if t<n/\i=t then(if a+1>(u i).Lo then a+1 else(u i).Lo)else(u i).Lo
    rw[X4D,if_neg fun h=>ht h.1]
  · show(X3Z u f b i).Hi=if 0<=(f:Int)/\i=(f:Int).toNat then(if b<(u i).Hi then b else(u i).Hi)else(u i).Hi
    rw[X5i,kS]
    by_cases e:i=f
    · subst e;simp
    · rw[if_neg e,if_neg fun h=>e h.2]
  · show X1 ap=if 0<=(f:Int)/\t<n then X1 ap++[((f:Int).toNat,t)]else X1 ap
    rw[if_neg fun h=>ht h.2]
theorem X76 (u:Nat->Y2) (ap:List Zb) {n t:Nat} {fr:Int} (c:¬0<=fr) (ht:t<n) (a b:Int):X2T (X40 u t (a+1)) ap=X2o n (X2T u ap) (fr,t) a b:=by
  refine X5d (fun i=>?_) (fun i=>?_) ?_
  · show(X40 u t (a+1) i).Lo=if t<n/\i=t then(if a+1>(u i).Lo then a+1 else(u i).Lo)else(u i).Lo
    rw[X5k]
    by_cases e:i=t
    · subst e;simp[ht]
    · rw[if_neg e,if_neg fun h=>e h.2]
  · show(X40 u t (a+1) i).Hi=if 0<=fr/\i=fr.toNat then(if b<(u i).Hi then b else(u i).Hi)else(u i).Hi
    rw[X5j,if_neg fun h=>c h.1]
  · show X1 ap=if 0<=fr/\t<n then X1 ap++[(fr.toNat,t)]else X1 ap
    rw[if_neg fun h=>c h.1]
theorem X77 (u:Nat->Y2) (ap:List Zb) {n t:Nat} {fr:Int} (c:¬0<=fr) (ht:¬t<n) (a b:Int):X2T u ap=X2o n (X2T u ap) (fr,t) a b:=by
  refine X5d (fun i=>?_) (fun i=>?_) ?_
  · show(u i).Lo=if t<n/\i=t then(if a+1>(u i).Lo then a+1 else(u i).Lo)else(u i).Lo
    rw[if_neg fun h=>ht h.1]
  · show(u i).Hi=if 0<=fr/\i=fr.toNat then(if b<(u i).Hi then b else(u i).Hi)else(u i).Hi
    rw[if_neg fun h=>c h.1]
  · show X1 ap=if 0<=fr/\t<n then X1 ap++[(fr.toNat,t)]else X1 ap
    rw[if_neg fun h=>c h.1]
def X5H (n:Nat) (dev st:Int) (E:List Zq) (i:Nat) (now fr:Int):List Z6:=if i<=n then X4C dev st (E.drop i) i now fr else []
theorem X5w (n:Nat) (dev st:Int) (E:List Zq) (now fr:Int):X5H n dev st E (n+1) now fr=[]:=if_neg (by omega)
theorem X6Q {n:Nat} {E:List Zq} (hE:E.length=n) (dev st:Int) {i:Nat} (hi:i<n+1) (now fr:Int) {X:Zq} (hX:(E++[Zq.mk dev (-1) (Y2.mk 0 0)]).getD i (Zq.mk 0 0 (Y2.mk 0 0))=X) :
    X5H n dev st E i now fr=if X.Device=dev then(if now=st then [⟨fr,i⟩]else [])++X5H n dev st E (i+1) X.State i else X5H n dev st E (i+1) now fr:=by
  by_cases h:i<n
  · have b:X=E[i]:=by
      rw[<-hX,XZ _ _ _ (by rw[List.length_append,List.length_singleton];omega),List.getElem_append_left (by omega)]
    have d:i<=n:=by omega
    have c:i+1<=n:=by omega
    simp only[X5H,d,c,if_true];rw[jb (by omega),X2S,<-b]
  · have a:i=n:=by omega
    subst a;have b:X=Zq.mk dev (-1) (Y2.mk 0 0):=by
      rw[<-hX,XZ _ _ _ (by rw[List.length_append,List.length_singleton];omega),List.getElem_append_right (by omega)]
      simp
    rw[X5w,X5w,b,if_pos rfl];unfold X5H;rw[if_pos (Nat.le_refl _),jd (by omega),X4d,jo]
def X5r (q:Zc) (L:List Con):(Bool×Zc×Bool×Zc×Zc)⊕(Bool×Zc×Bool×Zc×Zc) :=
  if L.isEmpty then .inl (true,q,false,q,q)else .inr (false,q,true,q,q)
theorem X69 (n:Nat) (c:Con):XF n [] c=if okN n c then [X62 n c]else []:=rfl
theorem X5X (n:Nat) (w:Wit) (ws:List Wit) (c:Con):XF n (w::ws) c=if okN n c then w.strs.flatMap fun s=>XF n ws (X2o n c s w.a w.b)else []:=rfl
theorem X3A (q:Zc) (n:Nat) (o:q.CoRecord.Entries.length=n) (h10:n<=10) (h8:q.seen.length<=8) (hs:∀x∈q.seen,X3Y q.CoRecord x)
    (ih0:((Nat->Y2)×Int×(List Zb)×Zc×Bool×Zc×Zc)->Option ((Bool×Zc×Bool×Zc×Zc)⊕(Bool×Zc×Bool×Zc×Zc))) (l:List Zr) (k:Nat) (hk:k+l.length=q.seen.length) (hd:q.seen.drop k=l)
    (ih:∀x l',l=x::l'->k+1+l'.length=q.seen.length->q.seen.drop (k+1)=l'->∀(u:Nat->Y2) (ap:List Zb),UBd u->ApK n (k+1) ap->∀c,X2T u ap=c->ih0 (u,((k+1:Nat):Int),ap,q,false,q,q)=some (X5r q (XF n (l'.map (X38 q.CoRecord)) c)))
    (u:Nat->Y2) (ap:List Zb) (r:UBd u) (a:ApK n k ap) (c:Con) (hc:X2T u ap=c) :
    X8 ih0 u (k:Int) ap q false q q=some (X5r q (XF n (l.map (X38 q.CoRecord)) c)):=by
  cases l with
  | nil =>
    have h:=X5u q u ap r (o▸a) (by omega) (by omega)
    rw[o,hc]at h;unfold X8;simp only[h,jS,List.map_nil,X69];have c1:((k:Int)==(q.seen.length:Int))=true:=by simp only[List.length_nil,Nat.add_zero]at hk;simp[hk]
    cases okN n c with
    | false=>rfl
    | true=>simp only[Bool.not_true,jA,c1,jB];rfl
  | cons x l =>
    simp only[List.length_cons]at hk;have h:=X5u q u ap r (o▸a) (by omega) (by omega)
    rw[o,hc]at h;have p:k<q.seen.length:=by omega
    have d:q.seen.drop k=q.seen[k]::q.seen.drop (k+1):=jb p;rw[hd]at d;injection d with hx hl
    have g:X3Y q.CoRecord x:=hs x (hx▸jl p);have a0:q.seen.getD k (Zr.mk 0 0 (Y2.mk 0 0))=x:=by rw[XZ _ _ _ p,<-hx]
    have j:=ih x l rfl (by omega) hl.symm
    unfold X8;simp only[h,jS,jr];show _=some (X5r q (XF n (X38 q.CoRecord x::l.map (X38 q.CoRecord)) c));rw[X5X];cases hok:okN n c with
    | false=>rfl
    | true =>
      have c1:((k:Int)==(q.seen.length:Int))=false:=X2s (by omega)
      have c2:decide ((k:Int)<(q.seen.length:Int))=true:=by simp;omega
      have c3:decide (0<=x.Device)=true:=by simp[g.dev.1]
      have c4:decide (x.Device<(q.CoRecord.Devices.length:Int))=true:=by simp[g.dev.2]
      have c5:Nat.ble (n*(32+1)) 100000000000000=true:=by rw[Nat.ble_eq];omega
      have c6:Nat.ble ((n+1)*(32+1)) 200000000000000=true:=by rw[Nat.ble_eq];omega
      have c7:Nat.blt 0 4=true:=rfl;have t:(q.CoRecord.Entries++[Zq.mk x.Device (-1) (Y2.mk 0 0)]).length=n+1:=by rw[List.length_append,List.length_singleton,o]
      simp only[Bool.not_true,jA,c1,c2,c3,c4,o,c5,List.length_singleton,c6,c7,z0S,ju,jB,kS,a0,if_true,t];unfold XE;refine Eq.trans (X1y _ _ (n+1) (fun i (b:Int×Zb)=>((i:Int),b.1,b.2,q,false,q,q)) (fun i b => -1<=b.2.from_/\b.2.from_<i)
        (fun i b=>some (X5r q ((X5H n x.Device x.State q.CoRecord.Entries i b.1 b.2.from_).flatMap fun s=>XF n (l.map (X38 q.CoRecord)) (X2o n c (X30 s) x.At.Lo x.At.Hi)))) ?_ ?_ 0
        ((q.CoRecord.Devices.getD x.Device.toNat ⟨ByteArray.empty,0,0⟩).First,⟨-1,0⟩) (by omega) ⟨by simp,by simp⟩) ?_
      · intro b hP R
        have e1:decide (((n+1:Nat):Int)<((n+1:Nat):Int))=false:=by simp
        simp only[X5,X0,e1,jA,X5w];rfl
      · intro i b hi hP R hR
        obtain⟨now,s⟩:=b;obtain⟨v,hP2⟩:=hP;simp only at v hP2;generalize hX:(q.CoRecord.Entries++[Zq.mk x.Device (-1) (Y2.mk 0 0)]).getD i (Zq.mk 0 0 (Y2.mk 0 0))=X;simp only;rw[X6Q o x.Device x.State hi now s.from_ hX];have e1:decide ((i:Int)<((n+1:Nat):Int))=true:=by simp;omega
        have e3:Nat.blt i (n+1)=true:=by rw[Nat.blt_eq];exact hi
        have w1:=wS i (by omega)
        have w2:=wS k (by omega)
        have w3:IntKind.wrap .i64 (x.At.Lo+1)=x.At.Lo+1:=by have:=g.lo;rw[w64]<;>omega
        have hl2:=a.1;have b1:Nat.ble (ap.length*(16+1)) 100000000000000=true:=by rw[Nat.ble_eq];omega
        have b2:Nat.ble ((ap.length+1)*(16+1)) 200000000000000=true:=by rw[Nat.ble_eq];omega
        have b3:Nat.blt 0 2=true:=rfl;have hxl:=g.lo;have w:=g.hi;simp only[X5,X0,t,e1,e3,z0S,ju,jB,kS,w1,w2,w3,hX,o,b1,b2,b3,List.length_singleton]
        by_cases hdv:X.Device=x.Device
        · have d1:(X.Device != x.Device)=false:=by simp[hdv]
          simp only[d1,jA];rw[if_pos hdv]
          by_cases hnow:now=x.State
          · have d2:(now==x.State)=true:=by simp[hnow]
            simp only[d2,jB];rw[if_pos hnow,List.singleton_append,List.flatMap_cons];generalize hrest:((X5H n x.Device x.State q.CoRecord.Entries (i+1) X.State (i:Int)).flatMap fun s=>XF n (l.map (X38 q.CoRecord)) (X2o n c (X30 s) x.At.Lo x.At.Hi))=rest;have m:R (((i+1:Nat):Int),X.State,Zb.mk (i:Int) (i:Int),q,false,q,q)=some (X5r q rest):=by
              rw[<-hrest];exact hR (X.State,⟨(i:Int),(i:Int)⟩) ⟨by simp only;omega,by simp only;omega⟩
            show _=some (X5r q (XF n (l.map (X38 q.CoRecord)) (X2o n c (s.from_,(i:Int).toNat) x.At.Lo x.At.Hi)++rest));rw[kS]
            by_cases hf:0<=s.from_
            · obtain⟨f,z⟩:=Int.eq_ofNat_of_zero_le hf
              have f1:decide ((f:Int)>=0)=true:=by simp
              have f2:decide ((f:Int)<(10:Int))=true:=by simp;omega
              have f3:Nat.blt f 10=true:=by rw[Nat.blt_eq];omega
              by_cases hin:i<n
              · have g1:decide ((i:Int)<(n:Int))=true:=by simp;omega
                have g2:decide ((i:Int)<(10:Int))=true:=by simp;omega
                have g3:Nat.blt i 10=true:=by rw[Nat.blt_eq];omega
                simp only[z,f1,f2,f3,g1,g2,g3,z0S,kS,ju,jB];rw[j _ _ ?b1h1 ?b1h2 (X2o n c ((f:Int),i) x.At.Lo x.At.Hi) ?b1h3]
                case b1h1=>exact(r.hi f w).lo i (by omega)
                case b1h2=>exact a.add (by omega) hin
                case b1h3=>rw[<-hc];exact X6E u ap hin x.At.Lo x.At.Hi
                generalize XF n (l.map (X38 q.CoRecord)) (X2o n c ((f:Int),i) x.At.Lo x.At.Hi)=L1;cases L1 with
                | nil=>exact m
                | cons y ys=>rfl
              · have g1:decide ((i:Int)<(n:Int))=false:=by simp;omega
                simp only[z,f1,f2,f3,g1,z0S,kS,ju,jB,jA];rw[j _ _ ?b2h1 ?b2h2 (X2o n c ((f:Int),i) x.At.Lo x.At.Hi) ?b2h3]
                case b2h1=>exact r.hi f w
                case b2h2=>exact a.keep
                case b2h3=>rw[<-hc];exact X75 u ap hin x.At.Lo x.At.Hi
                generalize XF n (l.map (X38 q.CoRecord)) (X2o n c ((f:Int),i) x.At.Lo x.At.Hi)=L1;cases L1 with
                | nil=>exact m
                | cons y ys=>rfl
            · have f1:decide (s.from_>=0)=false:=by simp;omega
              by_cases hin:i<n
              · have g1:decide ((i:Int)<(n:Int))=true:=by simp;omega
                have g2:decide ((i:Int)<(10:Int))=true:=by simp;omega
                have g3:Nat.blt i 10=true:=by rw[Nat.blt_eq];omega
                simp only[f1,g1,g2,g3,z0S,kS,ju,jB,jA];rw[j _ _ ?b3h1 ?b3h2 (X2o n c (s.from_,i) x.At.Lo x.At.Hi) ?b3h3]
                case b3h1=>exact r.lo i (by omega)
                case b3h2=>exact a.keep
                case b3h3=>rw[<-hc];exact X76 u ap hf hin x.At.Lo x.At.Hi
                generalize XF n (l.map (X38 q.CoRecord)) (X2o n c (s.from_,i) x.At.Lo x.At.Hi)=L1;cases L1 with
                | nil=>exact m
                | cons y ys=>rfl
              · have g1:decide ((i:Int)<(n:Int))=false:=by simp;omega
                simp only[f1,g1,z0S,kS,ju,jB,jA];rw[j _ _ ?b4h1 ?b4h2 (X2o n c (s.from_,i) x.At.Lo x.At.Hi) ?b4h3]
                case b4h1=>exact r
                case b4h2=>exact a.keep
                case b4h3=>rw[<-hc];exact X77 u ap hf hin x.At.Lo x.At.Hi
                generalize XF n (l.map (X38 q.CoRecord)) (X2o n c (s.from_,i) x.At.Lo x.At.Hi)=L1;cases L1 with
                | nil=>exact m
                | cons y ys=>rfl
          · have d2:(now==x.State)=false:=X2s hnow
            simp only[d2,jA];rw[if_neg hnow,List.nil_append];exact hR (X.State,⟨(i:Int),(i:Int)⟩) ⟨by simp only;omega,by simp only;omega⟩
        · have d1:(X.Device != x.Device)=true:=X2E hdv
          simp only[d1,jB];rw[if_neg hdv];exact hR (now,s) ⟨v,by simp only;omega⟩
      · simp only[if_true]
        show some (X5r q ((X5H n x.Device x.State q.CoRecord.Entries 0 (q.CoRecord.Devices.getD x.Device.toNat ⟨ByteArray.empty,0,0⟩).First (-1)).flatMap fun s=>XF n (l.map (X38 q.CoRecord)) (X2o n c (X30 s) x.At.Lo x.At.Hi)))=_;have e:X5H n x.Device x.State q.CoRecord.Entries 0 (q.CoRecord.Devices.getD x.Device.toNat ⟨ByteArray.empty,0,0⟩).First (-1)=X4O q.CoRecord x:=if_pos (Nat.zero_le _);rw[e];show _=some (X5r q (((X4O q.CoRecord x).map X30).flatMap fun s=>XF n (l.map (X38 q.CoRecord)) (X2o n c s x.At.Lo x.At.Hi)));rw[List.flatMap_map]
theorem X4e (q:Zc) (n:Nat) (e:q.CoRecord.Entries.length=n) (a:n<=10) (b:q.seen.length<=8) (d:∀x∈q.seen,X3Y q.CoRecord x) :
    ∀(l:List Zr) (k:Nat),k+l.length=q.seen.length->q.seen.drop k=l->∀(u:Nat->Y2) (ap:List Zb),UBd u->ApK n k ap->∀c,X2T u ap=c →
      Z9E X2 (l.length+1) (u,(k:Int),ap,q,false,q,q)=some (X5r q (XF n (l.map (X38 q.CoRecord)) c))
  | [],k,hk,hd,u,ap,hu,hap,c,hc=>X3A q n e a b d (Z9E X2 0) [] k hk hd (fun _ _ h=>by cases h) u ap hu hap c hc
  | x::l,k,hk,hd,u,ap,hu,hap,c,hc=>X3A q n e a b d (Z9E X2 (l.length+1)) (x::l) k hk hd (fun x' l' h g f=>by
      injection h with _ h
      subst h;exact X4e q n e a b d l (k+1) g f) u ap hu hap c hc
theorem X5J (q:Zc) (n:Nat) (i:q.CoRecord.Entries.length=n) (a:n<=10) (c:q.seen.length<=8) (e:∀x∈q.seen,X3Y q.CoRecord x) (k:Nat) (j:k<=q.seen.length) (u:Nat->Y2) (ap:List Zb) (d:UBd u) (b:ApK n k ap) :
    XR (u,(k:Int),ap,q,false,q,q)=some (X5r q (XF n ((q.seen.drop k).map (X38 q.CoRecord)) (X2T u ap))) :=
  X6o (fun f g h x r hr=>X5B f g h x r hr) (X4e q n i a c e (q.seen.drop k) k (by rw[List.length_drop];omega) rfl u ap d b _ rfl)
end Nore
open Go Go.Ab
namespace Nore
theorem X5I (q:Zc) (n:Nat) (g:q.CoRecord.Entries.length=n) (a:n<=10) (f:q.seen.length<=8) (b:∀x∈q.seen,X3Y q.CoRecord x) (u:Nat->Y2) (d:UBd u) :
    XQ (u,0,q,false,q,q)=some (X5r q (XF n (q.seen.map (X38 q.CoRecord)) (X2T u []))):=by
  rw[X1u];exact X3A q n g a f b XR q.seen 0 (by omega) rfl (fun x l' h j i u ap d e c hc=>by
    rw[X5J q n g a f b 1 (by omega) u ap d e,hc,i]) u [] d ⟨Nat.le_refl _,fun s b=>by cases b⟩ _ rfl
def X2d (r:CoRecord):Nat->Y2:=fun j=>(r.Entries.getD j (Zq.mk 0 0 (Y2.mk 0 0))).At
theorem X6W {r:CoRecord} (h:X6r r):UBd (X2d r):=fun i=>by
  unfold X2d
  by_cases hi:i<r.Entries.length
  · rw[XZ _ _ _ hi]
    exact h.2 _ (jl hi)
  · have:r.Entries.getD i (Zq.mk 0 0 (Y2.mk 0 0))=Zq.mk 0 0 (Y2.mk 0 0):=by simp[List.getD,List.getElem?_eq_none (by omega:r.Entries.length<=i)]
    rw[this];simp
theorem X6U (r:CoRecord) (g:r.Entries.length<=10) (x3 x4:Zc) (x6:Bool) (x7:Zc) :
    XS r.Entries (r.Entries.length:Int) x3 x4 x6 x7 (0,fun _=>Y2.mk 0 0)=some (X2d r):=by
  obtain⟨w,f,d⟩:=X1X (X9 r.Entries (r.Entries.length:Int) x3 x4 x6 x7) r.Entries.length (fun i (b:Nat->Y2)=>((i:Int),b))
    (fun i b=>∀j,b j=if j<i then X2d r j else Y2.mk 0 0) (fun w=>w=X2d r)
    (fun b c=>⟨b,by simp[X9,Xi],funext fun j=>by
      rw[c j];split
      · rfl
      · rename_i h
        unfold X2d;rw[show r.Entries.getD j (Zq.mk 0 0 (Y2.mk 0 0))=Zq.mk 0 0 (Y2.mk 0 0) by simp[List.getD,List.getElem?_eq_none (by omega:r.Entries.length<=j)]]⟩)
    (fun i b hi c=>by
      right;have e1:decide ((i:Int)<(r.Entries.length:Int))=true:=by simp;omega
      have e2:decide ((i:Int)<(10:Int))=true:=by simp;omega
      have e3:Nat.blt i 10=true:=by rw[Nat.blt_eq];omega
      have w1:=wS i (by omega)
      simp only[X9,Xi,e1,e2,e3,z0S,kS,ju,jB,w1];refine⟨_,rfl,fun j=>?_⟩;cases e:Nat.beq j i with
      | true =>
        have:=je e;subst this;rw[if_pos (by omega)];rfl
      | false =>
        have:=Nat.ne_of_beq_eq_false e;simp only[jA];rw[c j]
        by_cases h:j<i
        · rw[if_pos h,if_pos (by omega)]
        · rw[if_neg h,if_neg (by omega)]) 0 (fun _=>Y2.mk 0 0) (Nat.zero_le _) (fun j=>by simp)
  have a:XS r.Entries (r.Entries.length:Int) x3 x4 x6 x7 (0,fun _=>Y2.mk 0 0)=some w:=f;rw[a,d]
theorem X5a (q:Zc) (h:X6r q.CoRecord) (a:q.seen.length<=8) (b:∀x∈q.seen,X3Y q.CoRecord x) :
    Xo q=some (!(XF q.CoRecord.Entries.length (q.seen.map (X38 q.CoRecord)) (X2T (X2d q.CoRecord) [])).isEmpty):=by
  rw[X2F];unfold Wf;rw[X1U];unfold XD;simp only[X6U q.CoRecord h.1,jS];rw[X5I q _ rfl h.1 a b _ (X6W h)];simp only[jS];generalize XF q.CoRecord.Entries.length (q.seen.map (X38 q.CoRecord)) (X2T (X2d q.CoRecord) [])=L;cases L with
  | nil=>rfl
  | cons y ys=>rfl
end Nore
open Go Go.Ab
namespace Nore
end Nore
open Go Go.Ab
namespace Nore
end Nore
open Go Go.Ab
namespace Nore
end Nore
open Go Go.Ab
namespace Nore
structure X5K (r:CoRecord) (l:List Zr):Prop where
  ent:X6r r
  many:l.length<=8
  seen:∀x∈l,X3Y r x
theorem X7h (r:CoRecord) (l:List Zr):∀w∈l.map (X38 r),X6s r.Entries.length w:=fun w a=>by
  obtain⟨x,_,rfl⟩:=List.mem_map.1 a;intro s b;obtain⟨t,ht,rfl⟩:=List.mem_map.1 b;exact((X73 x rfl).2 t ht).2
def X6T (r:CoRecord) (l:List Zr):List Con:=XF r.Entries.length (l.map (X38 r)) (X2T (X2d r) [])
theorem X3c {r:CoRecord} {l:List Zr} (h:X5K r l):Xo ⟨r,l⟩=some (!(X6T r l).isEmpty):=X5a ⟨r,l⟩ h.ent h.many h.seen
end Nore
open Go Go.Ab
namespace Nore
theorem W5 (lo up:Int) (l:List Int) (g:l.length<1000000):XO lo up l=some (WB lo up l):=by
  rw[X3D];unfold X1e;have key:=X1y (Ws (↑l.length) l up lo) (fun o3=>Sum.elim (fun y4:Int=>some (decide (y4>=0))) (fun _=>some (decide ((-1:Int)>=0))) o3) l.length (fun i (_:Unit)=>(i:Int)) (fun _ _=>True) (fun i _=>some (WB lo up (l.drop i)))
    (by
      intro b _ R;simp[Ws,Wy,X3g])
    (by
      intro i b hi _ R e;have a:=e () trivial;simp only[Ws,Wy];rw[jb hi];simp only[kS,XZ _ _ _ hi,X2Q];have c:=wS i (by omega)
      rw[c];have f:decide ((i:Int)<↑l.length)=true:=by simp[hi]
      have d:=z0S i;simp only[f,d,ju,jB]
      by_cases h3:l[i]<lo
      · simp[h3]
      · by_cases h4:l[i]>up
        · simp[h3,h4]
        · simp[h3,h4];exact a)
  exact(key 0 () (by omega) trivial).trans (by simp)
theorem X36 (n lo hi:Int):X2X n lo hi=some (inN n lo hi):=by
  rw[X51];unfold X2J inN
  by_cases h:lo<=n<;>simp[h]
def Xn (r:CoRecord) (dev st:Int) (s:Y2):Int :=
  if WB 0 ((r.Devices.length:Int)-1) [dev]then 4 else
  if WB 0 (IntKind.wrap .i64 ((r.Devices.getD dev.toNat (Zm.mk ByteArray.empty 0 0)).States-1)) [st]then 7 else
  if WB 0 9999 [s.Lo,s.Hi]then 7 else if s.Lo>s.Hi then 2 else 0
theorem X1x {lo hi n:Int} (h:WB lo hi [n]=false):lo<=n/\n<=hi:=by
  simp only[X2Q,X3g,Bool.or_false,Bool.or_eq_false_iff,decide_eq_false_iff_not]at h;omega
theorem X6m {lo hi n m:Int} (h:WB lo hi [n,m]=false):lo<=n/\n<=hi/\lo<=m/\m<=hi:=by
  simp only[X2Q,X3g,Bool.or_false,Bool.or_eq_false_iff,decide_eq_false_iff_not]at h;omega
theorem X3b (r:CoRecord) (x:Zr) (hr:r.Devices.length<=1000000):X2O r x=some (Xn r x.Device x.State x.At):=by
  rw[X4o];unfold X23;have w1:IntKind.wrap .i64 ((r.Devices.length:Int)-1)=(r.Devices.length:Int)-1:=by rw[w64]<;>omega
  rw[w1,W5 _ _ _ (by simp)]
  simp only[jS];unfold Xn;cases h1:WB 0 ((r.Devices.length:Int)-1) [x.Device]with
  | true=>rfl
  | false =>
    have h:=X1x h1;have c1:decide (0<=x.Device)=true:=by simp[h.1]
    have c2:decide (x.Device<(r.Devices.length:Int))=true:=by simp;omega
    simp only[jA,c1,c2,ju,jB];rw[W5 _ _ _ (by simp)]
    simp only[jS];cases h2:WB 0 (IntKind.wrap .i64 ((r.Devices.getD x.Device.toNat (Zm.mk ByteArray.empty 0 0)).States-1)) [x.State]with
    | true=>rfl
    | false =>
      simp only[jA];rw[W5 _ _ _ (by simp)]
      simp only[jS];cases h3:WB 0 9999 [x.At.Lo,x.At.Hi]with
      | true=>rfl
      | false=>by_cases h4:x.At.Lo>x.At.Hi<;>simp[h4]
theorem X4b (r:CoRecord) (dev st:Int) (s:Y2) (hr:r.Devices.length<=1000000):X3l r dev st s=some (Xn r dev st s):=by
  rw[X4w];unfold X25;have w1:IntKind.wrap .i64 ((r.Devices.length:Int)-1)=(r.Devices.length:Int)-1:=by rw[w64]<;>omega
  rw[w1,X36,X4g];simp only[jS];unfold Xn;cases h1:WB 0 ((r.Devices.length:Int)-1) [dev]with
  | true=>rfl
  | false =>
    have h:=X1x h1;have c1:decide (0<=dev)=true:=by simp[h.1]
    have c2:decide (dev<(r.Devices.length:Int))=true:=by simp;omega
    simp only[Bool.not_false,Bool.not_true,jA,c1,c2,ju,jB];rw[X36,X4g];simp only[jS];cases h2:WB 0 (IntKind.wrap .i64 ((r.Devices.getD dev.toNat (Zm.mk ByteArray.empty 0 0)).States-1)) [st]with
    | true=>rfl
    | false =>
      simp only[Bool.not_false,Bool.not_true,jA];unfold X3u;rw[X5b _ _ _ (by simp)]
      simp only[jS,X4i];cases h3:WB 0 9999 [s.Lo,s.Hi]with
      | true=>rfl
      | false=>by_cases h4:s.Lo>s.Hi<;>simp[h4]
def WV {α:Type} (f:Nat->α->Int):Nat->List α->Int×Int
  | _,[]=>(0,0)
  | i,x::xs=>if f i x≠0 then((i:Int),f i x)else WV f (i+1) xs
theorem X1F {α:Type} (f:Nat->α->Int) (i:Nat) (x:α) (xs:List α):WV f i (x::xs)=if f i x≠0 then((i:Int),f i x)else WV f (i+1) xs:=rfl
def Xk:Int->Nat->List Zq->Int×Int
  | _,_,[]=>(0,0)
  | least,i,x::xs=>if(if x.At.Lo>least then x.At.Lo else least)>x.At.Hi then((i:Int),9)else Xk (if x.At.Lo>least then x.At.Lo else least) (i+1) xs
theorem X3r (least:Int) (i:Nat) (x:Zq) (xs:List Zq):Xk least i (x::xs)=if(if x.At.Lo>least then x.At.Lo else least)>x.At.Hi then((i:Int),9)else Xk (if x.At.Lo>least then x.At.Lo else least) (i+1) xs:=rfl
def X5E (names:List ByteArray) (d:Zm):Int :=
  if X46 d.Name names≠0 then X46 d.Name names else if WB 2 4 [d.States]||WB 0 (IntKind.wrap .i64 (d.States-1)) [d.First]then 7 else 0
def X2z (r:CoRecord):Int×Int:=WV (fun i d=>X5E ((r.Devices.take i).map (·.Name)) d) 0 r.Devices
def X1Z (r:CoRecord):Int×Int:=WV (fun _ x=>Xn r x.Device x.State x.At) 0 r.Entries
def WA (r:CoRecord):Int×Int×Int :=
  if WB 1 4 [(r.Devices.length:Int)]||decide ((r.Entries.length:Int)>10)then(1,0,3)else
  if(X2z r).2≠0 then(2,(X2z r).1,(X2z r).2)else
  if(X1Z r).2≠0 then(3,(X1Z r).1,(X1Z r).2)else
  if(Xk 0 0 r.Entries).2≠0 then(3,(Xk 0 0 r.Entries).1,(Xk 0 0 r.Entries).2)else(0,0,0)
def W6 (r:CoRecord) (l:List Zr):Int×Int :=
  if(WA r).2.2≠0 then(0,(WA r).2.2)else if(l.length:Int)>4 then(0,3)else WV (fun _ x=>Xn r x.Device x.State x.At) 0 l
theorem X4V (r:CoRecord) (d:r.Devices.length<=1000000) (f:r.Entries.length<=1000000):XW (r.Entries,r)=some ((X1Z r).1,(X1Z r).2,r):=by
  rw[X1B];unfold Xq Wm;refine Eq.trans (X1y _ _ r.Entries.length (fun i (_:Unit)=>(i:Int)) (fun _ _=>True) (fun i _=>some ((WV (fun _ x=>Xn r x.Device x.State x.At) i (r.Entries.drop i)).1,(WV (fun _ x=>Xn r x.Device x.State x.At) i (r.Entries.drop i)).2,r)) ?_ ?_ 0 () (Nat.zero_le _) trivial) rfl
  · intro b _ R
    have e1:decide ((r.Entries.length:Int)<(r.Entries.length:Int))=false:=by simp
    simp only[Xj,Xe,e1,jA,List.drop_length];rfl
  · intro i b hi _ R c
    have a:=c () trivial;have e1:decide ((i:Int)<(r.Entries.length:Int))=true:=by simp[hi]
    have w1:=wS i (by omega)
    rw[jb hi,X1F];simp only[Xj,Xe,e1,z0S,kS,ju,jB,XZ _ _ _ hi,X3b r _ d,jS,w1];generalize Xn r r.Entries[i].Device r.Entries[i].State r.Entries[i].At=e
    by_cases he:e=0
    · have c1:(e != 0)=false:=by simp[he]
      simp only[c1,jA,if_neg (fun h:e≠0=>h he)];exact a
    · have c1:(e != 0)=true:=X2E he
      simp only[c1,jB,if_pos he];rfl
theorem X4W (r:CoRecord) (l:List Zr) (d:r.Devices.length<=1000000) (f:l.length<=1000000):W4 (l,r)=some ((WV (fun _ (x:Zr)=>Xn r x.Device x.State x.At) 0 l).1,(WV (fun _ (x:Zr)=>Xn r x.Device x.State x.At) 0 l).2,r):=by
  rw[X1S];unfold XC Wp;refine Eq.trans (X1y _ _ l.length (fun i (_:Unit)=>(i:Int)) (fun _ _=>True) (fun i _=>some ((WV (fun _ (x:Zr)=>Xn r x.Device x.State x.At) i (l.drop i)).1,(WV (fun _ (x:Zr)=>Xn r x.Device x.State x.At) i (l.drop i)).2,r)) ?_ ?_ 0 () (Nat.zero_le _) trivial) rfl
  · intro b _ R
    have e1:decide ((l.length:Int)<(l.length:Int))=false:=by simp
    simp only[Xm,Xh,e1,jA,List.drop_length];rfl
  · intro i b hi _ R c
    have a:=c () trivial;have e1:decide ((i:Int)<(l.length:Int))=true:=by simp[hi]
    have w1:=wS i (by omega)
    rw[jb hi,X1F];simp only[Xm,Xh,e1,z0S,kS,ju,jB,XZ _ _ _ hi,X3b r _ d,jS,w1];generalize Xn r l[i].Device l[i].State l[i].At=e
    by_cases he:e=0
    · have c1:(e != 0)=false:=by simp[he]
      simp only[c1,jA,if_neg (fun h:e≠0=>h he)];exact a
    · have c1:(e != 0)=true:=X2E he
      simp only[c1,jB,if_pos he];rfl
theorem X4F (l:List Zq) (g:l.length<=1000000):∃q,XX (l,0)=some ((Xk 0 0 l).1,(Xk 0 0 l).2,q):=by
  rw[X1D];unfold Xr Wn;simp only
  let k:((Int×Int×Int×Zq×Zq)⊕Int)->Option (Int×Int×Int):=fun o41=>Sum.elim (fun y42=>some (y42.snd.fst,y42.fst,y42.snd.snd.fst)) (fun y43=>some (0,0,y43)) o41
  obtain⟨w,e,d⟩:=X1X (X3 l (l.length:Int)) l.length (fun i (b:Int)=>((i:Int),b)) (fun i b=>Xk b i (l.drop i)=Xk 0 0 l) (fun w=>∃q,k w=some ((Xk 0 0 l).1,(Xk 0 0 l).2,q))
    (fun b a=>by
      have e1:decide ((l.length:Int)<(l.length:Int))=false:=by simp
      simp only[X3,Xf,e1,jA];refine⟨_,rfl,b,?_⟩;rw[List.drop_length]at a;rw[<-a];rfl)
    (fun i b hi a=>by
      have e1:decide ((i:Int)<(l.length:Int))=true:=by simp[hi]
      have w1:=wS i (by omega)
      rw[jb hi,X3r]at a;have f:(bif decide (l[i].At.Lo>b)then l[i].At.Lo else b)=(if l[i].At.Lo>b then l[i].At.Lo else b):=by by_cases h:l[i].At.Lo>b<;>simp[h]
      simp only[X3,Xf,e1,z0S,kS,ju,jB,XZ _ _ _ hi,w1,f]
      by_cases hc:(if l[i].At.Lo>b then l[i].At.Lo else b)>l[i].At.Hi
      · left
        rw[if_pos hc]at a;simp only[hc,decide_true,jB];refine⟨_,rfl,(if l[i].At.Lo>b then l[i].At.Lo else b),?_⟩;rw[<-a];rfl
      · right
        rw[if_neg hc]at a;simp only[hc,decide_false,jA];exact⟨_,rfl,a⟩) 0 0 (Nat.zero_le _) rfl
  have c:Z8I (X3 l (l.length:Int)) (0,0)=some w:=e;rw[c];exact d
theorem X5l (l:List Zm) (j:l.length<=1000000) (d:Zm) :
    (∃(i:Nat) (y:Zm),Xd (l.length:Int) l d 0=some (.inl ((i:Int),y))/\d.Name∈l.map (·.Name))\/(Xd (l.length:Int) l d 0=some (.inr ())/\¬d.Name∈l.map (·.Name)):=by
  obtain⟨w,f,e⟩:=X1X (X4 (l.length:Int) l d) l.length (fun i (_:Unit)=>(i:Int)) (fun i _=>∀x∈l.take i,x.Name≠d.Name)
    (fun w=>(∃(i:Nat) (y:Zm),w=.inl ((i:Int),y)/\d.Name∈l.map (·.Name))\/(w=.inr ()/\¬d.Name∈l.map (·.Name)))
    (fun _ c=>by
      have e1:decide ((l.length:Int)<(l.length:Int))=false:=by simp
      simp only[X4,Xc,e1,jA];refine⟨_,rfl,.inr ⟨rfl,fun h=>?_⟩⟩;obtain⟨x,a,g⟩:=List.mem_map.1 h;rw[List.take_length]at c;exact c x a g)
    (fun i _ hi c=>by
      have e1:decide ((i:Int)<(l.length:Int))=true:=by simp[hi]
      have w1:=wS i (by omega)
      simp only[X4,Xc,e1,z0S,kS,ju,jB,XZ _ _ _ hi,w1]
      by_cases hn:l[i].Name=d.Name
      · left
        have c1:(l[i].Name.toList==d.Name.toList)=true:=by rw[hn];simp
        simp only[c1,jB];exact⟨_,rfl,.inl ⟨i,_,rfl,List.mem_map.2 ⟨l[i],jl hi,hn⟩⟩⟩
      · right
        have c1:(l[i].Name.toList==d.Name.toList)=false:=beq_eq_false_iff_ne.2 fun h=>hn (X5A h);simp only[c1,jA];refine⟨(),by first|rfl|trivial,fun x a=>?_⟩
        rw[List.take_succ_eq_append_getElem hi]at a;rcases List.mem_append.1 a with q|q
        · exact c x q
        · rw[List.mem_singleton.1 q];exact hn) 0 () (Nat.zero_le _) (fun x a=>by simp at a)
  have b:Xd (l.length:Int) l d 0=some w:=f;rcases e with⟨i,y,rfl,h⟩|⟨rfl,h⟩
  · exact .inl ⟨i,y,b,h⟩
  · exact .inr ⟨b,h⟩
theorem X4U (r:CoRecord) (k:r.Devices.length<=1000000):XP (r.Devices,r)=some ((X2z r).1,(X2z r).2,r):=by
  rw[X1s];unfold Xl We;refine Eq.trans (X1y _ _ r.Devices.length (fun i (_:Unit)=>(i:Int)) (fun _ _=>True) (fun i _=>some ((WV (fun i d=>X5E ((r.Devices.take i).map (·.Name)) d) i (r.Devices.drop i)).1,(WV (fun i d=>X5E ((r.Devices.take i).map (·.Name)) d) i (r.Devices.drop i)).2,r)) ?_ ?_ 0 () (Nat.zero_le _) trivial) rfl
  · intro b _ R
    have e1:decide ((r.Devices.length:Int)<(r.Devices.length:Int))=false:=by simp
    simp only[Xg,Xb,e1,jA,List.drop_length];rfl
  · intro i b hi _ R h
    have g:=h () trivial;have e1:decide ((i:Int)<(r.Devices.length:Int))=true:=by simp[hi]
    have e2:decide ((i:Int)<=(r.Devices.length:Int))=true:=by simp;omega
    have w1:=wS i (by omega)
    rw[jb hi,X1F];simp only[Xg,Xb,e1,e2,z0S,kS,ju,jB,XZ _ _ _ hi,X5C,jS,w1,List.drop_zero];generalize r.Devices[i]=d;have c:X5E ((r.Devices.take i).map (·.Name)) d=if X4v d.Name then(if d.Name∈(r.Devices.take i).map (·.Name)then 5 else if WB 2 4 [d.States]||WB 0 (IntKind.wrap .i64 (d.States-1)) [d.First]then 7 else 0)else 6:=by
      unfold X5E X46;generalize (r.Devices.take i).map (·.Name)=names;cases q1:X4v d.Name with
      | false=>rfl
      | true =>
        by_cases q2:d.Name∈names
        · simp only[q2,if_true];rfl
        · simp only[q2,if_true,if_false];rfl
    rw[c];cases hn:X4v d.Name with
    | false=>rfl
    | true =>
      simp only[Bool.not_true,jA,if_true];have a:(r.Devices.take i).length<=1000000:=by rw[List.length_take];omega
      rcases X5l (r.Devices.take i) a d with⟨j,y,f,e⟩|⟨f,e⟩
      · have c1:decide ((j:Int)>=0)=true:=by simp
        simp only[f,jS,jw,c1,jB,if_pos e];rfl
      · simp only[f,jS,jy,if_neg e]
        rw[W5 _ _ _ (by simp),W5 _ _ _ (by simp)]
        simp only[jS];cases q1:WB 2 4 [d.States]with
        | true=>rfl
        | false =>
          cases q2:WB 0 (IntKind.wrap .i64 (d.States-1)) [d.First]with
          | true=>rfl
          | false=>exact g
theorem X59 (r:CoRecord):X3p r=some (WA r):=by
  rw[X41];unfold X1Q;rw[W5 _ _ _ (by simp)]
  simp only[jS];unfold WA;cases q1:WB 1 4 [(r.Devices.length:Int)]with
  | true=>rfl
  | false =>
    have d:=X1x q1;have b:r.Devices.length<=1000000:=by omega
    by_cases q2:(r.Entries.length:Int)>10
    · simp only[jA,q2,decide_true,jB,Bool.false_or,if_true]
    · have a:r.Entries.length<=1000000:=by omega
      simp only[jA,q2,decide_false,Bool.false_or,X4U r b,jS];simp only[jg,if_false]
      by_cases q3:(X2z r).2=0
      · have c3:((X2z r).2 != 0)=false:=by simp[q3]
        simp only[c3,jA,X4V r b a,jS,if_neg (fun h:(X2z r).2≠0=>h q3)]
        by_cases q4:(X1Z r).2=0
        · have c4:((X1Z r).2 != 0)=false:=by simp[q4]
          obtain⟨q,c⟩:=X4F r.Entries a;simp only[c4,jA,c,jS,if_neg (fun h:(X1Z r).2≠0=>h q4)]
          by_cases q5:(Xk 0 0 r.Entries).2=0
          · have c5:((Xk 0 0 r.Entries).2 != 0)=false:=by simp[q5]
            simp only[c5,jA,if_neg (fun h:(Xk 0 0 r.Entries).2≠0=>h q5)]
          · have c5:((Xk 0 0 r.Entries).2 != 0)=true:=X2E q5
            simp only[c5,jB,if_pos q5]
        · have c4:((X1Z r).2 != 0)=true:=X2E q4
          simp only[c4,jB,if_pos q4]
      · have c3:((X2z r).2 != 0)=true:=X2E q3
        simp only[c3,jB,if_pos q3]
end Nore
open Go Go.Ab
namespace Nore
theorem X5c (r:CoRecord):X3v r=some (WA r):=by
  rw[X49];unfold X1W;rw[X36,X4g];simp only[jS];unfold WA;cases q1:WB 1 4 [(r.Devices.length:Int)]with
  | true=>rfl
  | false =>
    have n:=X1x q1;have q:r.Devices.length<=4:=by omega
    by_cases q2:(r.Entries.length:Int)>10
    · simp only[Bool.not_false,Bool.not_true,jA,q2,decide_true,jB,Bool.false_or,if_true]
    · have p:r.Entries.length<=10:=by omega
      simp only[Bool.not_false,Bool.not_true,jA,q2,decide_false,Bool.false_or,jg,if_false];unfold X2n;refine Eq.trans (X1y _ _ r.Devices.length (fun i (b:List ByteArray)=>((i:Int),b)) (fun i b=>b=(r.Devices.take i).map (·.Name))
        (fun i _=>if(WV (fun i d=>X5E ((r.Devices.take i).map (·.Name)) d) i (r.Devices.drop i)).2≠0 then some (2,(WV (fun i d=>X5E ((r.Devices.take i).map (·.Name)) d) i (r.Devices.drop i)).1,(WV (fun i d=>X5E ((r.Devices.take i).map (·.Name)) d) i (r.Devices.drop i)).2)else
          some (if(X1Z r).2≠0 then(3,(X1Z r).1,(X1Z r).2)else if(Xk 0 0 r.Entries).2≠0 then(3,(Xk 0 0 r.Entries).1,(Xk 0 0 r.Entries).2)else(0,0,0))) ?_ ?_ 0 [] (Nat.zero_le _) rfl) ?_
      · intro b _ R
        have e1:decide ((r.Devices.length:Int)<(r.Devices.length:Int))=false:=by simp
        simp only[X1g,WO,e1,jA,List.drop_length];show Option.bind (X1O r 0) _=some (if(X1Z r).2≠0 then(3,(X1Z r).1,(X1Z r).2)else if(Xk 0 0 r.Entries).2≠0 then(3,(Xk 0 0 r.Entries).1,(Xk 0 0 r.Entries).2)else(0,0,0));unfold X1O;refine Eq.trans (X1y _ _ r.Entries.length (fun i (_:Unit)=>(i:Int)) (fun _ _=>True)
          (fun i _=>some (if(WV (fun _ (x:Zq)=>Xn r x.Device x.State x.At) i (r.Entries.drop i)).2≠0 then(3,(WV (fun _ (x:Zq)=>Xn r x.Device x.State x.At) i (r.Entries.drop i)).1,(WV (fun _ (x:Zq)=>Xn r x.Device x.State x.At) i (r.Entries.drop i)).2)else if(Xk 0 0 r.Entries).2≠0 then(3,(Xk 0 0 r.Entries).1,(Xk 0 0 r.Entries).2)else(0,0,0))) ?_ ?_ 0 () (Nat.zero_le _) trivial) rfl
        · intro b _ R
          have e1:decide ((r.Entries.length:Int)<(r.Entries.length:Int))=false:=by simp
          simp only[X1h,WP,e1,jA,List.drop_length];show Option.bind (X1P r (0,0)) _=some (if(Xk 0 0 r.Entries).2≠0 then(3,(Xk 0 0 r.Entries).1,(Xk 0 0 r.Entries).2)else(0,0,0));unfold X1P;refine Eq.trans (X1y _ _ r.Entries.length (fun i (b:Int)=>((i:Int),b)) (fun _ _=>True)
            (fun i b=>some (if(Xk b i (r.Entries.drop i)).2≠0 then(3,(Xk b i (r.Entries.drop i)).1,(Xk b i (r.Entries.drop i)).2)else(0,0,0))) ?_ ?_ 0 0 (Nat.zero_le _) trivial) rfl
          · intro b _ R
            simp only[X1i,WQ,e1,jA,List.drop_length];rfl
          · intro i b hi _ R c
            have e1:decide ((i:Int)<(r.Entries.length:Int))=true:=by simp[hi]
            have w1:=wS i (by omega)
            have o:(bif decide (r.Entries[i].At.Lo>b)then r.Entries[i].At.Lo else b)=(if r.Entries[i].At.Lo>b then r.Entries[i].At.Lo else b):=by by_cases h:r.Entries[i].At.Lo>b<;>simp[h]
            rw[jb hi,X3r];simp only[X1i,WQ,e1,z0S,kS,ju,jB,XZ _ _ _ hi,w1,o]
            by_cases hc:(if r.Entries[i].At.Lo>b then r.Entries[i].At.Lo else b)>r.Entries[i].At.Hi
            · rw[if_pos hc]
              simp only[hc,decide_true,jB];rfl
            · rw[if_neg hc]
              simp only[hc,decide_false,jA];exact c _ trivial
        · intro i b hi _ R c
          have m:=c () trivial;have e1:decide ((i:Int)<(r.Entries.length:Int))=true:=by simp[hi]
          have w1:=wS i (by omega)
          rw[jb hi,X1F];simp only[X1h,WP,e1,z0S,kS,ju,jB,XZ _ _ _ hi,X4b r _ _ _ (by omega:r.Devices.length<=1000000),jS,w1]
          generalize Xn r r.Entries[i].Device r.Entries[i].State r.Entries[i].At=e
          by_cases he:e=0
          · have c1:(e != 0)=false:=by simp[he]
            simp only[c1,jA,if_neg (fun h:e≠0=>h he)];exact m
          · have c1:(e != 0)=true:=X2E he
            simp only[c1,jB,if_pos he];rfl
      · intro i b hi j R c
        have e1:decide ((i:Int)<(r.Devices.length:Int))=true:=by simp[hi]
        have w1:=wS i (by omega)
        have f:b.length=i:=by rw[j,List.length_map,List.length_take];omega
        have b1:Nat.ble ((i+1)*(16+1)) 200000000000000=true:=by rw[Nat.ble_eq];omega
        have g:=X5q r.Devices[i].Name b (by omega)
        have a:=c ((r.Devices.take (i+1)).map (·.Name)) rfl;rw[jb hi,X1F];simp only[X1g,WO,e1,z0S,kS,ju,jB,XZ _ _ _ hi,g,jS,w1,f,List.length_singleton,b1];have k:b++[r.Devices[i].Name]=(r.Devices.take (i+1)).map (·.Name):=by rw[j,List.take_succ_eq_append_getElem hi,List.map_append];rfl
        rw[<-j];have l:X5E b r.Devices[i]=if X46 r.Devices[i].Name b≠0 then X46 r.Devices[i].Name b else if WB 2 4 [r.Devices[i].States]||WB 0 (IntKind.wrap .i64 (r.Devices[i].States-1)) [r.Devices[i].First]then 7 else 0:=rfl;rw[l];generalize X46 r.Devices[i].Name b=e
        by_cases he:e=0
        · have c1:(e==0)=true:=by simp[he]
          have c2:(e != 0)=false:=by simp[he]
          simp only[c1,c2,jB,jA,if_neg (fun h:e≠0=>h he),X36,X4g,jS,Bool.not_not];cases q5:WB 2 4 [r.Devices[i].States]with
          | true=>rfl
          | false =>
            simp only[jA,Bool.false_or];cases q6:WB 0 (IntKind.wrap .i64 (r.Devices[i].States-1)) [r.Devices[i].First]with
            | true=>rfl
            | false =>
              simp only[jA];rw[k];exact a
        · have c1:(e==0)=false:=X2s he
          have c2:(e != 0)=true:=X2E he;simp only[c1,c2,jB,jA,if_pos he];rfl
      · simp only[List.drop_zero]
        show(if(X2z r).2≠0 then some (2,(X2z r).1,(X2z r).2)else some (if(X1Z r).2≠0 then(3,(X1Z r).1,(X1Z r).2)else if(Xk 0 0 r.Entries).2≠0 then(3,(Xk 0 0 r.Entries).1,(Xk 0 0 r.Entries).2)else(0,0,0)))=some (if(X2z r).2≠0 then(2,(X2z r).1,(X2z r).2)else if(X1Z r).2≠0 then(3,(X1Z r).1,(X1Z r).2)else if(Xk 0 0 r.Entries).2≠0 then(3,(Xk 0 0 r.Entries).1,(Xk 0 0 r.Entries).2)else(0,0,0))
        by_cases q3:(X2z r).2=0
        · simp only[ne_eq,q3,not_true_eq_false,if_false]
        · simp only[ne_eq,q3,not_false_eq_true,if_true]
structure X3B (r:CoRecord):Prop where
  devs:1<=r.Devices.length/\r.Devices.length<=4
  many:r.Entries.length<=10
  dev:∀d∈r.Devices,(2<=d.States/\d.States<=4)/\0<=d.First/\d.First<d.States
  ent:∀x∈r.Entries,Xn r x.Device x.State x.At=0
  order:Xk 0 0 r.Entries=(0,0)
theorem X4f {α:Type} (f:Nat->α->Int):∀(l:List α) (i:Nat),(WV f i l).2=0->∀(j:Nat) (h:j<l.length),f (i+j) l[j]=0
  | x::xs,i,h,j,hj=>by
    rw[X1F]at h
    by_cases he:f i x=0
    · rw[if_neg (fun q=>q he)]at h
      cases j with
      | zero=>exact he
      | succ j =>
        have:=X4f f xs (i+1) h j (by simpa using hj)
        rw[show i+(j+1)=i+1+j by omega]
        exact this
    · rw[if_pos he]at h
      exact absurd h he
theorem X5N:∀(l:List Zq) (a:Int) (i:Nat),(Xk a i l).2=0->Xk a i l=(0,0)
  | [],_,_,_=>rfl
  | x::xs,a,i,h=>by
    rw[X3r]at h⊢
    by_cases hc:(if x.At.Lo>a then x.At.Lo else a)>x.At.Hi
    · rw[if_pos hc]at h
      exact absurd h (by simp)
    · rw[if_neg hc]at h⊢
      exact X5N xs _ _ h
theorem X3C {r:CoRecord} (h:(WA r).2.2=0):X3B r:=by
  unfold WA at h;cases q1:WB 1 4 [(r.Devices.length:Int)]with
  | true=>rw[q1]at h;exact absurd h (by simp)
  | false =>
    have b:=X1x q1
    by_cases q2:(r.Entries.length:Int)>10
    · simp only[q1,q2,decide_true,Bool.or_true,if_true]at h;exact absurd h (by simp)
    · simp only[q1,q2,decide_false,Bool.or_self,jg,if_false]at h
      by_cases q3:(X2z r).2=0
      · rw[if_neg (fun k=>k q3)]at h
        by_cases q4:(X1Z r).2=0
        · rw[if_neg (fun k=>k q4)]at h
          by_cases q5:(Xk 0 0 r.Entries).2=0
          · refine⟨by omega,by omega,fun d b=>?_,fun x c=>?_,X5N _ _ _ q5⟩
            · obtain⟨j,a,rfl⟩:=List.getElem_of_mem b
              have:=X4f _ _ 0 q3 j a;simp only[X5E]at this;split at this
              · rename_i k;exact absurd this k
              · split at this
                · exact absurd this (by simp)
                · rename_i k
                  simp only[Bool.or_eq_true,not_or,Bool.not_eq_true]at k;have k1:=X1x k.1;have k2:=X1x k.2;rw[w64 (by omega) (by omega)]at k2
                  omega
            · obtain⟨j,a,rfl⟩:=List.getElem_of_mem c
              exact X4f _ _ 0 q4 j a
          · rw[if_pos q5]at h;exact absurd h q5
        · rw[if_pos q4]at h;exact absurd h q4
      · rw[if_pos q3]at h;exact absurd h q3
theorem X3w {r:CoRecord} {x:Zr} (h:Xn r x.Device x.State x.At=0):X3Y r x/\0<=x.At.Lo/\x.At.Lo<=x.At.Hi/\x.At.Hi<=9999:=by
  unfold Xn at h;cases q1:WB 0 ((r.Devices.length:Int)-1) [x.Device]with
  | true=>rw[q1]at h;exact absurd h (by simp)
  | false =>
    rw[q1]at h;have k1:=X1x q1;cases q2:WB 0 (IntKind.wrap .i64 ((r.Devices.getD x.Device.toNat (Zm.mk ByteArray.empty 0 0)).States-1)) [x.State]with
    | true=>rw[q2]at h;exact absurd h (by simp)
    | false =>
      rw[q2]at h;cases q3:WB 0 9999 [x.At.Lo,x.At.Hi]with
      | true=>rw[q3]at h;exact absurd h (by simp)
      | false =>
        rw[q3]at h;have k3:=X6m q3
        by_cases q4:x.At.Lo>x.At.Hi
        · simp only[jg,if_false,q4,if_true]at h;exact absurd h (by simp)
        · exact⟨⟨by omega,by omega,by omega⟩,by omega,by omega,by omega⟩
theorem X7g {r:CoRecord} (h:X3B r):X6r r:=⟨h.many,fun x a=>by
  have:=(X3w (x:=⟨x.Device,x.State,x.At⟩) (h.ent x a)).2;simp only at this;omega⟩
theorem X4h {r:CoRecord} {l:List Zr} (h:(W6 r l).2=0):X3B r/\l.length<=4/\∀x∈l,Xn r x.Device x.State x.At=0:=by
  unfold W6 at h
  by_cases q1:(WA r).2.2=0
  · rw[if_neg (fun k=>k q1)]at h
    by_cases q2:(l.length:Int)>4
    · rw[if_pos q2]at h;exact absurd h (by simp)
    · rw[if_neg q2]at h
      refine⟨X3C q1,by omega,fun x b=>?_⟩
      obtain⟨j,a,rfl⟩:=List.getElem_of_mem b;exact X4f _ _ 0 h j a
  · rw[if_pos q1]at h;exact absurd h q1
theorem X5W {r:CoRecord} {l:List Zr} (h:(W6 r l).2=0):X5K r l:=by
  obtain⟨a,d,b⟩:=X4h h;exact⟨X7g a,by omega,fun x c=>(X3w (b x c)).1⟩
theorem X4k (r:CoRecord) (l:List Zr):X2j r l=some (W6 r l):=by
  rw[X3j];unfold WN;rw[X5c r];simp only[jS];unfold W6
  by_cases q1:(WA r).2.2=0
  · have c1:((WA r).2.2==0)=true:=by simp[q1]
    have c2:((WA r).2.2 != 0)=false:=by simp[q1]
    have hr:=X3C q1;simp only[c1,c2,jB,jA,if_neg (fun h:(WA r).2.2≠0=>h q1)]
    by_cases q2:(l.length:Int)>4
    · simp only[q2,decide_true,jB,if_true]
    · have f:l.length<=4:=by omega
      simp only[q2,decide_false,jA,if_false];unfold WW;refine Eq.trans (X1y _ _ l.length (fun i (_:Unit)=>(i:Int)) (fun _ _=>True) (fun i _=>some (WV (fun _ (x:Zr)=>Xn r x.Device x.State x.At) i (l.drop i))) ?_ ?_ 0 () (Nat.zero_le _) trivial) rfl
      · intro b _ R
        have e1:decide ((l.length:Int)<(l.length:Int))=false:=by simp
        simp only[Wz,Wh,e1,jA,List.drop_length];rfl
      · intro i b hi _ R d
        have a:=d () trivial;have e1:decide ((i:Int)<(l.length:Int))=true:=by simp[hi]
        have w1:=wS i (by omega)
        have c:=hr.devs;rw[jb hi,X1F];simp only[Wz,Wh,e1,z0S,kS,ju,jB,XZ _ _ _ hi,X4b r _ _ _ (by omega:r.Devices.length<=1000000),jS,w1]
        generalize Xn r l[i].Device l[i].State l[i].At=e
        by_cases he:e=0
        · have c1:(e != 0)=false:=by simp[he]
          simp only[c1,jA,if_neg (fun h:e≠0=>h he)];exact a
        · have c1:(e != 0)=true:=X2E he
          simp only[c1,jB,if_pos he];rfl
  · have c1:((WA r).2.2==0)=false:=X2s q1
    have c2:((WA r).2.2 != 0)=true:=X2E q1;simp only[c1,c2,jB,jA,if_pos q1]
theorem X4j (r:CoRecord) (l:List Zr):X2i r l=some (W6 r l):=by
  rw[X39];unfold WL;rw[X59 r];simp only[jS];unfold W6
  by_cases q1:(WA r).2.2=0
  · have c1:((WA r).2.2 != 0)=false:=by simp[q1]
    have hr:=(X3C q1).devs;simp only[c1,jA,if_neg (fun h:(WA r).2.2≠0=>h q1)]
    by_cases q2:(l.length:Int)>4
    · simp only[q2,decide_true,jB,if_true]
    · simp only[q2,decide_false,jA,if_false,X4W r l (by omega) (by omega),jS]
  · have c1:((WA r).2.2 != 0)=true:=X2E q1
    simp only[c1,jB,if_pos q1]
theorem X3U (r:CoRecord) (l:List Zr):X2U r l=some (⟨r,l⟩,(W6 r l).2):=by
  rw[X43];unfold X1R;rw[X4j r l];rfl
end Nore
open Go Go.Ab
namespace Nore
end Nore
open Go Go.Ab
namespace Nore
end Nore
namespace Nore
def X11 (r:CoRecord) (l:List Zr):Bool := !(X6T r l).isEmpty
end Nore
open Go Go.Ab
namespace Nore
def X5s {α:Type} (m:Nat):Nat->List α->List α
  | _,[]=>[]
  | i,x::xs=>if m.testBit i then X5s m (i+1) xs else x::X5s m (i+1) xs
def X6A {α:Type} (m:Nat):Nat->List α->List Int
  | _,[]=>[]
  | i,x::xs=>if m.testBit i then(i:Int)::X6A m (i+1) xs else X6A m (i+1) xs
def X7j:List Int->List Int->Int
  | [],[]=>0
  | [],_::_ => -1
  | _::_,[]=>1
  | a::s,b::t=>if a<b then -1 else if a>b then 1 else X7j s t
def Z3z (a b:List Int):Prop:=a.length<b.length\/(a.length=b.length/\X7j a b<=0)
structure X7i (r:CoRecord) (l:List Zr) (k:Nat) (fd:Bool) (best:List Int):Prop where
  yes:fd=true->∃m,m<k/\best=X6A m 0 l/\X11 r (X5s m 0 l)=true
  least:fd=true->∀m,m<k->X11 r (X5s m 0 l)=true->Z3z best (X6A m 0 l)
  no:fd=false->best=[]/\∀m,m<k->X11 r (X5s m 0 l)=false
end Nore
open Go Go.Ab
namespace Nore
theorem X45 {α:Type} (f:Nat->α->Int):∀(l:List α) (i:Nat),(∀x∈l,∀j,f j x=0)->WV f i l=(0,0)
  | [],_,_=>rfl
  | x::l,i,h=>by
    rw[X1F,if_neg (fun q=>q (h x (by simp) i))]
    exact X45 f l (i+1) fun y hy=>h y (by simp[hy])
theorem X4B {r:CoRecord} {l:List Zr} (h:(W6 r l).2=0):(WA r).2.2=0:=by
  unfold W6 at h
  by_cases q1:(WA r).2.2=0
  · exact q1
  · rw[if_pos q1]at h;exact absurd h q1
theorem X7a {r:CoRecord} {l:List Zr} (a:(WA r).2.2=0) (d:l.length<=4) (b:∀x∈l,Xn r x.Device x.State x.At=0):W6 r l=(0,0):=by
  unfold W6;rw[if_neg (fun q=>q a),if_neg (by omega)]
  exact X45 _ l 0 fun x c _=>b x c
theorem X5n (r:CoRecord) (l:List Zr):X2l r l=some ((W6 r l).2==0):=by
  rw[X4q];unfold X24;rw[X4k];rfl
end Nore
open Go Go.Ab
namespace Nore
def X31 (dev t:Int) (ms:Nat->Int):List Zq->Nat->Int->Int
  | [],_,now=>now
  | x::xs,i,now=>X31 dev t ms xs (i+1) (if x.Device=dev/\ms i<=t then x.State else now)
theorem X2C (dev t:Int) (ms:Nat->Int) (x:Zq) (xs:List Zq) (i:Nat) (now:Int):X31 dev t ms (x::xs) i now=X31 dev t ms xs (i+1) (if x.Device=dev/\ms i<=t then x.State else now):=rfl
theorem X4c (dev t:Int) (ms:Nat->Int):∀(e:List Zq) (i:Nat) (now:Int),(∀j,i<=j->j<i+e.length->t<ms j)->X31 dev t ms e i now=now
  | [],_,_,_=>rfl
  | x::e,i,now,h=>by
    have c:=h i (Nat.le_refl _) (by simp only[List.length_cons];omega)
    rw[X2C,if_neg (fun q=>by omega)]
    exact X4c dev t ms e (i+1) now fun j b a=>h j (by omega) (by simp only[List.length_cons];omega)
theorem X5e {n:Nat} {ms:Nat->Int} (h:X68 n ms):∀(d i:Nat),i+d<n->ms i<=ms (i+d)
  | 0,_,_=>Int.le_refl _
  | d+1,i,hi=>Int.le_trans (X5e h d i (by omega)) (h (i+d) (by omega))
theorem X5z {n:Nat} {ms:Nat->Int} (d:X68 n ms) (dev t st lo hi:Int) (c:lo<=t) (b:t<=hi):∀(e:List Zq) (i:Nat) (now fr:Int),i+e.length=n -> -1<=fr->fr<i->(0<=fr->ms fr.toNat<=t)->X31 dev t ms e i now=st →
    ∃s∈X4C dev st e i now fr,X5L n ms (X30 s) lo hi
  | [],i,now,fr,hn,h1,h2,h3,a=>by
    simp only[List.length_nil,Nat.add_zero]at hn;have a:now=st:=a;rw[X4d,if_pos a];refine⟨_,List.mem_singleton.2 rfl,fun h=>?_,fun h=>?_,fun _ h=>?_⟩
    · exact Int.le_trans (h3 h) b
    · simp only[X30,kS]at h;omega
    · simp only[X30,kS]at h;omega
  | x::e,i,now,fr,hn,h1,h2,h3,a=>by
    simp only[List.length_cons]at hn;rw[X2C]at a;rw[X2S]
    by_cases hd:x.Device=dev
    · rw[if_pos hd]
      by_cases hit:ms i<=t
      · rw[if_pos ⟨hd,hit⟩]at a
        obtain⟨s,g1,g2⟩:=X5z d dev t st lo hi c b e (i+1) x.State i (by omega) (by omega) (by omega) (fun _=>by rw[kS];exact hit) a
        exact⟨s,List.mem_append.2 (.inr g1),g2⟩
      · rw[if_neg (fun q=>hit q.2)]at a
        have f:X31 dev t ms e (i+1) now=now:=X4c dev t ms e (i+1) now fun j j1 j2=>by
          have:=X5e d (j-i) i (by omega)
          rw[show i+(j-i)=j by omega]at this
          omega
        rw[f]at a;refine⟨⟨fr,i⟩,List.mem_append.2 (.inl ?_),fun h=>?_,fun h=>?_,fun h h'=>?_⟩
        · rw[if_pos a];exact List.mem_singleton.2 rfl
        · exact Int.le_trans (h3 h) b
        · simp only[X30,kS]at h⊢;omega
        · have:=h3 h
          simp only[X30,kS]at h'⊢;omega
    · rw[if_neg hd]
      rw[if_neg (fun q=>hd q.1)]at a;exact X5z d dev t st lo hi c b e (i+1) now fr (by omega) h1 (by omega) h3 a
def X5V (r:CoRecord) (dev:Int):Int:=(r.Devices.getD dev.toNat ⟨ByteArray.empty,0,0⟩).First
def X6S (r:CoRecord) (ms:Nat->Int):Prop:=Sol r.Entries.length (X2T (X2d r) []) ms
end Nore
open Go Go.Ab
namespace Nore
def X7d (r:CoRecord) (ms:Nat->Int) (x:Zr):Prop:=∃s∈X4O r x,X5L r.Entries.length ms (X30 s) x.At.Lo x.At.Hi
def TrN (r:CoRecord) (l:List Zr) (ms:Nat->Int):Prop:=X6S r ms/\∀x∈l,X7d r ms x
theorem X74 {r:CoRecord} {l:List Zr} {ms:Nat->Int}:X6R r.Entries.length (X2T (X2d r) []) (l.map (X38 r)) ms↔TrN r l ms:=by
  constructor
  · rintro⟨c,b⟩
    refine⟨c,fun x e=>?_⟩;obtain⟨s,d,a⟩:=b (X38 r x) (List.mem_map.2 ⟨x,e,rfl⟩);obtain⟨t,ht,rfl⟩:=List.mem_map.1 d;exact⟨t,ht,a⟩
  · rintro⟨c,b⟩
    refine⟨c,fun w f=>?_⟩;obtain⟨x,e,rfl⟩:=List.mem_map.1 f;obtain⟨s,d,a⟩:=b x e;exact⟨X30 s,List.mem_map.2 ⟨s,d,rfl⟩,a⟩
theorem X6V (r:CoRecord):X55 r.Entries.length (X2T (X2d r) []).ap:=fun p a=>by cases a
theorem X5h {r:CoRecord} {l:List Zr}:X11 r l=true↔∃ms,TrN r l ms:=by
  have h:=X6a (X7h r l) (X6V r);unfold X11 X6T;constructor
  · intro b
    have:XF r.Entries.length (l.map (X38 r)) (X2T (X2d r) [])≠[]:=fun e=>by rw[e]at b;cases b
    obtain⟨ms,a⟩:=h.1 this;exact⟨ms,X74.1 a⟩
  · rintro⟨ms,a⟩
    have:=h.2 ⟨ms,X74.2 a⟩;cases b:XF r.Entries.length (l.map (X38 r)) (X2T (X2d r) [])with
    | nil=>exact absurd b this
    | cons=>rfl
structure X7n (r:CoRecord) (l:List Zr) (j:Nat) (s:Y2):Prop where
  lo:∃ms,TrN r l ms/\ms j=s.Lo
  hi:∃ms,TrN r l ms/\ms j=s.Hi
  all:∀ms,TrN r l ms->s.Lo<=ms j/\ms j<=s.Hi
theorem X5y {n:Nat} {ms:Nat->Int} (f:X68 n ms) (dev t st lo hi:Int) (d:lo=t) (b:hi=t):∀(e:List Zq) (i:Nat) (now fr:Int),i+e.length=n -> -1<=fr->fr<i →
    (∃s∈X4C dev st e i now fr,X5L n ms (X30 s) lo hi)->X31 dev t ms e i now=st
  | [],i,now,fr,hn,h1,h2,⟨s,a,hq⟩=>by
    rw[X4d]at a;split at a
    · rename_i h;exact h
    · cases a
  | x::e,i,now,fr,hn,h1,h2,⟨s,a,hq⟩=>by
    simp only[List.length_cons]at hn;rw[X2C];rw[X2S]at a
    by_cases hd:x.Device=dev
    · rw[if_pos hd]at a
      rcases List.mem_append.1 a with q|q
      · split at q
        · rename_i c
          rw[List.mem_singleton.1 q]at hq;have o:=hq.2.1 (by simp only[X30,kS];omega)
          simp only[X30,kS]at o;rw[if_neg (fun k=>by have:=k.2;omega)]
          rw[X4c dev t ms e (i+1) now fun j j1 j2=>by
            have:=X5e f (j-i) i (by omega)
            rw[show i+(j-i)=j by omega]at this
            omega]
          exact c
        · cases q
      · have g:∀(e:List Zq) (k:Nat) (now:Int) (fr:Int),0<=fr->fr<k->∀s∈X4C dev st e k now fr,fr<=s.from_:=by
          intro e
          induction e with
          | nil =>
            intro k now fr m _ s a;rw[X4d]at a;split at a
            · rw[List.mem_singleton.1 a];exact Int.le_refl _
            · cases a
          | cons y e ih =>
            intro k now fr m u s a;rw[X2S]at a;split at a
            · rcases List.mem_append.1 a with w|w
              · split at w
                · rw[List.mem_singleton.1 w];exact Int.le_refl _
                · cases w
              · have:=ih (k+1) y.State k (by omega) (by omega) s w
                omega
            · exact ih (k+1) now fr m (by omega) s a
        have r:=g e (i+1) x.State i (by omega) (by omega) s q
        have p:=(X5g dev st n e (i+1) x.State i (by omega) (by omega) (by omega)).2 s q
        have o:ms s.from_.toNat<=hi:=hq.1 (by show 0<=s.from_;omega)
        have l:=X5e f (s.from_.toNat-i) i (by omega)
        rw[show i+(s.from_.toNat-i)=s.from_.toNat by omega]at l
        rw[if_pos ⟨hd,by omega⟩]
        exact X5y f dev t st lo hi d b e (i+1) x.State i (by omega) (by omega) (by omega) ⟨s,q,hq⟩
    · rw[if_neg hd]at a
      rw[if_neg (fun k=>hd k.1)];exact X5y f dev t st lo hi d b e (i+1) now fr (by omega) h1 (by omega) ⟨s,a,hq⟩
def X3N (r:CoRecord) (ms:Nat->Int) (dev t:Int):Int:=X31 dev t ms r.Entries 0 (X5V r dev)
theorem X6x {r:CoRecord} {ms:Nat->Int} (h:X6S r ms) (dev st t:Int):X7d r ms ⟨dev,st,⟨t,t⟩⟩↔X3N r ms dev t=st:=by
  constructor
  · intro a
    exact X5y h.1.2.1 dev t st t t rfl rfl r.Entries 0 (X5V r dev) (-1) (by omega) (by omega) (by omega) a
  · intro a
    exact X5z h.1.2.1 dev t st t t (Int.le_refl _) (Int.le_refl _) r.Entries 0 (X5V r dev) (-1) (by omega) (by omega) (by omega) (fun h=>by omega) a
end Nore
open Go Go.Ab
namespace Nore
theorem X7f {r:CoRecord} (h:X3B r) (i:Nat) (hi:i<r.Entries.length):0<=r.Entries[i].At.Lo/\r.Entries[i].At.Lo<=r.Entries[i].At.Hi/\r.Entries[i].At.Hi<=9999:=by
  have:=(X3w (x:=⟨r.Entries[i].Device,r.Entries[i].State,r.Entries[i].At⟩) (h.ent _ (jl hi))).2;simpa using this
end Nore
open Go Go.Ab
namespace Nore
end Nore
open Go Go.Ab
namespace Nore
def X4y (l:List Zr) (dev s t:Int):List Zr:=l++[⟨dev,s,⟨t,t⟩⟩]
def Wd (r:CoRecord) (l:List Zr) (dev t:Int) (k:Nat):List Int:=((List.range k).filter fun s:Nat=>X11 r (X4y l dev (s:Int) t)).map fun s:Nat=>(s:Int)
theorem X3z (r:CoRecord) (l:List Zr) (dev t:Int) (k:Nat):Wd r l dev t (k+1)=Wd r l dev t k++if X11 r (X4y l dev (k:Int) t)then [(k:Int)]else []:=by
  unfold Wd;rw[List.range_succ,List.filter_append,List.map_append];congr 1;cases h:X11 r (X4y l dev (k:Int) t)<;>simp[h]
theorem X54 (r:CoRecord) (l:List Zr) (dev t:Int) (k:Nat):∀v∈Wd r l dev t k,0<=v/\v<(k:Int):=fun v hv=>by
  obtain⟨s,a,rfl⟩:=List.mem_map.1 hv;have:=List.mem_range.1 (List.mem_filter.1 a).1;omega
theorem X37 (r:CoRecord) (l:List Zr) (dev t:Int) (k:Nat):(Wd r l dev t k).length<=k:=by
  unfold Wd;rw[List.length_map];exact Nat.le_trans (List.length_filter_le _ _) (by simp)
theorem X3O (r:CoRecord) (l:List Zr) (dev t:Int):∀k,(Wd r l dev t k).Pairwise (· < ·)
  | 0=>List.Pairwise.nil
  | k+1=>by
    rw[X3z];refine List.pairwise_append.2 ⟨X3O r l dev t k,?_,fun a d b c=>?_⟩
    · split
      · exact List.pairwise_singleton _ _
      · exact List.Pairwise.nil
    · have:=X54 r l dev t k a d
      split at c
      · rw[List.mem_singleton.1 c];exact this.2
      · cases c
theorem X6k (n:Int):∀(l:List Int),(∀v∈l,n<v)->ZeB n l=n::l
  | [],_=>rfl
  | v::l,h=>by
    have:=h v (by simp)
    unfold ZeB;simp[Int.le_of_lt this]
theorem X5R:∀(l:List Int),l.Pairwise (· < ·)->Z3s l=l
  | [],_=>rfl
  | n::l,h=>by
    obtain⟨a,b⟩:=List.pairwise_cons.1 h;show ZeB n (Z3s l)=n::l;rw[X5R l b];exact X6k n l a
theorem X5o (k:Int):∀(m:List (Int×Int)),(∀v∈m.map Prod.fst,v≠k)->Z9O (fun a b=>a==b) k m=none
  | [],_=>rfl
  | (a,b)::m,h=>by
    have c:(k==a)=false:=X2s fun e=>h a (by simp) e.symm
    unfold Z9O;simp only[c,jA];exact X5o k m fun v hv=>h v (by simp only[jr,jv];exact .inr hv)
theorem X6b (k v:Int):∀(m:List (Int×Int)),(∀w∈m.map Prod.fst,w≠k)->Zj0 (fun a b=>a==b) k v m=m++[(k,v)]
  | [],_=>rfl
  | (a,b)::m,h=>by
    have d:(k==a)=false:=X2s fun e=>h a (by simp) e.symm
    unfold Zj0;simp only[d,jA];rw[X6b k v m fun w c=>h w (by simp only[jr,jv];exact .inr c)]
    rfl
theorem X7c {r:CoRecord} {l:List Zr} (h:X5K r l) (c:l.length<=4) {dev t s:Int} (a:0<=dev/\dev<r.Devices.length) (ht:0<=t/\t<=9999):X5K r (X4y l dev s t) :=
  ⟨h.ent,by unfold X4y;rw[List.length_append,List.length_singleton];omega,fun x b=>by
    rcases List.mem_append.1 b with q|q
    · exact h.seen x q
    · rw[List.mem_singleton.1 q]
      exact⟨a,by simp only;omega,by simp only;omega⟩⟩
theorem X3F {r:CoRecord} {l:List Zr} (h:X5K r l) (q:l.length<=4) {dev t:Int} (g:0<=dev/\dev<r.Devices.length) (ht:0<=t/\t<=9999) {S:Nat} (u:(r.Devices.getD dev.toNat (Zm.mk ByteArray.empty 0 0)).States=(S:Int)) (m:S<=1000) :
    WD ⟨r,l⟩ dev t=some (Wd r l dev t S):=by
  rw[X2x];unfold W9;have c1:decide (0<=dev)=true:=by simp[g.1]
  have c2:decide (dev<(r.Devices.length:Int))=true:=by simp[g.2]
  simp only[c1,c2,ju,jB,u];obtain⟨w,o,f⟩:=X1X (Xx dev (S:Int) t ⟨r,l⟩) S (fun i (b:List (Int×Int))=>((i:Int),b)) (fun i b=>b.map Prod.fst=Wd r l dev t i) (fun w=>w.map Prod.fst=Wd r l dev t S)
    (fun b d=>⟨b,by simp[Xx,XK],d⟩)
    (fun i b hi d=>by
      right;have e1:decide ((i:Int)<(S:Int))=true:=by simp;omega
      have w1:=wS i (by omega)
      have b1:Nat.ble (l.length*(32+1)) 100000000000000=true:=by rw[Nat.ble_eq];omega
      have b2:Nat.ble ((l.length+1)*(32+1)) 200000000000000=true:=by rw[Nat.ble_eq];omega
      have b3:Nat.blt 0 4=true:=rfl;have e:X1N ⟨r,l⟩ [⟨dev,(i:Int),⟨t,t⟩⟩]=some ⟨r,X4y l dev (i:Int) t⟩:=by
        rw[X2L];unfold Wq;simp only[b1,b3,ju,jB,List.length_singleton,b2];rfl
      have s:Xo ⟨r,X4y l dev (i:Int) t⟩=some (X11 r (X4y l dev (i:Int) t)):=X3c (X7c h q g ht);have a:∀v∈b.map Prod.fst,v≠(i:Int):=fun v hv=>by
        rw[d]at hv;have:=X54 r l dev t i v hv;omega
      simp only[Xx,XK,e1,jB,e,s,jS,w1,X5o _ b a,X6b _ _ b a];cases hag:X11 r (X4y l dev (i:Int) t)with
      | true=>exact⟨_,rfl,by rw[List.map_append,d,X3z,hag];rfl⟩
      | false=>exact⟨b,rfl,by rw[d,X3z,hag];simp⟩) 0 [] (Nat.zero_le _) rfl
  have k:WU dev (S:Int) t ⟨r,l⟩ (0,[])=some w:=o;have n:w.length<=S:=by
    have:=X37 r l dev t S;rw[<-f,List.length_map]at this;exact this
  have b1:Nat.ble w.length 100000=true:=by rw[Nat.ble_eq];omega
  have b2:Nat.ble (w.map fun p=>p.fst).length 1000000=true:=by rw[Nat.ble_eq,List.length_map];omega
  have b2':Nat.ble (Wd r l dev t S).length 1000000=true:=by have:=X37 r l dev t S;rw[Nat.ble_eq];omega
  have b4:Nat.beq w.length w.length=true:=Nat.beq_refl _;have b5:(Nat.beq 3 3&&Nat.beq 2 2)=true:=rfl;have b6:(Nat.beq 3 3&&Nat.beq 0 0)=true:=rfl;have j:(w.map fun p=>p.fst)=Wd r l dev t S:=f;rw[k];simp only[jS,b5,b4,b1,ju,Bool.true_and,jB];cases e:w with
  | nil =>
    rw[e]at f;rw[<-f];rfl
  | cons p ps =>
    rw[<-e];have c:Nat.beq w.length 0=false:=by rw[e];rfl
    have b7:(Nat.beq 3 3&&Nat.beq 0 0&&Nat.ble (w.map fun p=>p.fst).length 1000000)=true:=by rw[b2];rfl
    have b8:(Nat.beq 1 1&&Nat.ble 8 1000&&Nat.testBit 688269427663 6)=true:=by decide +kernel
    simp only[c,jA,b2',b6,ju,Bool.true_and,jB,j,X5R _ (X3O r l dev t S)]
    first
    | rfl
    | (have b9:Nat.testBit 688269427663 6=true:=by decide +kernel
       have b10:Nat.beq 1 1=true:=rfl;have b11:Nat.ble 8 1000=true:=rfl;simp only[b9,b10,b11,b2',ju,jB])
def X5f (r:CoRecord) (l:List Zr) (dev t:Int):List Int×Int :=
  if(W6 r l).2≠0 then([],(W6 r l).2)else if WB 0 ((r.Devices.length:Int)-1) [dev]then([],4)else if WB 0 9999 [t]then([],7)else
  if X11 r l then(Wd r l dev t (r.Devices.getD dev.toNat (Zm.mk ByteArray.empty 0 0)).States.toNat,0)else([],9)
theorem X3d {r:CoRecord} (h:X3B r) {dev:Int} (a:0<=dev/\dev<r.Devices.length):∃S:Nat,(r.Devices.getD dev.toNat (Zm.mk ByteArray.empty 0 0)).States=(S:Int)/\2<=S/\S<=4:=by
  rw[XZ _ _ _ (by omega)]
  have:=(h.dev _ (jl (by omega:dev.toNat<r.Devices.length))).1
  exact⟨r.Devices[dev.toNat].States.toNat,by omega,by omega,by omega⟩
theorem X4S (r:CoRecord) (l:List Zr) (dev t:Int):X35 r l dev t=some (X5f r l dev t):=by
  rw[X3S];unfold X1r;rw[X3U r l];simp only[jS];unfold X5f
  by_cases q:(W6 r l).2=0
  · obtain⟨hr,e,_⟩:=X4h q
    have g:=hr.devs;have c:((W6 r l).2 != 0)=false:=by simp[q]
    have w1:IntKind.wrap .i64 ((r.Devices.length:Int)-1)=(r.Devices.length:Int)-1:=by rw[w64]<;>omega
    simp only[c,jA,if_neg (fun h:(W6 r l).2≠0=>h q),w1,W5 _ _ [dev] (by simp),W5 _ _ [t] (by simp),jS,X3c (X5W q)]
    cases q1:WB 0 ((r.Devices.length:Int)-1) [dev]with
    | true=>rfl
    | false =>
      cases q2:WB 0 9999 [t]with
      | true=>rfl
      | false =>
        have i:=X1x q1;have ht:=X1x q2;have a:0<=dev/\dev<(r.Devices.length:Int):=by omega
        obtain⟨S,d,_,f⟩:=X3d hr a;have b:=X3F (X5W q) e a ht d (by omega)
        simp only[jA,jg,if_false,b,jS,d,kS];unfold X11;cases(X6T r l).isEmpty with
        | true=>rfl
        | false=>rfl
  · have c:((W6 r l).2 != 0)=true:=X2E q
    simp only[c,jB,if_pos q]
end Nore
open Go Go.Ab
namespace Nore
theorem X6B (v k:Int) (hv:0<=v) (a:0<k):0<=Int.tmod v k/\Int.tmod v k<k:=⟨Int.tmod_nonneg k hv,Int.tmod_lt_of_pos v a⟩
theorem X72 {r:CoRecord} (h:X3B r) (ms:Nat->Int) {dev:Int} (j:0<=dev/\dev<r.Devices.length) (t:Int) {S:Nat} (c:(r.Devices.getD dev.toNat (Zm.mk ByteArray.empty 0 0)).States=(S:Int)) :
    0<=X3N r ms dev t/\X3N r ms dev t<(S:Int):=by
  have a:∀(e:List Zq) (i:Nat) (now:Int),(∀x∈e,x∈r.Entries)->0<=now/\now<(S:Int)->0<=X31 dev t ms e i now/\X31 dev t ms e i now<(S:Int):=by
    intro e
    induction e with
    | nil=>intro i now _ d;exact d
    | cons x e ih =>
      intro i now b d;rw[X2C];refine ih (i+1) _ (fun y hy=>b y (by simp[hy])) ?_
      split
      · rename_i hc
        have hE:=h.ent x (b x (by simp))
        unfold Xn at hE;have k:=h.devs;have q1:WB 0 ((r.Devices.length:Int)-1) [x.Device]=false:=by
          cases q:WB 0 ((r.Devices.length:Int)-1) [x.Device]with
          | false=>rfl
          | true=>rw[q]at hE;exact absurd hE (by simp)
        rw[q1,hc.1,c]at hE;have m:2<=S/\S<=4:=by
          obtain⟨S',l,n,o⟩:=X3d h j;rw[c]at l;omega
        have w1:IntKind.wrap .i64 ((S:Int)-1)=(S:Int)-1:=by rw[w64]<;>omega
        rw[w1]at hE;have q2:WB 0 ((S:Int)-1) [x.State]=false:=by
          cases q:WB 0 ((S:Int)-1) [x.State]with
          | false=>rfl
          | true=>rw[q]at hE;exact absurd hE (by simp)
        have:=X1x q2;omega
      · exact d
  refine a r.Entries 0 _ (fun x b=>b) ?_;have g:r.Devices.getD dev.toNat (Zm.mk ByteArray.empty 0 0)=r.Devices[dev.toNat]'(by omega):=XZ _ _ _ (by omega)
  have f:=(h.dev _ (jl (by omega:dev.toNat<r.Devices.length))).2
  rw[g]at c;rw[c]at f;show 0<=(r.Devices.getD dev.toNat ⟨ByteArray.empty,0,0⟩).First/\(r.Devices.getD dev.toNat ⟨ByteArray.empty,0,0⟩).First<(S:Int);rw[g];exact f
end Nore
open Go Go.Ab
namespace Nore
end Nore
open Go Go.Ab
namespace Nore
theorem X6H (l:List Int) (f:l.length<=1000000) (v:Int):∃k,X1j l v=some k/\(decide (k>=0)=decide (v∈l)):=by
  rw[X2A];unfold Wc;obtain⟨w,e,d⟩:=X1X (Xy (l.length:Int) v l) l.length (fun i (_:Unit)=>(i:Int)) (fun i _=>¬v∈l.take i)
    (fun w=>(∃i:Nat,w=.inl (i:Int)/\v∈l)\/(w=.inr ()/\¬v∈l))
    (fun _ b=>⟨.inr (),by simp[Xy,XM],.inr ⟨rfl,by rwa [List.take_length]at b⟩⟩)
    (fun i _ hi b=>by
      have e1:decide ((i:Int)<(l.length:Int))=true:=by simp;omega
      have w1:=wS i (by omega)
      simp only[Xy,XM,e1,z0S,kS,ju,jB,XZ _ _ _ hi,w1]
      by_cases he:v=l[i]
      · left
        have c:(v==l[i])=true:=by simp[he]
        simp only[c,jB];exact⟨_,rfl,.inl ⟨i,rfl,he▸jl hi⟩⟩
      · right
        have c:(v==l[i])=false:=X2s he;simp only[c,jA];refine⟨(),by first|rfl|trivial,fun h=>?_⟩
        rw[List.take_succ_eq_append_getElem hi]at h;rcases List.mem_append.1 h with h|h
        · exact b h
        · exact he (List.mem_singleton.1 h)) 0 () (Nat.zero_le _) (by simp)
  have a:WX (l.length:Int) v l 0=some w:=e;rw[a];rcases d with⟨i,rfl,h⟩|⟨rfl,h⟩
  · exact⟨(i:Int),rfl,by simp[h]⟩
  · exact⟨-1,rfl,by simp[h]⟩
theorem X5U (l:List Int) (b:l.length<=1000000) (v:Int):WI l v=some (decide (v∈l)):=by
  rw[X26];unfold XT;obtain⟨k,a,c⟩:=X6H l b v;simp only[a,jS,c]
theorem X6v (l:List Int) (f:l.length<=1000000) (v:Int):X3G l v=some (decide (v∈l)):=by
  rw[X4G];unfold X2f;obtain⟨w,e,d⟩:=X1X (X1a v l) l.length (fun i (_:Unit)=>(i:Int)) (fun i _=>¬v∈l.take i)
    (fun w=>(w=.inl true/\v∈l)\/(w=.inr ()/\¬v∈l))
    (fun _ b=>⟨.inr (),by simp[X1a,X1f],.inr ⟨rfl,by rwa [List.take_length]at b⟩⟩)
    (fun i _ hi b=>by
      have e1:decide ((i:Int)<(l.length:Int))=true:=by simp;omega
      have w1:=wS i (by omega)
      simp only[X1a,X1f,e1,z0S,kS,ju,jB,XZ _ _ _ hi,w1]
      by_cases he:l[i]=v
      · left
        have c:(l[i]==v)=true:=by simp[he]
        simp only[c,jB];exact⟨_,rfl,.inl ⟨rfl,he▸jl hi⟩⟩
      · right
        have c:(l[i]==v)=false:=X2s he;simp only[c,jA];refine⟨(),by first|rfl|trivial,fun h=>?_⟩
        rw[List.take_succ_eq_append_getElem hi]at h;rcases List.mem_append.1 h with h|h
        · exact b h
        · exact he (List.mem_singleton.1 h).symm) 0 () (Nat.zero_le _) (by simp)
  have a:X2P v l 0=some w:=e;rw[a];rcases d with⟨rfl,h⟩|⟨rfl,h⟩
  · simp[h]
  · simp[h]
def W3 (r:CoRecord) (l:List Zr) (dev t:Int):List Int:=Wd r l dev t (r.Devices.getD dev.toNat (Zm.mk ByteArray.empty 0 0)).States.toNat
def Xz (L:List Int) (st:Int):Int:=if st∈L then(if L.length=1 then 2 else 1)else 0
def X1b (r:CoRecord) (l:List Zr) (x:Zr):Int :=
  if(W6 r l).2≠0 then(W6 r l).2 else if Xn r x.Device x.State x.At≠0 then Xn r x.Device x.State x.At else if x.At.Lo≠x.At.Hi then 2 else if X11 r l then 0 else 9
theorem X5m (r:CoRecord) (l:List Zr) (x:Zr):X3J r l x=some (⟨r,l⟩,X1b r l x):=by
  rw[X4m];unfold X22;rw[X3U r l];simp only[jS];unfold X1b
  by_cases q:(W6 r l).2=0
  · obtain⟨hr,b,_⟩:=X4h q
    have a:=hr.devs;have c:((W6 r l).2==0)=true:=by simp[q]
    simp only[c,jB,if_neg (fun h:(W6 r l).2≠0=>h q),X3b r x (by omega:r.Devices.length<=1000000),jS,X3c (X5W q)]
    by_cases q1:Xn r x.Device x.State x.At=0
    · have c1:(Xn r x.Device x.State x.At != 0)=false:=by simp[q1]
      simp only[c1,jA,if_neg (fun h:Xn r x.Device x.State x.At≠0=>h q1)]
      by_cases q2:x.At.Lo=x.At.Hi
      · have c2:(x.At.Lo != x.At.Hi)=false:=by simp[q2]
        simp only[c2,jA,if_neg (fun h:x.At.Lo≠x.At.Hi=>h q2)];unfold X11;cases(X6T r l).isEmpty<;>rfl
      · have c2:(x.At.Lo != x.At.Hi)=true:=X2E q2
        simp only[c2,jB,if_pos q2]
    · have c1:(Xn r x.Device x.State x.At != 0)=true:=X2E q1
      simp only[c1,jB,if_pos q1]
  · have c:((W6 r l).2==0)=false:=X2s q
    have c':((W6 r l).2 != 0)=true:=X2E q;simp only[c,c',jB,jA,if_pos q]
theorem X4T {r:CoRecord} {l:List Zr} (j:X5K r l) (hr:X3B r) (h:l.length<=4) {x:Zr} (i:Xn r x.Device x.State x.At=0) :
    X1d ⟨r,l⟩ x=some (Xz (W3 r l x.Device x.At.Lo) x.State):=by
  rw[X2t];unfold W7;obtain⟨d,a,m,n⟩:=X3w i;obtain⟨S,e,_,g⟩:=X3d hr d.dev;have b:=X3F j h d.dev ⟨a,by omega⟩ e (by omega)
  have k:W3 r l x.Device x.At.Lo=Wd r l x.Device x.At.Lo S:=by unfold W3;rw[e,kS]
  rw[k];have f:=X37 r l x.Device x.At.Lo S;simp only[b,jS,X5U _ (by omega:(Wd r l x.Device x.At.Lo S).length<=1000000)]
  unfold Xz
  by_cases hm:x.State∈Wd r l x.Device x.At.Lo S
  · simp only[hm,decide_true,Bool.not_true,jA,if_true]
    by_cases a:(Wd r l x.Device x.At.Lo S).length=1
    · have c:(((Wd r l x.Device x.At.Lo S).length:Int)==1)=true:=by simp[a]
      simp only[c,jB,if_pos a]
    · have c:(((Wd r l x.Device x.At.Lo S).length:Int)==1)=false:=X2s (by omega)
      simp only[c,jA,if_neg a]
  · simp only[hm,decide_false,Bool.not_false,jB,if_false]
theorem X7e {r:CoRecord} {l:List Zr} {x:Zr} (h:X1b r l x=0):(W6 r l).2=0/\Xn r x.Device x.State x.At=0/\x.At.Lo=x.At.Hi/\X11 r l=true:=by
  unfold X1b at h
  by_cases q:(W6 r l).2=0
  · rw[if_neg (fun k=>k q)]at h
    by_cases q1:Xn r x.Device x.State x.At=0
    · rw[if_neg (fun k=>k q1)]at h
      by_cases q2:x.At.Lo=x.At.Hi
      · rw[if_neg (fun k=>k q2)]at h
        cases q3:X11 r l with
        | true=>exact⟨q,q1,q2,rfl⟩
        | false=>rw[q3]at h;exact absurd h (by simp)
      · rw[if_pos q2]at h;exact absurd h (by simp)
    · rw[if_pos q1]at h;exact absurd h q1
  · rw[if_pos q]at h;exact absurd h q
theorem X4R (r:CoRecord) (l:List Zr) (x:Zr):X1c r l x=some (if X1b r l x≠0 then(0,X1b r l x)else(Xz (W3 r l x.Device x.At.Lo) x.State,0)):=by
  rw[X3Q];unfold X1q;rw[X5m];simp only[jS]
  by_cases q:X1b r l x=0
  · obtain⟨a,d,_,_⟩:=X7e q
    obtain⟨hr,b,_⟩:=X4h a;have c:(X1b r l x != 0)=false:=by simp[q]
    simp only[c,jA,if_neg (fun k:X1b r l x≠0=>k q),X4T (X5W a) hr b d,jS]
  · have c:(X1b r l x != 0)=true:=X2E q
    simp only[c,jB,if_pos q]
theorem X3m {r:CoRecord} {l:List Zr} (hr:X3B r) {dev:Int} (e:0<=dev/\dev<r.Devices.length) (t st:Int):st∈W3 r l dev t↔∃ms,TrN r l ms/\X3N r ms dev t=st:=by
  obtain⟨S,f,_,_⟩:=X3d hr e;have d:∀s,X11 r (X4y l dev s t)=true↔∃ms,TrN r l ms/\X3N r ms dev t=s:=fun s=>by
    rw[X5h];constructor
    · rintro⟨ms,c,a⟩
      exact⟨ms,⟨c,fun x b=>a x (List.mem_append.2 (.inl b))⟩,(X6x c dev s t).1 (a _ (List.mem_append.2 (.inr (List.mem_singleton.2 rfl))))⟩
    · rintro⟨ms,⟨c,a⟩,g⟩
      refine⟨ms,c,fun x b=>?_⟩;rcases List.mem_append.1 b with b|b
      · exact a x b
      · rw[List.mem_singleton.1 b]
        exact(X6x c dev s t).2 g
  unfold W3 Wd;rw[f,kS];constructor
  · intro h
    obtain⟨s,j,rfl⟩:=List.mem_map.1 h;exact(d _).1 (List.mem_filter.1 j).2
  · rintro⟨ms,c,a⟩
    have i:=X72 hr ms e t f;rw[a]at i;refine List.mem_map.2 ⟨st.toNat,List.mem_filter.2 ⟨List.mem_range.2 (by omega),?_⟩,by omega⟩
    rw[show((st.toNat:Nat):Int)=st by omega]
    exact(d st).2 ⟨ms,c,a⟩
end Nore
open Go Go.Ab
namespace Nore
def X6Z (r:CoRecord) (i:Nat):CoRecord:=⟨r.Devices,r.Entries.set i (Zq.mk (r.Entries.getD i (Zq.mk 0 0 (Y2.mk 0 0))).Device (r.Entries.getD i (Zq.mk 0 0 (Y2.mk 0 0))).State (Y2.mk 0 9999))⟩
def X5F (e:List Zq):List (Int×Int):=e.map fun x=>(x.Device,x.State)
theorem X5x (dev st:Int):∀(e e':List Zq) (i:Nat) (now fr:Int),X5F e=X5F e'->X4C dev st e i now fr=X4C dev st e' i now fr
  | [],[],_,_,_,_=>rfl
  | x::e,y::e',i,now,fr,h=>by
    unfold X5F at h;simp only[jr,List.cons.injEq,Prod.mk.injEq]at h;rw[X2S,X2S,h.1.1,h.1.2,X5x dev st e e' (i+1) y.State i h.2,X5x dev st e e' (i+1) now fr h.2]
  | [],_::_,_,_,_,h=>by cases h
  | _::_,[],_,_,_,h=>by cases h
theorem X5v (dev t:Int) (ms:Nat->Int):∀(e e':List Zq) (i:Nat) (now:Int),X5F e=X5F e'->X31 dev t ms e i now=X31 dev t ms e' i now
  | [],[],_,_,_=>rfl
  | x::e,y::e',i,now,h=>by
    unfold X5F at h;simp only[jr,List.cons.injEq,Prod.mk.injEq]at h;rw[X2C,X2C,h.1.1,h.1.2,X5v dev t ms e e' (i+1) _ h.2]
  | [],_::_,_,_,h=>by cases h
  | _::_,[],_,_,h=>by cases h
structure X3x (r s:CoRecord):Prop where
  dev:s.Devices=r.Devices
  key:X5F s.Entries=X5F r.Entries
  wide:∀i (h:i<r.Entries.length) (h':i<s.Entries.length),s.Entries[i].At.Lo<=r.Entries[i].At.Lo/\r.Entries[i].At.Hi<=s.Entries[i].At.Hi
theorem X3x.len {r s:CoRecord} (h:X3x r s):s.Entries.length=r.Entries.length:=by
  have:=congrArg List.length h.key;unfold X5F at this;simpa using this
theorem X3x.tr {r s:CoRecord} (h:X3x r s) {l:List Zr} {ms:Nat->Int} (g:TrN r l ms):TrN s l ms:=by
  have a:=h.len;have b:∀(r:CoRecord) i (hi:i<r.Entries.length),(X2T (X2d r) []).lo i=r.Entries[i].At.Lo/\(X2T (X2d r) []).hi i=r.Entries[i].At.Hi:=fun r i hi=>by
    show((r.Entries.getD i (Zq.mk 0 0 (Y2.mk 0 0))).At).Lo=_/\((r.Entries.getD i (Zq.mk 0 0 (Y2.mk 0 0))).At).Hi=_;rw[XZ _ _ _ hi];exact⟨rfl,rfl⟩
  obtain⟨⟨⟨a1,a2,_⟩,⟨b1,_,_⟩⟩,d⟩:=g;refine⟨⟨⟨fun i hi=>?_,fun i hi=>a2 i (by omega),fun p c=>by cases c⟩,⟨fun i hi=>?_,fun i hi=>a2 i (by omega),fun p c=>by cases c⟩⟩,fun x f=>?_⟩
  · have:=a1 i (by omega)
    rw[(b r i (by omega)).1]at this
    rw[(b s i hi).1];have:=(h.wide i (by omega) hi).1
    omega
  · have:=b1 i (by omega)
    rw[(b r i (by omega)).2]at this
    rw[(b s i hi).2];have:=(h.wide i (by omega) hi).2
    omega
  · obtain⟨t,ht,j⟩:=d x f
    refine⟨t,?_,by rw[a];exact j⟩
    have e:X4O s x=X4O r x:=by
      unfold X4O;rw[h.dev];exact X5x _ _ _ _ _ _ _ h.key
    rw[e];exact ht
theorem X3x.state {r s:CoRecord} (h:X3x r s) (ms:Nat->Int) (dev t:Int):X3N s ms dev t=X3N r ms dev t:=by
  unfold X3N X5V;rw[h.dev];exact X5v _ _ _ _ _ _ _ h.key
theorem X3x.states {r s:CoRecord} (h:X3x r s) (hr:X3B r) (d:X3B s) {l:List Zr} {dev:Int} (a:0<=dev/\dev<r.Devices.length) (t:Int):∀v∈W3 r l dev t,v∈W3 s l dev t:=fun v hv=>by
  rw[X3m hr a]at hv;rw[X3m d (by rw[h.dev];exact a)]
  obtain⟨ms,c,b⟩:=hv;exact⟨ms,h.tr c,by rw[h.state];exact b⟩
theorem X6P {r:CoRecord} (hr:X3B r) {l:List Zr} (c:X11 r l=true) {dev:Int} (a:0<=dev/\dev<r.Devices.length) (t:Int):W3 r l dev t≠[]:=fun e=>by
  obtain⟨ms,b⟩:=X5h.1 c;have:=(X3m hr a t (X3N r ms dev t)).2 ⟨ms,b,rfl⟩;rw[e]at this;cases this
theorem X5T {L M:List Int} (d:∀v∈L,v∈M) (f:L≠[]) (hL:L.Pairwise (· < ·)) (st:Int) (h:Xz M st≠1):Xz L st=Xz M st:=by
  unfold Xz at h⊢
  by_cases hm:st∈M
  · rw[if_pos hm]at h⊢
    by_cases h1:M.length=1
    · rw[if_pos h1]
      obtain⟨c,hc⟩:=List.length_eq_one_iff.1 h1;rw[hc]at d hm;have e:st=c:=List.mem_singleton.1 hm;cases L with
      | nil=>exact absurd rfl f
      | cons a L =>
        have g:a=c:=List.mem_singleton.1 (d a (by simp))
        cases L with
        | nil=>rw[if_pos (by simp[e,g])];rfl
        | cons b L =>
          have i:b=c:=List.mem_singleton.1 (d b (by simp))
          have:=(List.pairwise_cons.1 hL).1 b (by simp)
          omega
    · rw[if_neg h1]at h
      exact absurd rfl h
  · rw[if_neg hm,if_neg fun k=>hm (d st k)]
theorem X6g (r:CoRecord) (l:List Zr) (dev t:Int):(W3 r l dev t).Pairwise (· < ·):=X3O r l dev t _
theorem X5O {r s:CoRecord} (h:s.Devices=r.Devices) (dev st:Int) (p:Y2):Xn s dev st p=Xn r dev st p:=by
  unfold Xn;rw[h]
structure X7k (r:CoRecord) (l:List Zr) (i:Nat):Prop where
  rec_:X3B (X6Z r i)
  sees:W6 (X6Z r i) l=(0,0)
  wide:X3x r (X6Z r i)
end Nore
open Go Go.Ab
namespace Nore
theorem X6i {r:CoRecord} (x:Zr):WV (fun _ (x:Zr)=>Xn r x.Device x.State x.At) 0 [x]=if Xn r x.Device x.State x.At≠0 then(0,Xn r x.Device x.State x.At)else(0,0):=rfl
theorem X71 {r:CoRecord} (hc:(WA r).2.2=0) (x:Zr):(W6 r [x]).2=Xn r x.Device x.State x.At:=by
  unfold W6;rw[if_neg (fun q=>q hc),if_neg (by simp),X6i]
  by_cases h:Xn r x.Device x.State x.At=0
  · rw[if_neg (fun q=>q h),h]
  · rw[if_pos h]
structure X5S (r:CoRecord) (out:List Zq) (k:Nat):Prop where
  len:out.length=k
  ent:∀j (h:j<out.length) (h':j<r.Entries.length),out[j].Device=r.Entries[j].Device/\out[j].State=r.Entries[j].State/\r.Entries[j].At.Lo<=out[j].At.Lo/\out[j].At.Lo<=out[j].At.Hi/\out[j].At.Hi<=r.Entries[j].At.Hi
theorem X5S.snoc {r:CoRecord} {out:List Zq} {k:Nat} (h:X5S r out k) (f:k<r.Entries.length) {e:Zq} (d:e.Device=r.Entries[k].Device/\e.State=r.Entries[k].State/\r.Entries[k].At.Lo<=e.At.Lo/\e.At.Lo<=e.At.Hi/\e.At.Hi<=r.Entries[k].At.Hi):X5S r (out++[e]) (k+1) where
  len:=by simp[h.len]
  ent:=fun j b a=>by
    have c:=h.len
    by_cases e2:j<out.length
    · rw[List.getElem_append_left e2]
      exact h.ent j e2 a
    · have:j=k:=by simp only[List.length_append,List.length_singleton]at b;omega
      subst this;rw[List.getElem_append_right (by omega)]
      simp only[c,Nat.sub_self,List.getElem_cons_zero];exact d
theorem X6h {r:CoRecord} (hr:X3B r) (x:Z9) (y:∀v∈x.Narrower,0<=v/\v<256):∃out,WH r x (0,[])=some out/\X5S r out r.Entries.length:=by
  obtain⟨w,s,p⟩:=X1X (W0 r x) r.Entries.length (fun i (b:List Zq)=>((i:Int),b)) (fun i b=>X5S r b i) (fun w=>X5S r w r.Entries.length)
    (fun b g=>⟨b,by simp[W0,Wb],g⟩)
    (fun i b hi g=>by
      right;have z:=hr.many;have e:=X7f hr i hi;have k:=g.len;have e1:decide ((i:Int)<(r.Entries.length:Int))=true:=by simp;omega
      have w1:=wS i (by omega)
      have b1:Nat.ble ((i+1)*(32+1)) 200000000000000=true:=by rw[Nat.ble_eq];omega
      simp only[W0,Wb,e1,z0S,kS,ju,jB,XZ _ _ _ hi,w1,k,List.length_singleton,b1]
      by_cases hz:x.Narrower.length=0
      · have c1:decide ((x.Narrower.length:Int)>0)=false:=by simp[hz]
        simp only[c1,jA];exact⟨_,rfl,g.snoc hi ⟨rfl,rfl,Int.le_refl _,e.2.1,Int.le_refl _⟩⟩
      · have c1:decide ((x.Narrower.length:Int)>0)=true:=by simp;omega
        have c2:((x.Narrower.length:Int)==0)=false:=X2s (by omega)
        have f:i % x.Narrower.length<x.Narrower.length:=Nat.mod_lt _ (by omega)
        have e2:Int.tmod (i:Int) (x.Narrower.length:Int)=((i % x.Narrower.length:Nat):Int):=by
          rw[Int.tmod_eq_emod_of_nonneg (by omega)];rfl
        have c3:decide (((i % x.Narrower.length:Nat):Int)<(x.Narrower.length:Int))=true:=by rw[jk];omega
        have hv:=y _ (jl f);simp only[c1,c2,jB,jA,e2,z0S,c3,ju,kS,XZ _ _ _ f];generalize x.Narrower[i % x.Narrower.length]=v at hv;have u:IntKind.wrap .i64 v=v:=by rw[w64]<;>omega
        have ht:=X6B v 8 hv.1 (by omega)
        have n:0<=Int.tdiv v 8/\Int.tdiv v 8<256:=by
          rw[Int.tdiv_eq_ediv_of_nonneg hv.1];omega
        have u2:IntKind.wrap .i64 (Int.tdiv v 8)=Int.tdiv v 8:=by rw[w64]<;>omega
        have o:=X6B (Int.tdiv v 8) 8 n.1 (by omega)
        simp only[u,u2];generalize Int.tmod v 8=a at ht;generalize Int.tmod (Int.tdiv v 8) 8=c at o;generalize hlo:r.Entries[i].At.Lo=lo at e;generalize hhi:r.Entries[i].At.Hi=hi2 at e;have w3:IntKind.wrap .i64 (lo+a)=lo+a:=by rw[w64]<;>omega
        have w4:IntKind.wrap .i64 (hi2-c)=hi2-c:=by rw[w64]<;>omega
        have hL:(bif decide (lo+a<hi2)then lo+a else hi2)=(if lo+a<hi2 then lo+a else hi2):=by by_cases q:lo+a<hi2<;>simp[q]
        have d:∀u v,X3K u v=some ⟨u,v⟩:=fun u v=>by rw[X4s];rfl
        simp only[w3,w4,hL,d,jS];have m:lo<=(if lo+a<hi2 then lo+a else hi2)/\(if lo+a<hi2 then lo+a else hi2)<=hi2:=by split<;>omega
        generalize (if lo+a<hi2 then lo+a else hi2)=L at m;have t:(bif decide (hi2-c>L)then hi2-c else L)=(if hi2-c>L then hi2-c else L):=by by_cases q:hi2-c>L<;>simp[q]
        rw[t];have l:L<=(if hi2-c>L then hi2-c else L)/\(if hi2-c>L then hi2-c else L)<=hi2:=by split<;>omega
        generalize (if hi2-c>L then hi2-c else L)=H at l;refine⟨_,rfl,g.snoc hi ⟨rfl,rfl,?_,?_,?_⟩⟩
        · show r.Entries[i].At.Lo<=L;omega
        · show L<=H;omega
        · show H<=r.Entries[i].At.Hi;omega) 0 [] (Nat.zero_le _) ⟨rfl,fun j h=>by simp at h⟩
  exact⟨w,s,p⟩
theorem X6N {r:CoRecord} {d st:Int} {p p':Y2} (h:Xn r d st p=0) (c:p.Lo<=p'.Lo) (b:p'.Lo<=p'.Hi) (e:p'.Hi<=p.Hi):Xn r d st p'=0:=by
  have a:=(X3w (x:=⟨d,st,p⟩) h).2;simp only at a;unfold Xn at h⊢;cases q1:WB 0 ((r.Devices.length:Int)-1) [d]with
  | true=>rw[q1]at h;exact absurd h (by simp)
  | false =>
    rw[q1]at h;cases q2:WB 0 (IntKind.wrap .i64 ((r.Devices.getD d.toNat (Zm.mk ByteArray.empty 0 0)).States-1)) [st]with
    | true=>rw[q2]at h;exact absurd h (by simp)
    | false =>
      have q3:WB 0 9999 [p'.Lo,p'.Hi]=false:=by
        simp only[X2Q,X3g,Bool.or_false,Bool.or_eq_false_iff,decide_eq_false_iff_not];omega
      rw[q3];simp only[jg,if_false];rw[if_neg (by omega)]
theorem X5p:∀(l:List Zq) (a:Int) (i:Nat),(Xk a i l).2=0\/(Xk a i l).2=9
  | [],_,_=>.inl rfl
  | x::l,a,i=>by
    rw[X3r]
    by_cases hc:(if x.At.Lo>a then x.At.Lo else a)>x.At.Hi
    · rw[if_pos hc];exact .inr rfl
    · rw[if_neg hc];exact X5p l _ _
theorem X6M {r:CoRecord} {out:List Zq} (h:X5S r out r.Entries.length):X3x ⟨r.Devices,out⟩ r where
  dev:=rfl
  key:=by
    unfold X5F;refine List.ext_getElem (by simp[h.len]) fun j b a=>?_
    simp only[List.length_map]at b a;simp only[List.getElem_map];obtain⟨e1,e2,_⟩:=h.ent j a b;rw[e1,e2]
  wide:=fun j b a=>by
    obtain⟨_,_,e3,_,e5⟩:=h.ent j b a;exact⟨e3,e5⟩
theorem X6L {r:CoRecord} {out:List Zq} (hc:(WA r).2.2=0) (h:X5S r out r.Entries.length):(WA ⟨r.Devices,out⟩).2.2=0\/(WA ⟨r.Devices,out⟩).2.2=9:=by
  have hr:=X3C hc;have a:(X1Z ⟨r.Devices,out⟩).2=0:=by
    unfold X1Z;rw[X45 _ _ 0 fun x g j=>?_];obtain⟨k,f,rfl⟩:=List.getElem_of_mem g;have e:k<out.length:=f;have d:k<r.Entries.length:=by rw[<-h.len];exact f
    obtain⟨e1,e2,e3,e4,e5⟩:=h.ent k e d;rw[X5O (r:=r) (s:=⟨r.Devices,out⟩) rfl];show Xn r out[k].Device out[k].State out[k].At=0;rw[e1,e2];exact X6N (hr.ent _ (jl d)) e3 e4 e5
  have b:X2z ⟨r.Devices,out⟩=X2z r:=rfl;have c:=X5p out 0 0;unfold WA at hc⊢;rw[b];simp only[h.len]at hc⊢;cases q1:WB 1 4 [(r.Devices.length:Int)]||decide ((r.Entries.length:Int)>10)with
  | true=>rw[q1]at hc;exact absurd hc (by simp)
  | false =>
    rw[q1]at hc;simp only[jg,if_false]at hc⊢
    by_cases q3:(X2z r).2=0
    · rw[if_neg (fun k=>k q3),if_neg (fun k=>k a)]
      rcases c with c|c
      · rw[if_neg (fun k=>k c)];exact .inl rfl
      · rw[if_pos (by rw[c];decide)];exact .inr c
    · rw[if_pos q3]at hc;exact absurd hc q3
theorem X6l {r:CoRecord} {l more:List Zr} {q:Zr} {out:List Zq} (o:(W6 r l).2=0) (t:Xn r q.Device q.State q.At=0) (i:q.At.Lo=q.At.Hi) (h:X5S r out r.Entries.length) (z:(W6 r more).2=0) (e:∀x∈l,x∈more) :
    (X1b ⟨r.Devices,out⟩ more q=9)\/(X1b ⟨r.Devices,out⟩ more q=0/\(Xz (W3 r l q.Device q.At.Lo) q.State≠1->Xz (W3 ⟨r.Devices,out⟩ more q.Device q.At.Lo) q.State=Xz (W3 r l q.Device q.At.Lo) q.State)):=by
  have hr:=X3C (X4B o);obtain⟨_,g,k⟩:=X4h z;have a:∀d st p,Xn ⟨r.Devices,out⟩ d st p=Xn r d st p:=fun d st p=>X5O (r:=r) (s:=⟨r.Devices,out⟩) rfl d st p;rcases X6L (X4B o) h with hc|hc
  · have c:W6 ⟨r.Devices,out⟩ more=(0,0):=X7a hc g fun x j=>by rw[a];exact k x j
    have n:=X3C hc;have b:X1b ⟨r.Devices,out⟩ more q=if X11 ⟨r.Devices,out⟩ more then 0 else 9:=by
      unfold X1b;rw[c,a,t];simp[i]
    cases ha:X11 ⟨r.Devices,out⟩ more with
    | false=>left;rw[b,ha];rfl
    | true =>
      right;refine⟨by rw[b,ha];rfl,fun y=>?_⟩
      have f:=(X3w t).1.dev;have m:=X6M h;refine X5T (fun v hv=>?_) (X6P n ha f q.At.Lo) (X6g _ _ _ _) q.State y;rw[X3m n f]at hv;obtain⟨ms,u,w⟩:=hv;rw[X3m hr f];exact⟨ms,m.tr ⟨u.1,fun x j=>u.2 x (e x j)⟩,by rw[m.state];exact w⟩
  · left
    unfold X1b W6;rw[if_pos (by rw[if_pos (by rw[hc];decide)];rw[hc];decide),if_pos (by rw[hc];decide)]
    exact hc
end Nore
open Go Go.Ab
namespace Nore
theorem X6I (A:Int) (p:Int×Int) (a:p.2=9\/(p.2=0/\(A≠1->p.1=A))):(bif p.2 != 0 then bif p.2==9 then some true else some false else bif A==1 then some true else bif p.1==A then some true else some false)=some true:=by
  rcases a with h|⟨h,b⟩
  · have c1:(p.2 != 0)=true:=by rw[h];rfl
    have c2:(p.2==9)=true:=by rw[h];rfl
    simp only[c1,c2,jB]
  · have c1:(p.2 != 0)=false:=by rw[h];rfl
    simp only[c1,jA]
    by_cases h1:A=1
    · have c:(A==1)=true:=by simp[h1]
      simp only[c,jB]
    · have c:(A==1)=false:=X2s h1
      have c2:(p.1==A)=true:=by rw[b h1];simp
      simp only[c,c2,jB,jA]
theorem X6q {r:CoRecord} {l:List Zr} (h:(W6 r l).2=0) {q:Zr} (a:Xn r q.Device q.State q.At=0):X5f r l q.Device q.At.Lo=if X11 r l then(W3 r l q.Device q.At.Lo,0)else([],9):=by
  have b:=X3w a;have c:=b.1.dev;unfold X5f;have q1:WB 0 ((r.Devices.length:Int)-1) [q.Device]=false:=by
    simp only[X2Q,X3g,Bool.or_false,Bool.or_eq_false_iff,decide_eq_false_iff_not];omega
  have q2:WB 0 9999 [q.At.Lo]=false:=by
    simp only[X2Q,X3g,Bool.or_false,Bool.or_eq_false_iff,decide_eq_false_iff_not];omega
  rw[if_neg (fun k=>k h),q1,q2];rfl
set_option maxHeartbeats 1000000 in
theorem X56 (r:CoRecord) (t:Z7) (x:Z9) (hx:∀v∈x.Narrower,0<=v/\v<256):X1w r t x=some true:=by
  obtain⟨l,q⟩:=t;rw[X32];unfold WE;simp only[X4R,X5n,X4S,jS]
  by_cases h:(W6 r l).2=0
  · have hz:((W6 r l).2==0)=true:=by simp[h]
    have hc:=X4B h;obtain⟨hr,hl,a0⟩:=X4h h;simp only[hz,Bool.not_true,jA,X71 hc]
    by_cases hq:Xn r q.Device q.State q.At=0
    · have f:(Xn r q.Device q.State q.At==0)=true:=by simp[hq]
      simp only[f,Bool.not_true,jA]
      by_cases hat:q.At.Lo=q.At.Hi
      · have i:(q.At.Lo != q.At.Hi)=false:=by simp[hat]
        simp only[i,jA]
        by_cases h4:l.length=4
        · have c4:((l.length:Int)==4)=true:=by simp[h4]
          simp only[c4,jB];cases((if X1b r l q≠0 then(0,X1b r l q)else(Xz (W3 r l q.Device q.At.Lo) q.State,0)).2 != 0)<;>rfl
        · have c4:((l.length:Int)==4)=false:=X2s (by omega)
          have a:X1b r l q=if X11 r l then 0 else 9:=by
            unfold X1b;rw[if_neg (fun k=>k h),if_neg (fun k=>k hq),if_neg (fun k=>k hat)]
          simp only[c4,jA,X6q h hq,a];cases hag:X11 r l with
          | false=>rfl
          | true =>
            obtain⟨out,m,w⟩:=X6h hr x hx;have b0:((0:Int) != 0)=false:=rfl;have u:¬((0:Int)≠0):=fun k=>k rfl;simp only[if_true,if_neg u,b0,jA];have d:(W3 r l q.Device q.At.Lo).length<=1000000:=by
              obtain⟨S,hS,_,a1⟩:=X3d hr (X3w hq).1.dev;have:=X37 r l q.Device q.At.Lo S;unfold W3;rw[hS,kS];omega
            generalize hL:W3 r l q.Device q.At.Lo=L at d;have k1:Nat.ble ((0+l.length)*(32+1)) 200000000000000=true:=by rw[Nat.ble_eq];omega
            have k2:Nat.ble ((l.length+1)*(32+1)) 200000000000000=true:=by rw[Nat.ble_eq];omega
            have j:(!((Xz L q.State==0) == !decide (q.State∈L)))=false:=by
              unfold Xz
              by_cases b:q.State∈L
              · rw[if_pos b]
                by_cases h1:L.length=1
                · rw[if_pos h1];simp[b]
                · rw[if_neg h1];simp[b]
              · rw[if_neg b];simp[b]
            have tail:∀more,(W6 r more).2=0->(∀y∈l,y∈more)->(bif(if X1b ⟨r.Devices,out⟩ more q≠0 then(0,X1b ⟨r.Devices,out⟩ more q)else(Xz (W3 ⟨r.Devices,out⟩ more q.Device q.At.Lo) q.State,0)).2 != 0 then bif(if X1b ⟨r.Devices,out⟩ more q≠0 then(0,X1b ⟨r.Devices,out⟩ more q)else(Xz (W3 ⟨r.Devices,out⟩ more q.Device q.At.Lo) q.State,0)).2==9 then some true else some false else bif Xz L q.State==1 then some true else bif(if X1b ⟨r.Devices,out⟩ more q≠0 then(0,X1b ⟨r.Devices,out⟩ more q)else(Xz (W3 ⟨r.Devices,out⟩ more q.Device q.At.Lo) q.State,0)).1==Xz L q.State then some true else some false)=some true:=fun more b o=>by
              refine X6I _ _ ?_;have n:=X6l (more:=more) h hq hat w b o;rw[hL]at n;rcases n with n|⟨p,s⟩
              · left;rw[if_pos (by rw[n];decide)];exact n
              · right;rw[if_neg (fun k=>k p)];exact⟨rfl,s⟩
            have tl:(bif !((W6 r (l++[x.Seen])).2==0)then
                (bif(if X1b ⟨r.Devices,out⟩ l q≠0 then(0,X1b ⟨r.Devices,out⟩ l q)else(Xz (W3 ⟨r.Devices,out⟩ l q.Device q.At.Lo) q.State,0)).2 != 0 then bif(if X1b ⟨r.Devices,out⟩ l q≠0 then(0,X1b ⟨r.Devices,out⟩ l q)else(Xz (W3 ⟨r.Devices,out⟩ l q.Device q.At.Lo) q.State,0)).2==9 then some true else some false else bif Xz L q.State==1 then some true else bif(if X1b ⟨r.Devices,out⟩ l q≠0 then(0,X1b ⟨r.Devices,out⟩ l q)else(Xz (W3 ⟨r.Devices,out⟩ l q.Device q.At.Lo) q.State,0)).1==Xz L q.State then some true else some false)else
                (bif(if X1b ⟨r.Devices,out⟩ (l++[x.Seen]) q≠0 then(0,X1b ⟨r.Devices,out⟩ (l++[x.Seen]) q)else(Xz (W3 ⟨r.Devices,out⟩ (l++[x.Seen]) q.Device q.At.Lo) q.State,0)).2 != 0 then bif(if X1b ⟨r.Devices,out⟩ (l++[x.Seen]) q≠0 then(0,X1b ⟨r.Devices,out⟩ (l++[x.Seen]) q)else(Xz (W3 ⟨r.Devices,out⟩ (l++[x.Seen]) q.Device q.At.Lo) q.State,0)).2==9 then some true else some false else bif Xz L q.State==1 then some true else bif(if X1b ⟨r.Devices,out⟩ (l++[x.Seen]) q≠0 then(0,X1b ⟨r.Devices,out⟩ (l++[x.Seen]) q)else(Xz (W3 ⟨r.Devices,out⟩ (l++[x.Seen]) q.Device q.At.Lo) q.State,0)).1==Xz L q.State then some true else some false))=some true:=by
              by_cases hmo:(W6 r (l++[x.Seen])).2=0
              · have c:((W6 r (l++[x.Seen])).2==0)=true:=by simp[hmo]
                simp only[c,Bool.not_true,jA];exact tail _ hmo fun y hy=>List.mem_append.2 (.inl hy)
              · have c:((W6 r (l++[x.Seen])).2==0)=false:=X2s hmo
                simp only[c,Bool.not_false,jB];exact tail _ h fun y hy=>hy
            by_cases h1:L.length=1
            · have c1:((L.length:Int)==1)=true:=by simp[h1]
              have c2:decide ((0:Int)<(L.length:Int))=true:=by rw[h1];rfl
              have c3:decide ((0:Nat)<=0)=true:=rfl;have g:(!((Xz L q.State==2)==(L.getD (Int.toNat 0) 0==q.State)))=false:=by
                obtain⟨c,hc⟩:=List.length_eq_one_iff.1 h1;rw[hc];unfold Xz
                by_cases b:q.State=c
                · rw[if_pos (by simp[b])];simp[b]
                · rw[if_neg (by simp[b])]
                  have:(c==q.State)=false:=X2s fun e=>b e.symm;simp[this]
              simp only[c1,c2,c3,ju,jB,g,jA,X6v L d,jS,j,m,List.nil_append,List.length_singleton,k1,k2];exact tl
            · have c1:((L.length:Int)==1)=false:=X2s (by omega)
              have g:(!((Xz L q.State==2)==false))=false:=by
                unfold Xz
                by_cases b:q.State∈L
                · rw[if_pos b,if_neg h1];rfl
                · rw[if_neg b];rfl
              simp only[c1,jB,g,jA,X6v L d,jS,j,m,List.nil_append,List.length_singleton,k1,k2];exact tl
      · have i:(q.At.Lo != q.At.Hi)=true:=X2E hat
        have a:X1b r l q=2:=by
          unfold X1b;rw[if_neg (fun k=>k h),if_neg (fun k=>k hq),if_pos hat]
        simp only[i,jB,a];rfl
    · have f:(Xn r q.Device q.State q.At==0)=false:=X2s hq
      have a:X1b r l q=Xn r q.Device q.State q.At:=by
        unfold X1b;rw[if_neg (fun k=>k h),if_pos hq]
      have c:(Xn r q.Device q.State q.At != 0)=true:=X2E hq;simp only[f,Bool.not_false,jB,a,if_pos hq,c]
  · have hz:((W6 r l).2==0)=false:=X2s h
    have z:X1b r l q≠0:=by unfold X1b;rw[if_pos h];exact h
    have c:(X1b r l q != 0)=true:=X2E z;simp only[hz,Bool.not_false,jB,if_pos z,c]
theorem X57 (r:CoRecord) (t:Z7) (x:Z9) (a:∀v,List.Mem v x.Narrower->(Lit.int .u8 v).wf=true):X1w r t x=some true:=by
  refine X56 r t x fun v hv=>?_;have h:=a v hv;simp[Lit.wf,IntKind.has,IntKind.min,IntKind.max,IntKind.signed,IntKind.bits]at h;omega
end Nore
