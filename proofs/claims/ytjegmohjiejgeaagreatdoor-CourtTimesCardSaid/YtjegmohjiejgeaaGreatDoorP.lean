/- The plain functions of the program and of the document answer alike. -/
import Derived.Test.YtjegmohjiejgeaaGreatDoorY
import Derived.Test.YtjegmohjiejgeaaGreatDoorD
set_option linter.unusedSectionVars false
set_option linter.unusedVariables false
set_option linter.unusedSimpArgs false
open Go Go.Ab
namespace Nore
theorem w64 {x:Int} (a : -9223372036854775808<=x) (b:x<=9223372036854775807):IntKind.wrap .i64 x=x:=by
  simp only[IntKind.wrap,IntKind.signed,IntKind.bits];simp;omega
theorem jS {α β:Type} (a:α) (f:α->Option β):Option.bind (some a) f=f a:=rfl
theorem kS (n:Nat):Int.toNat (n:Int)=n:=rfl
theorem wS (i:Nat) (h:i<9223372036854775807):IntKind.wrap .i64 ((i:Int)+1)=((i+1:Nat):Int):=by rw[w64]<;>omega
theorem z0S (i:Nat):decide ((0:Int)<=↑i)=true:=by simp
theorem X6g {σ ω γ:Type} (st:σ->Option (σ⊕ω)) (k:ω->Option γ) (s:σ):Option.bind (Za2 st s) k=Option.bind (st s) (Sum.elim (fun s'=>Option.bind (Za2 st s') k) k):=by
  rw[ZjE];cases st s with
  | none=>rfl
  | some r=>cases r<;>rfl
theorem X1u {β σ ω γ:Type} (st:σ->Option (σ⊕ω)) (k:ω->Option γ) (n:Nat) (emb:Nat->β->σ) (P:Nat->β->Prop) (nice:Nat->β->Option γ)
    (d:∀b,P n b->∀R:σ->Option γ,Option.bind (st (emb n b)) (Sum.elim R k)=nice n b)
    (e:∀i b,i<n->P i b->∀R:σ->Option γ,(∀b',P (i+1) b'->R (emb (i+1) b')=nice (i+1) b')->Option.bind (st (emb i b)) (Sum.elim R k)=nice i b) :
    ∀i b,i<=n->P i b->Option.bind (Za2 st (emb i b)) k=nice i b:=by
  intro i b hi c
  induction hj:n-i generalizing i b with
  | zero =>
    have:i=n:=by omega
    subst this;rw[X6g];exact d b c _
  | succ j ih =>
    rw[X6g];exact e i b (by omega) c _ fun b' a=>ih (i+1) b' (by omega) a (by omega)
theorem X3B {a b:Int} (h:¬a=b):(a==b)=false:=beq_eq_false_iff_ne.2 h
theorem X2Q {a b:Int} (h:¬a=b):(a != b)=true:=bne_iff_ne.2 h
theorem XI {α:Type} (l:List α) (i:Nat) (d:α) (h:i<l.length):l.getD i d=l[i]:=by simp[List.getD,h]
theorem WD {β σ ω:Type} (st:σ->Option (σ⊕ω)) (n:Nat) (emb:Nat->β->σ) (P:Nat->β->Prop) (Q:ω->Prop)
    (e:∀b,P n b->∃w,st (emb n b)=some (.inr w)/\Q w)
    (g:∀i b,i<n->P i b->(∃w,st (emb i b)=some (.inr w)/\Q w)\/∃b',st (emb i b)=some (.inl (emb (i+1) b'))/\P (i+1) b') :
    ∀i b,i<=n->P i b->∃w,Za2 st (emb i b)=some w/\Q w:=by
  intro i b hi d
  induction hj:n-i generalizing i b with
  | zero =>
    have:i=n:=by omega
    subst this;obtain⟨w,c,a⟩:=e b d;exact⟨w,by rw[ZjE,c];rfl,a⟩
  | succ j ih =>
    rcases g i b (by omega) d with⟨w,c,a⟩|⟨b',c,a⟩
    · exact⟨w,by rw[ZjE,c];rfl,a⟩
    · obtain⟨w,f,h⟩:=ih (i+1) b' (by omega) a (by omega)
      exact⟨w,by rw[ZjE,c];exact f,h⟩
end Nore
namespace Nore
structure Con where
  lo:Nat->Int
  hi:Nat->Int
  ap:List (Nat×Nat)
def X6z (n:Nat) (x:Nat->Int):Prop:=∀i,i+1<n->x i<=x (i+1)
def ApN (ap:List (Nat×Nat)) (x:Nat->Int):Prop:=∀p∈ap,x p.1+1<=x p.2
def UpN (n:Nat) (c:Con) (x:Nat->Int):Prop:=(∀i,i<n->c.lo i<=x i)/\X6z n x/\ApN c.ap x
def DnN (n:Nat) (c:Con) (x:Nat->Int):Prop:=(∀i,i<n->x i<=c.hi i)/\X6z n x/\ApN c.ap x
structure X5N (n:Nat) (c:Con) (L:Nat->Int):Prop where
  up:UpN n c L
  least:∀x,UpN n c x->∀i,i<n->L i<=x i
structure X5M (n:Nat) (c:Con) (H:Nat->Int):Prop where
  dn:DnN n c H
  great:∀x,DnN n c x->∀i,i<n->x i<=H i
def X4w (n:Nat) (ap:List (Nat×Nat)):Prop:=∀p∈ap,p.1<p.2/\p.2<n
theorem X6U {n:Nat} {c c':Con} {L L':Nat->Int} (h:X5N n c L) (h':X5N n c' L') (e:∀x,UpN n c x↔UpN n c' x):∀i,i<n->L i=L' i:=fun i hi =>
  Int.le_antisymm (h.least _ ((e _).2 h'.up) i hi) (h'.least _ ((e _).1 h.up) i hi)
theorem X6T {n:Nat} {c c':Con} {H H':Nat->Int} (h:X5M n c H) (h':X5M n c' H') (e:∀x,DnN n c x↔DnN n c' x):∀i,i<n->H i=H' i:=fun i hi =>
  Int.le_antisymm (h'.great _ ((e _).1 h.dn) i hi) (h.great _ ((e _).2 h'.dn) i hi)
def X4A (L:Nat->Int):List (Nat×Nat)->Nat->Int->Int
  | [],_,a=>a
  | p::ps,i,a=>X4A L ps i (if p.2=i then(if L p.1+1>a then L p.1+1 else a)else a)
def up1 (ap:List (Nat×Nat)) (L:Nat->Int) (i:Nat):Int:=X4A L ap i (if 0<i then(if L (i-1)>L i then L (i-1)else L i)else L i)
def Wy (ap:List (Nat×Nat)):Nat->(Nat->Int)->Nat->Int
  | 0,L=>L
  | k+1,L=>fun j=>if j=k then up1 ap (Wy ap k L) k else Wy ap k L j
theorem X5S (L:Nat->Int) (i:Nat):∀(ap:List (Nat×Nat)) (a:Int),a<=X4A L ap i a/\∀p∈ap,p.2=i->L p.1+1<=X4A L ap i a
  | [],a=>⟨Int.le_refl _,by simp⟩
  | p::ps,a=>by
    unfold X4A;have b:a<=(if p.2=i then(if L p.1+1>a then L p.1+1 else a)else a)/\(p.2=i->L p.1+1<=(if p.2=i then(if L p.1+1>a then L p.1+1 else a)else a)):=by
      by_cases e:p.2=i
      · by_cases e2:L p.1+1>a
        · simp only[e,e2,if_true];exact⟨by omega,fun _=>Int.le_refl _⟩
        · simp only[e,e2,if_true,if_false];exact⟨Int.le_refl _,fun _=>by omega⟩
      · simp only[e,if_false];exact⟨Int.le_refl _,fun h=>h.elim⟩
    generalize (if p.2=i then(if L p.1+1>a then L p.1+1 else a)else a)=a' at b⊢;obtain⟨d,f⟩:=X5S L i ps a';refine⟨Int.le_trans b.1 d,fun q c e=>?_⟩;rcases jv.1 c with rfl|c
    · exact Int.le_trans (b.2 e) d
    · exact f q c e
theorem X5T (L:Nat->Int) (i:Nat) (b:Int):∀(ap:List (Nat×Nat)) (a:Int),a<=b->(∀p∈ap,p.2=i->L p.1+1<=b)->X4A L ap i a<=b
  | [],_,h,_=>h
  | p::ps,a,h,hp=>by
    unfold X4A;refine X5T L i b ps _ ?_ fun q c=>hp q (by simp[c])
    have:=hp p (by simp)
    split
    · rename_i e
      have:=this e;split<;>omega
    · exact h
theorem X65 (ap:List (Nat×Nat)) (L:Nat->Int):∀(k j:Nat),k<=j->Wy ap k L j=L j
  | 0,_,_=>rfl
  | k+1,j,h=>by
    unfold Wy;rw[if_neg (by omega)]
    exact X65 ap L k j (by omega)
theorem X2P {n:Nat} {c:Con} (g:X4w n c.ap):X5N n c (Wy c.ap n c.lo):=by
  have main:∀k,k<=n->(∀i,i<k->c.lo i<=Wy c.ap k c.lo i)/\(∀i,i+1<k->Wy c.ap k c.lo i<=Wy c.ap k c.lo (i+1))/\(∀p∈c.ap,p.2<k->Wy c.ap k c.lo p.1+1<=Wy c.ap k c.lo p.2) ∧
      ∀x,UpN n c x->∀i,i<k->Wy c.ap k c.lo i<=x i:=by
    intro k
    induction k with
    | zero=>intro _;exact⟨fun i h=>by omega,fun i h=>by omega,fun p _ h=>by omega,fun x _ i h=>by omega⟩
    | succ k ih =>
      intro w;obtain⟨r,o,q,m⟩:=ih (by omega)
      have a:∀j,j≠k->Wy c.ap (k+1) c.lo j=Wy c.ap k c.lo j:=fun j v=>by show(if j=k then _ else _)=_;rw[if_neg v]
      have b:Wy c.ap (k+1) c.lo k=up1 c.ap (Wy c.ap k c.lo) k:=by show(if k=k then _ else _)=_;rw[if_pos rfl]
      have f:Wy c.ap k c.lo k=c.lo k:=X65 _ _ _ _ (Nat.le_refl _);obtain⟨g1,g2⟩:=X5S (Wy c.ap k c.lo) k c.ap (if 0<k then(if Wy c.ap k c.lo (k-1)>Wy c.ap k c.lo k then Wy c.ap k c.lo (k-1)else Wy c.ap k c.lo k)else Wy c.ap k c.lo k);have g0:Wy c.ap k c.lo k<=(if 0<k then(if Wy c.ap k c.lo (k-1)>Wy c.ap k c.lo k then Wy c.ap k c.lo (k-1)else Wy c.ap k c.lo k)else Wy c.ap k c.lo k):=by
        split
        · split<;>omega
        · exact Int.le_refl _
      refine⟨fun i hi=>?_,fun i hi=>?_,fun p d hi=>?_,fun x l i hi=>?_⟩
      · by_cases e:i=k
        · subst e;rw[b,<-f];exact Int.le_trans g0 g1
        · rw[a i e];exact r i (by omega)
      · by_cases e:i+1=k
        · subst e
          rw[b,a i (by omega)]
          refine Int.le_trans ?_ g1;rw[if_pos (by omega),Nat.add_sub_cancel]
          split<;>omega
        · rw[a i (by omega),a (i+1) e];exact o i (by omega)
      · have:=g p d
        by_cases e:p.2=k
        · rw[e,b,a p.1 (by omega)];exact g2 p d e
        · rw[a p.1 (by omega),a p.2 e];exact q p d (by omega)
      · by_cases e:i=k
        · subst e
          rw[b];refine X5T _ _ _ _ _ ?_ fun p d e=>?_
          · have s:=l.1 i (by omega)
            rw[f];split
            · have:=m x l (i-1) (by omega)
              have t:=l.2.1 (i-1) (by omega)
              rw[Nat.sub_add_cancel (by omega)]at t
              split<;>omega
            · exact s
          · have y:=g p d
            have:=m x l p.1 (by omega)
            have u:=l.2.2 p d;rw[e]at u;omega
        · rw[a i e];exact m x l i (by omega)
  obtain⟨r,o,q,m⟩:=main n (Nat.le_refl _);exact⟨⟨r,o,fun p d=>q p d (g p d).2⟩,m⟩
def X4B (H:Nat->Int):List (Nat×Nat)->Nat->Int->Int
  | [],_,a=>a
  | p::ps,i,a=>X4B H ps i (if p.1=i then(if H p.2-1<a then H p.2-1 else a)else a)
def dn1 (n:Nat) (ap:List (Nat×Nat)) (H:Nat->Int) (i:Nat):Int:=X4B H ap i (if i+1<n then(if H (i+1)<H i then H (i+1)else H i)else H i)
def Ws (n:Nat) (ap:List (Nat×Nat)):Nat->(Nat->Int)->Nat->Int
  | 0,H=>H
  | k+1,H=>fun j=>if j=n-1-k then dn1 n ap (Ws n ap k H) (n-1-k)else Ws n ap k H j
theorem X5V (H:Nat->Int) (i:Nat):∀(ap:List (Nat×Nat)) (a:Int),X4B H ap i a<=a/\∀p∈ap,p.1=i->X4B H ap i a<=H p.2-1
  | [],a=>⟨Int.le_refl _,by simp⟩
  | p::ps,a=>by
    unfold X4B;have b:(if p.1=i then(if H p.2-1<a then H p.2-1 else a)else a)<=a/\(p.1=i->(if p.1=i then(if H p.2-1<a then H p.2-1 else a)else a)<=H p.2-1):=by
      by_cases e:p.1=i
      · by_cases e2:H p.2-1<a
        · simp only[e,e2,if_true];exact⟨by omega,fun _=>Int.le_refl _⟩
        · simp only[e,e2,if_true,if_false];exact⟨Int.le_refl _,fun _=>by omega⟩
      · simp only[e,if_false];exact⟨Int.le_refl _,fun h=>h.elim⟩
    generalize (if p.1=i then(if H p.2-1<a then H p.2-1 else a)else a)=a' at b⊢;obtain⟨d,f⟩:=X5V H i ps a';refine⟨Int.le_trans d b.1,fun q c e=>?_⟩;rcases jv.1 c with rfl|c
    · exact Int.le_trans d (b.2 e)
    · exact f q c e
theorem X5U (H:Nat->Int) (i:Nat) (b:Int):∀(ap:List (Nat×Nat)) (a:Int),b<=a->(∀p∈ap,p.1=i->b<=H p.2-1)->b<=X4B H ap i a
  | [],_,h,_=>h
  | p::ps,a,h,hp=>by
    unfold X4B;refine X5U H i b ps _ ?_ fun q c=>hp q (by simp[c])
    have:=hp p (by simp)
    split
    · rename_i e
      have:=this e;split<;>omega
    · exact h
theorem X6E (n:Nat) (ap:List (Nat×Nat)) (H:Nat->Int):∀(k j:Nat),k<=n->j+k<n->Ws n ap k H j=H j
  | 0,_,_,_=>rfl
  | k+1,j,hk,h=>by
    unfold Ws;rw[if_neg (by omega)]
    exact X6E n ap H k j (by omega) (by omega)
theorem X2N {n:Nat} {c:Con} (l:X4w n c.ap):X5M n c (Ws n c.ap n c.hi):=by
  have main:∀k,k<=n->(∀i,i<n->n<=i+k->Ws n c.ap k c.hi i<=c.hi i)/\(∀i,i+1<n->n<=i+k->Ws n c.ap k c.hi i<=Ws n c.ap k c.hi (i+1))/\(∀p∈c.ap,n<=p.1+k->Ws n c.ap k c.hi p.1+1<=Ws n c.ap k c.hi p.2) ∧
      ∀x,DnN n c x->∀i,i<n->n<=i+k->x i<=Ws n c.ap k c.hi i:=by
    intro k
    induction k with
    | zero=>intro _;exact⟨fun i h h'=>by omega,fun i h h'=>by omega,fun p d h=>by have:=l p d;omega,fun x _ i h h'=>by omega⟩
    | succ k ih =>
      intro y;obtain⟨t,r,s,o⟩:=ih (by omega)
      have a:∀j,j≠n-1-k->Ws n c.ap (k+1) c.hi j=Ws n c.ap k c.hi j:=fun j v=>by show(if j=n-1-k then _ else _)=_;rw[if_neg v]
      have b:Ws n c.ap (k+1) c.hi (n-1-k)=dn1 n c.ap (Ws n c.ap k c.hi) (n-1-k):=by show(if n-1-k=n-1-k then _ else _)=_;rw[if_pos rfl]
      have f:Ws n c.ap k c.hi (n-1-k)=c.hi (n-1-k):=X6E _ _ _ _ _ (by omega) (by omega)
      obtain⟨g1,g2⟩:=X5V (Ws n c.ap k c.hi) (n-1-k) c.ap (if n-1-k+1<n then(if Ws n c.ap k c.hi (n-1-k+1)<Ws n c.ap k c.hi (n-1-k)then Ws n c.ap k c.hi (n-1-k+1)else Ws n c.ap k c.hi (n-1-k))else Ws n c.ap k c.hi (n-1-k));have g0:(if n-1-k+1<n then(if Ws n c.ap k c.hi (n-1-k+1)<Ws n c.ap k c.hi (n-1-k)then Ws n c.ap k c.hi (n-1-k+1)else Ws n c.ap k c.hi (n-1-k))else Ws n c.ap k c.hi (n-1-k))<=Ws n c.ap k c.hi (n-1-k):=by
        split
        · split<;>omega
        · exact Int.le_refl _
      refine⟨fun i hi m=>?_,fun i hi m=>?_,fun p d hi=>?_,fun x g i hi m=>?_⟩
      · by_cases e:i=n-1-k
        · rw[e,b,<-f];exact Int.le_trans g1 g0
        · rw[a i e];exact t i hi (by omega)
      · by_cases e:i=n-1-k
        · rw[e,b,a (n-1-k+1) (by omega)]
          refine Int.le_trans g1 ?_;rw[if_pos (by omega)]
          split<;>omega
        · rw[a i e,a (i+1) (by omega)];exact r i hi (by omega)
      · have:=l p d
        by_cases e:p.1=n-1-k
        · have:=g2 p d e
          rw[e,b,a p.2 (by omega)]
          unfold dn1;omega
        · rw[a p.1 e,a p.2 (by omega)];exact s p d (by omega)
      · by_cases e:i=n-1-k
        · rw[e,b]
          refine X5U _ _ _ _ _ ?_ fun p d e'=>?_
          · have q:=g.1 i hi
            rw[e]at q;rw[f];split
            · have:=o x g (n-1-k+1) (by omega) (by omega)
              have w:=g.2.1 (n-1-k) (by omega)
              split<;>omega
            · exact q
          · have z:=l p d
            have:=o x g p.2 (by omega) (by omega)
            have u:=g.2.2 p d;rw[e']at u;omega
        · rw[a i e];exact o x g i hi (by omega)
  obtain⟨t,r,s,o⟩:=main n (Nat.le_refl _);exact⟨⟨fun i hi=>t i hi (by omega),fun i hi=>r i hi (by omega),fun p d=>s p d (by omega)⟩,fun x g i hi=>o x g i hi (by omega)⟩
def X2a (n:Nat) (c:Con):Nat->Int:=Wy c.ap n c.lo
def X29 (n:Nat) (c:Con):Nat->Int:=Ws n c.ap n c.hi
def okN (n:Nat) (c:Con):Bool:=(List.range n).all fun i=>decide (X2a n c i<=X29 n c i)
theorem X4e {n:Nat} {c:Con}:okN n c=true↔∀i,i<n->X2a n c i<=X29 n c i:=by
  unfold okN;rw[List.all_eq_true];exact⟨fun h i hi=>by simpa using h i (List.mem_range.2 hi),fun h i hi=>by simpa using h i (List.mem_range.1 hi)⟩
abbrev Str:=Int×Nat
def W0 (n:Nat) (c:Con) (s:Str) (a b:Int):Con where
  hi:=fun i=>if 0<=s.1/\i=s.1.toNat then(if b<c.hi i then b else c.hi i)else c.hi i
  lo:=fun i=>if s.2<n/\i=s.2 then(if a+1>c.lo i then a+1 else c.lo i)else c.lo i
  ap:=if 0<=s.1/\s.2<n then c.ap++[(s.1.toNat,s.2)]else c.ap
def X3A (n:Nat) (s:Str):Prop:=s.1<s.2/\s.2<=n /\ -1<=s.1
theorem X6F {n:Nat} {c:Con} (h:X4w n c.ap) {s:Str} (e:X3A n s) (a b:Int):X4w n (W0 n c s a b).ap:=by
  unfold W0;simp only;split
  · rename_i hc
    intro p d;rcases List.mem_append.1 d with d|d
    · exact h p d
    · simp only[List.mem_singleton]at d
      subst d;unfold X3A at e;simp only;omega
  · exact h
theorem X50 {n:Nat} {c:Con} {s:Str} {a b:Int} {x:Nat->Int}:ApN (W0 n c s a b).ap x↔ApN c.ap x/\(0<=s.1->s.2<n->x s.1.toNat+1<=x s.2):=by
  unfold W0 ApN;simp only;split
  · rename_i hc
    constructor
    · intro h
      exact⟨fun p d=>h p (List.mem_append.2 (.inl d)),fun _ _=>h (s.1.toNat,s.2) (List.mem_append.2 (.inr (by simp)))⟩
    · rintro⟨f,e⟩ p d
      rcases List.mem_append.1 d with d|d
      · exact f p d
      · simp only[List.mem_singleton]at d
        subst d;exact e hc.1 hc.2
  · rename_i hc
    exact⟨fun h=>⟨h,fun f e=>absurd ⟨f,e⟩ hc⟩,fun h=>h.1⟩
theorem X6H {n:Nat} {c:Con} {s:Str} {a b:Int} {x:Nat->Int}:UpN n (W0 n c s a b) x↔UpN n c x/\(s.2<n->a+1<=x s.2)/\(0<=s.1->s.2<n->x s.1.toNat+1<=x s.2):=by
  unfold UpN;rw[X50];have e:(∀i,i<n->(W0 n c s a b).lo i<=x i)↔(∀i,i<n->c.lo i<=x i)/\(s.2<n->a+1<=x s.2):=by
    unfold W0;simp only;constructor
    · intro h
      refine⟨fun i hi=>?_,fun l=>?_⟩
      · have:=h i hi
        split at this
        · split at this<;>omega
        · exact this
      · have:=h s.2 l
        rw[if_pos ⟨l,rfl⟩]at this;split at this<;>omega
    · rintro⟨f,d⟩ i hi
      have:=f i hi;split
      · rename_i hc
        have g:=d hc.1;rw[<-hc.2]at g;split<;>omega
      · exact this
  rw[e];constructor
  · rintro⟨⟨f,d⟩,g,j,k⟩;exact⟨⟨f,g,j⟩,d,k⟩
  · rintro⟨⟨f,g,j⟩,d,k⟩;exact⟨⟨f,d⟩,g,j,k⟩
theorem X6G {n:Nat} {c:Con} {s:Str} (m:X3A n s) {a b:Int} {x:Nat->Int}:DnN n (W0 n c s a b) x↔DnN n c x/\(0<=s.1->x s.1.toNat<=b)/\(0<=s.1->s.2<n->x s.1.toNat+1<=x s.2):=by
  unfold DnN;rw[X50];have e:(∀i,i<n->x i<=(W0 n c s a b).hi i)↔(∀i,i<n->x i<=c.hi i)/\(0<=s.1->x s.1.toNat<=b):=by
    unfold W0;unfold X3A at m;simp only;constructor
    · intro h
      refine⟨fun i hi=>?_,fun l=>?_⟩
      · have:=h i hi
        split at this
        · split at this<;>omega
        · exact this
      · have:=h s.1.toNat (by omega)
        rw[if_pos ⟨l,rfl⟩]at this;split at this<;>omega
    · rintro⟨g,d⟩ i hi
      have:=g i hi;split
      · rename_i hc
        have f:=d hc.1;rw[<-hc.2]at f;split<;>omega
      · exact this
  rw[e];constructor
  · rintro⟨⟨g,d⟩,f,j,k⟩;exact⟨⟨g,f,j⟩,d,k⟩
  · rintro⟨⟨g,f,j⟩,d,k⟩;exact⟨⟨g,d⟩,f,j,k⟩
def EqC (n:Nat) (c c':Con):Prop:=(∀x,UpN n c x↔UpN n c' x)/\∀x,DnN n c x↔DnN n c' x
theorem EqC.saw {n:Nat} {c c':Con} (h:EqC n c c') {s:Str} (d:X3A n s) (a b:Int):EqC n (W0 n c s a b) (W0 n c' s a b) :=
  ⟨fun x=>by rw[X6H,X6H,h.1],fun x=>by rw[X6G d,X6G d,h.2]⟩
theorem EqC.lo {n:Nat} {c c':Con} (h:EqC n c c') (a:X4w n c.ap) (b:X4w n c'.ap) (i:Nat) (hi:i<n):X2a n c i=X2a n c' i:=X6U (X2P a) (X2P b) h.1 i hi
theorem EqC.hi {n:Nat} {c c':Con} (h:EqC n c c') (a:X4w n c.ap) (b:X4w n c'.ap) (i:Nat) (hi:i<n):X29 n c i=X29 n c' i:=X6T (X2N a) (X2N b) h.2 i hi
theorem EqC.ok {n:Nat} {c c':Con} (h:EqC n c c') (b:X4w n c.ap) (a:X4w n c'.ap):okN n c=okN n c':=by
  have:okN n c=true↔okN n c'=true:=by
    rw[X4e,X4e];exact⟨fun k i hi=>by rw[<-h.lo b a i hi,<-h.hi b a i hi];exact k i hi,fun k i hi=>by rw[h.lo b a i hi,h.hi b a i hi];exact k i hi⟩
  cases h3:okN n c<;>cases h4:okN n c'<;>simp_all
def X2J (n:Nat) (c:Con):Con:=⟨X2a n c,X29 n c,c.ap⟩
theorem X5I {n:Nat} {c:Con} (h:X4w n c.ap):EqC n c (X2J n c) :=
  ⟨fun x=>⟨fun a=>⟨fun i hi=>(X2P h).least x a i hi,a.2⟩,fun a=>⟨fun i hi=>Int.le_trans ((X2P h).up.1 i hi) (a.1 i hi),a.2⟩⟩,
   fun x=>⟨fun a=>⟨fun i hi=>(X2N h).great x a i hi,a.2⟩,fun a=>⟨fun i hi=>Int.le_trans (a.1 i hi) ((X2N h).dn.1 i hi),a.2⟩⟩⟩
structure Wit where
  strs:List Str
  a:Int
  b:Int
def X72 (n:Nat) (w:Wit):Prop:=∀s∈w.strs,X3A n s
def Xj (n:Nat):List Wit->Con->List Con
  | [],c=>if okN n c then [X2J n c]else []
  | w::ws,c=>if okN n c then w.strs.flatMap fun s=>Xj n ws (W0 n c s w.a w.b)else []
def X1x (n:Nat):List Wit->Con->List Con
  | [],c=>if okN n c then [X2J n c]else []
  | w::ws,c=>if okN n c then w.strs.flatMap fun s=>X1x n ws (W0 n (X2J n c) s w.a w.b)else []
def X6A (n:Nat) (c c':Con):Prop:=(∀i,i<n->c.lo i=c'.lo i)/\∀i,i<n->c.hi i=c'.hi i
def X5a {α β:Type} (R:α->β->Prop):List α->List β->Prop
  | [],[]=>True
  | a::la,b::lb=>R a b/\X5a R la lb
  | _,_=>False
theorem X68 {α β:Type} {R:α->β->Prop}:∀{la:List α} {lb:List β} {la':List α} {lb':List β},X5a R la lb->X5a R la' lb'->X5a R (la++la') (lb++lb')
  | [],[],_,_,_,h=>h
  | _::_,_::_,_,_,h,h'=>⟨h.1,X68 h.2 h'⟩
  | [],_::_,_,_,h,_=>h.elim
  | _::_,[],_,_,h,_=>h.elim
theorem X5F {α β γ:Type} {R:β->γ->Prop} {f:α->List β} {g:α->List γ}:∀(l:List α),(∀a∈l,X5a R (f a) (g a))->X5a R (l.flatMap f) (l.flatMap g)
  | [],_=>trivial
  | a::l,h=>by
    rw[List.flatMap_cons,List.flatMap_cons];exact X68 (h a (by simp)) (X5F l fun b c=>h b (by simp[c]))
theorem X4X {n:Nat}:∀(ws:List Wit) (c c':Con),(∀w∈ws,X72 n w)->X4w n c.ap->X4w n c'.ap->EqC n c c'->X5a (X6A n) (Xj n ws c) (X1x n ws c')
  | [],c,c',_,h1,h2,h=>by
    unfold Xj X1x;rw[h.ok h1 h2];split
    · exact⟨⟨fun i hi=>h.lo h1 h2 i hi,fun i hi=>h.hi h1 h2 i hi⟩,trivial⟩
    · exact trivial
  | w::ws,c,c',hw,h1,h2,h=>by
    unfold Xj X1x;rw[h.ok h1 h2];split
    · refine X5F _ fun s a=>X4X ws _ _ (fun v hv=>hw v (by simp[hv])) (X6F h1 (hw w (by simp) s a) _ _) (X6F (c:=X2J n c') h2 (hw w (by simp) s a) _ _) ?_
      have:EqC n c (X2J n c'):=⟨fun x=>(h.1 x).trans ((X5I h2).1 x),fun x=>(h.2 x).trans ((X5I h2).2 x)⟩;exact this.saw (hw w (by simp) s a) _ _
    · exact trivial
end Nore
open Go Go.Ab
namespace Nore
def X1F (lo hi:Int) (l:List Int):Bool:=l.any fun n=>decide (n<lo)||decide (n>hi)
theorem X4C (lo hi:Int):X1F lo hi []=false:=rfl
theorem X4f (lo hi n:Int) (l:List Int):X1F lo hi (n::l)=(decide (n<lo)||decide (n>hi)||X1F lo hi l):=rfl
def inN (n lo hi:Int):Bool:=decide (lo<=n)&&decide (n<=hi)
theorem X3Y (n lo hi:Int):X3e n lo hi=some (inN n lo hi):=by
  unfold X3e inN
  by_cases h:lo<=n<;>simp[h]
def X3U:Int->List UInt8->Option Int
  | last,[]=>some last
  | last,c::l=>if 97<=(c.toNat:Int)/\(c.toNat:Int)<=122 then X3U c.toNat l else if(c.toNat:Int)≠45\/last=45 then none else X3U c.toNat l
def X3o:Option Int->Bool
  | none=>false
  | some last=>last != 45
def X4n (s:ByteArray):Bool:=decide (s.size<=14)&&X3o (X3U 45 s.toList)
theorem X6L (s:ByteArray) (i:Nat) (h:(s.get! i).toNat<128):Utf8.decode s i=((s.get! i).toNat,1):=by
  unfold Utf8.decode;simp only[Nat.add_zero];rw[if_pos h]
theorem X6K (s:ByteArray) (i:Nat) (h:¬(s.get! i).toNat<128):128<=(Utf8.decode s i).1:=by
  unfold Utf8.decode;simp only[Nat.add_zero,Utf8.runeError];rw[if_neg h]
  repeat' split
  all_goals simp_all
  all_goals omega
theorem X1L (s:ByteArray):s.toList.length=s.size:=by rw[ByteArray.toList_eq];rfl
theorem X6o (s:ByteArray) (i:Nat) (h:i<s.toList.length):s.get! i=s.toList[i]:=by
  have a:i<s.size:=by rw[<-X1L];exact h
  simp only[ByteArray.toList_eq];show(s.data[i]!)=_;have b:i<s.data.size:=a;rw[getElem!_pos s.data i b];rfl
theorem X5v (s:ByteArray):X3y s=some (X4n s):=by
  have key:=X1u (X1e s s) (fun o0=>Sum.elim (fun y1:Bool×Nat=>some y1.fst) (fun y2:Int×Nat=>bif decide ((↑(ByteArray.size s):Int)<=14)then some (y2.fst != 45)else some false) o0) s.toList.length (fun i (b:Int)=>(b,i)) (fun _ _=>True) (fun i b=>some (decide (s.size<=14)&&X3o (X3U b (s.toList.drop i))))
    (by
      intro b _ R;have hh:(decide ((↑s.size:Int)<=14))=decide (s.size<=14):=by rw[decide_eq_decide];omega
      have j:s.toList.drop s.size=[]:=jd (by rw[X1L];exact Nat.le_refl _)
      simp only[j,X3U,X3o,X1e,X1g,X1L,hh,Nat.lt_irrefl,decide_false,jA,jS,jy];cases decide (s.size<=14)<;>simp)
    (by
      intro i b hi _ R k;have f:i<s.size:=by rw[<-X1L];exact hi
      have g:=X6o s i hi;simp only[X1e,X1g];rw[jb hi];simp only[X3U]
      by_cases h:(s.get! i).toNat<128
      · rw[X6L s i h]
        have e:=k ((s.get! i).toNat:Int) trivial;rw[g]at *;generalize s.toList[i]=c at *;simp only[f,decide_true,jB]
        by_cases h1:97<=(c.toNat:Int)
        · have q1:decide ((c.toNat:Int)>=97)=true:=decide_eq_true h1
          by_cases h2:(c.toNat:Int)<=122
          · have q2:decide ((c.toNat:Int)<=122)=true:=decide_eq_true h2
            simp only[decide_true,decide_false,q1,q2,jB,jS,jw,h1,h2,and_self,if_true];exact e
          · have q2:decide ((c.toNat:Int)<=122)=false:=decide_eq_false h2
            have a:¬((c.toNat:Int)=45):=by omega
            have q3:((c.toNat:Int) != 45)=true:=bne_iff_ne.2 a;simp only[decide_true,decide_false,q1,q2,q3,jB,jA,jS,jw,jy,h2,and_false,if_false,ne_eq,a,not_false_iff,true_or,if_true,X3o,Bool.and_false]
        · have q1:decide ((c.toNat:Int)>=97)=false:=decide_eq_false h1
          by_cases a:(c.toNat:Int)=45
          · have q3:((c.toNat:Int) != 45)=false:=by rw[a];rfl
            by_cases h4:b=45
            · have q4:(b==45)=true:=by rw[h4];rfl
              rw[q1,q3,q4,if_neg (fun hc=>h1 hc.1),if_pos (Or.inr h4)];simp[X3o]
            · have q4:(b==45)=false:=beq_eq_false_iff_ne.2 h4
              simp only[decide_true,decide_false,q1,q3,q4,jB,jA,jS,jw,jy,h1,false_and,if_false,h4,ne_eq,a,not_true,or_self,if_true];rw[a]at e;exact e
          · have q3:((c.toNat:Int) != 45)=true:=bne_iff_ne.2 a
            simp only[decide_true,decide_false,q1,q3,jB,jA,jS,jw,jy,h1,false_and,if_false,ne_eq,a,not_false_iff,true_or,if_true,X3o,Bool.and_false]
      · have h':=X6K s i h
        rw[g]at h;generalize s.toList[i]=c at *;simp only[f,decide_true,jB];generalize (Utf8.decode s i)=d at *;have e1:((d.1:Nat):Int)>=97:=by omega
        have e2:¬((d.1:Nat):Int)<=122:=by omega
        have e3:¬((d.1:Nat):Int)=45:=by omega
        have e4:¬((c.toNat:Int)<=122):=by omega
        have e5:¬((c.toNat:Int)=45):=by omega
        have q1:decide (((d.1:Nat):Int)>=97)=true:=decide_eq_true e1;have q2:decide (((d.1:Nat):Int)<=122)=false:=decide_eq_false e2;have q3:(((d.1:Nat):Int) != 45)=true:=bne_iff_ne.2 e3;simp only[decide_true,decide_false,q1,q2,q3,jB,jA,jS,jw,jy,e4,and_false,if_false,ne_eq,e5,not_false_iff,true_or,if_true,X3o,Bool.and_false])
  exact(key 0 45 (by omega) trivial).trans (by simp[X4n])
theorem X5y (s:ByteArray):X3d s=some (X4n s):=by
  unfold X3d;rw[X3Y];simp only[jS]
  by_cases hsz:1<=s.size/\s.size<=14
  · have e1:inN (↑s.size) 1 14=true:=by simp[inN];omega
    rw[e1];simp only[Bool.not_true,jA];have o:=X1L s;have key:=X1u (X1f s) (fun o0=>Sum.elim (fun y76:Bool=>some y76) (fun _:Unit=>some true) o0) s.toList.length (fun i (_:Int)=>(i:Int)) (fun i b=>b=if i=0 then 45 else((s.toList.getD (i-1) 0).toNat:Int)) (fun i b=>some (if i<s.toList.length then X3o (X3U b (s.toList.drop i))else true))
      (by
        intro b _ R;simp[X1f,X1m,X1L])
      (by
        intro i b hi j R n;have m:i<s.size:=by rw[<-X1L];exact hi
        simp only[X1f,X1m];rw[jb hi];have a:=n ((s.toList[i]).toNat:Int) (by simp[List.getD,hi])
        have l:=wS i (by omega)
        have f:IntKind.wrap .i64 ((i:Int)-1)=((i:Int)-1):=by rw[w64]<;>omega
        have e:IntKind.wrap .i64 ((s.size:Int)-1)=((s.size:Int)-1):=by rw[w64]<;>omega
        simp only[X3U,kS,XI _ _ _ hi,l,f,e];have d1:decide ((i:Int)<↑s.size)=true:=by simp[m]
        have d2:=z0S i;simp only[d1,d2,ju,jB,hi,if_true];generalize hc:s.toList[i]=c at *
        by_cases h1:97<=(c.toNat:Int)/\(c.toNat:Int)<=122
        · have q1:decide ((c.toNat:Int)>=97)=true:=decide_eq_true h1.1
          have q2:decide ((c.toNat:Int)<=122)=true:=decide_eq_true h1.2;simp only[decide_true,decide_false,q1,q2,jB,jS,jw,h1,and_self,if_true];have d:¬((c.toNat:Int)=45):=by omega
          rw[a]
          by_cases hi2:i+1<s.toList.length
          · simp[hi2]
          · have:s.toList.drop (i+1)=[]:=jd (by omega)
            simp[hi2,this,X3U,X3o,d]
        · have g:(bif decide ((c.toNat:Int)>=97)then bif decide ((c.toNat:Int)<=122)then true else false else false)=false:=by
            by_cases a1:(c.toNat:Int)>=97
            · by_cases a2:(c.toNat:Int)<=122
              · exact absurd ⟨a1,a2⟩ h1
              · simp[a1,a2]
            · simp[a1]
          have g2:∀(Z:Type) (x y:Z),(bif decide ((c.toNat:Int)>=97)then bif decide ((c.toNat:Int)<=122)then x else y else y)=y:=by
            intro Z x y
            by_cases a1:(c.toNat:Int)>=97
            · by_cases a2:(c.toNat:Int)<=122
              · exact absurd ⟨a1,a2⟩ h1
              · simp[a1,a2]
            · simp[a1]
          rw[g2,if_neg h1]
          by_cases h2:(c.toNat:Int)=45
          · simp only[h2,bne_self_eq_false,jA]
            by_cases h3:i=0
            · subst h3
              simp[j,X3o]
            · by_cases h4:i+1=s.size
              · have:s.toList.drop (i+1)=[]:=jd (by omega)
                have e5:(i:Int)=(s.size:Int)-1:=by omega
                have e6:((s.size:Int)-1==0)=false:=by simp;omega
                simp only[e5,e6,this,X3U]
                by_cases h5:b=45<;>simp[h5,X3o]
              · have e5:((i:Int)==(s.size:Int)-1)=false:=by simp;omega
                have e6:((i:Int)==0)=false:=by simp;omega
                have e7:(0:Int)<=(i:Int)-1:=by omega
                have e8:(i:Int)-1<(s.size:Int):=by omega
                have e9:((i:Int)-1).toNat=i-1:=by omega
                simp only[e5,e6,e7,e8,e9,jA,decide_true,ju,jB];simp only[h3,if_false]at j;rw[<-j]
                by_cases h5:b=45
                · simp[h5,X3o]
                · have q5:(b==45)=false:=beq_eq_false_iff_ne.2 h5
                  rw[h2]at a;rw[q5];simp only[jA,jS,jw,ne_eq,not_true,false_or,h5,if_false];rw[a];simp[show i+1<s.toList.length by omega]
          · have:((c.toNat:Int) != 45)=true:=by simp[h2]
            simp[this,h2,X3o])
    have:=key 0 45 (by omega) (by simp)
    refine this.trans ?_;simp[X4n,show 0<s.toList.length by omega,hsz.2]
  · have e1:inN (↑s.size) 1 14=false:=by
      simp[inN];omega
    rw[e1];simp only[Bool.not_false,jB,X4n]
    by_cases h:s.size<=14
    · have k:s.toList=[]:=by
        apply List.eq_nil_of_length_eq_zero;rw[X1L];omega
      simp[k,X3U,X3o]
    · simp[h]
theorem X4d (n lo hi:Int):inN n lo hi = !X1F lo hi [n]:=by
  simp only[inN,X4f,X4C,Bool.or_false,Bool.not_or];congr 1<;>rw[<-decide_not,decide_eq_decide]<;>omega
def X4i (lo hi:Int):Int->List ZZ->Int
  | e,[]=>e
  | e,s::l=>if X1F lo hi [s.Lo,s.Hi]then 7 else X4i lo hi (if s.Lo>s.Hi then 2 else e) l
theorem X56 (l:List ZZ) (lo hi:Int) (h:l.length<1000000):X2K l lo hi=some (X4i lo hi 0 l):=by
  unfold X2K;exact X1u (WE lo l hi) _ l.length (fun i (b:Int)=>(b,(i:Int))) (fun _ _=>True) (fun i b=>some (X4i lo hi b (l.drop i)))
      (by
        intro b _ R;simp[WE,WJ,X4i])
      (by
        intro i b c _ R d;simp only[WE,WJ];rw[jb c];have e:=wS i (by omega)
        simp only[kS,XI _ _ _ c,X4i,e];rw[X3Y,X3Y,X4d,X4d];have g:decide ((i:Int)<↑l.length)=true:=by simp[c]
        have f:=z0S i;simp only[g,f,ju,jB,jS];have a:X1F lo hi [l[i].Lo,l[i].Hi]=(X1F lo hi [l[i].Lo]||X1F lo hi [l[i].Hi]):=by simp[X1F]
        rw[a];cases h3:X1F lo hi [l[i].Lo]
        · cases h4:X1F lo hi [l[i].Hi]
          · by_cases h5:l[i].Lo>l[i].Hi
            · have:=d 2 trivial
              simp only[h5];simp;simpa using this
            · have:=d b trivial
              simp only[h5];simp;simpa using this
          · simp
        · simp) 0 0 (by omega) trivial
theorem Z94 (a b:ByteArray):(a==b)=(a.data==b.data):=by cases a;cases b;rfl
instance:LawfulBEq ByteArray where
  rfl:=by intro a;rw[Z94];simp
  eq_of_beq:=by
    intro a b h;rw[Z94]at h;have:=eq_of_beq h;cases a;cases b;simp only at this;rw[this]
instance:DecidableEq ByteArray:=fun a b=>if h:(a==b)=true then isTrue (eq_of_beq h)else isFalse (fun e=>h (by rw[e];simp))
def X3T (s:ByteArray) (names:List ByteArray):Int:=if X4n s then(if s∈names then 5 else 0)else 6
theorem X5s {a b:ByteArray} (h:a.toList=b.toList):a=b:=by
  cases a;cases b;simp only[ByteArray.toList_eq]at h;congr 1;exact Array.ext' h
theorem X5l (s:ByteArray) (names:List ByteArray) (j:names.length<1000000):X2V s names=some (X3T s names):=by
  unfold X2V X3T;rw[X5y];simp only[jS];cases X4n s
  · simp
  · simp only[Bool.not_true,jA,if_true]
    unfold X3q;have key:=X1u (Ww s names) (fun o78=>Option.bind (Sum.elim (fun y79:Int=>some y79) (fun _:Unit=>some (-1)) o78) fun r82=>bif decide (r82>=0)then some (5:Int)else some 0) names.length (fun i (_:Unit)=>(i:Int)) (fun _ _=>True) (fun i _=>some (if s∈names.drop i then 5 else 0))
      (by
        intro b _ R;simp[Ww,X10])
      (by
        intro i b hi _ R f;have c:=f () trivial;simp only[Ww,X10];rw[jb hi];have d:=wS i (by omega)
        simp only[kS,XI _ _ _ hi,d];have g:decide ((i:Int)<↑names.length)=true:=by simp[hi]
        have e:=z0S i;simp only[g,e,ju,jB]
        by_cases h:names[i]=s
        · simp[h]
        · have h':(names[i].toList==s.toList)=false:=by
            simp only[beq_eq_false_iff_ne];intro hh;exact h (X5s hh)
          have a:¬s=names[i]:=fun hh=>h hh.symm;simp only[h',jA,jS,jw,jv,a,false_or];exact c)
    have:=key 0 () (by omega) trivial
    simp only[List.drop_zero]at this;rw[<-this];show Option.bind (Option.bind _ _) _=Option.bind _ _;unfold X2v;simp only[Int.natCast_zero];cases Za2 (Ww s names) 0<;>rfl
end Nore
open Go Go.Ab
namespace Nore
theorem X6t (l:List ZZ) (e:l.length<1000000):X3s l l=some true:=by
  rw[X3W];unfold X23;obtain⟨w,d,c⟩:=WD (WP l l) l.length (fun i (_:Unit)=>(i:Int)) (fun _ _=>True) (fun w=>w=.inr ())
    (fun _ _=>⟨.inr (),by simp[WP,X11],rfl⟩)
    (fun i _ hi _=>by
      right;refine⟨(),?_,trivial⟩;have b:=wS i (by omega)
      have e1:decide ((i:Int)<↑l.length)=true:=by simp[hi]
      have e2:=z0S i;simp only[WP,X11,kS,b,e1,e2,ju,jB,beq_self_eq_true,Bool.not_true,jA]) 0 () (by omega) trivial
  subst c;have a:X2w l l 0=some (.inr ()):=d;rw[a];simp
end Nore
open Go Go.Ab
namespace Nore
def spN (L H:Nat->Int):Nat->ZZ:=fun j=>⟨L j,H j⟩
def X2s (f:Nat->ZZ) (k:Nat) (s:ZZ):Nat->ZZ:=fun j=>bif Nat.beq j k then s else f j
theorem X6k (f:Nat->ZZ) (k:Nat) (s s':ZZ):(fun j=>bif Nat.beq j k then s' else X2s f k s j)=X2s f k s':=by
  funext j;unfold X2s;cases Nat.beq j k<;>rfl
theorem X6j (f:Nat->ZZ) (k:Nat) (s:ZZ):X2s f k s k=s:=by unfold X2s;simp
theorem X5q (f:Nat->ZZ) {k j:Nat} (s:ZZ) (h:j≠k):X2s f k s j=f j:=by
  unfold X2s;cases e:Nat.beq j k with
  | false=>rfl
  | true=>exact absurd (je e) h
def X3 (ap:List Z8):List (Nat×Nat):=ap.map fun s=>(s.from_.toNat,s.to_.toNat)
def X66 (ap:List Z8):Prop:=ap.length<=1000/\∀s∈ap,0<=s.from_/\s.from_<s.to_/\s.to_<10
def BdN (L:Nat->Int):Prop:=∀i,-1000000<=L i/\L i<=1000000
theorem X6M (L:Nat->Int) (p:Nat×Nat) (ps:List (Nat×Nat)) (i:Nat) (a:Int):X4A L (p::ps) i a=X4A L ps i (if p.2=i then(if L p.1+1>a then L p.1+1 else a)else a):=rfl
theorem X6N (H:Nat->Int) (p:Nat×Nat) (ps:List (Nat×Nat)) (i:Nat) (a:Int):X4B H (p::ps) i a=X4B H ps i (if p.1=i then(if H p.2-1<a then H p.2-1 else a)else a):=rfl
theorem X4H (ap:List Z8) (f:X66 ap) (L H:Nat->Int) (hL:BdN L) (k:Nat) (t:k<10) (a:Int) (s : -1000000<=a/\a<=1000001) (x1 x3:Int) (x6:List Z8) (x9:Z9) (x10:Nat->ZZ) :
    Wh (ap.length:Int) x1 (k:Int) x3 (k:Int) x6 ap x9 x10 (0,X2s (spN L H) k ⟨a,H k⟩)=some (X2s (spN L H) k ⟨X4A L (X3 ap) k a,H k⟩):=by
  obtain⟨w,o,n⟩:=WD (Xw (ap.length:Int) x1 (k:Int) x3 (k:Int) x6 ap x9 x10) ap.length (fun i (b:Nat->ZZ)=>((i:Int),b))
    (fun i b=>∃a',(-1000000<=a'/\a'<=1000001)/\b=X2s (spN L H) k ⟨a',H k⟩/\X4A L (X3 (ap.drop i)) k a'=X4A L (X3 ap) k a) (fun w=>w=X2s (spN L H) k ⟨X4A L (X3 ap) k a,H k⟩)
    (fun b ⟨a',_,e,h⟩=>⟨_,by simp[Xw,Xc];rfl,by
      rw[e,<-h,List.drop_length];rfl⟩)
    (fun i b hi ⟨a',m,e,h⟩=>by
      right;have g:ap[i]∈ap:=jl hi;obtain⟨s1,s2,s3⟩:=f.2 _ g;have j:ap.getD i ⟨0,0⟩=ap[i]:=XI _ _ _ hi;have e1:decide ((i:Int)<(ap.length:Int))=true:=by simp;omega
      have w1:=wS i (by have:=f.1;omega)
      have c:X3 (ap.drop i)=(ap[i].from_.toNat,ap[i].to_.toNat)::X3 (ap.drop (i+1)):=by
        rw[jb hi];rfl
      rw[c,X6M]at h;simp only at h;simp only[Xw,Xc,e1,z0S,ju,jB,kS,j,w1]
      by_cases ht:ap[i].to_=(k:Int)
      · have p:ap[i].from_.toNat≠k:=by omega
        have c1:(ap[i].to_==(k:Int))=true:=by simp[ht]
        have c2:decide ((k:Int)<(10:Int))=true:=by simp;omega
        have c3:Nat.blt k 10=true:=by simp[Nat.blt_eq];omega
        have c4:decide (0<=ap[i].from_)=true:=by simp[s1]
        have c5:decide (ap[i].from_<(10:Int))=true:=by simp;omega
        have c6:Nat.blt ap[i].from_.toNat 10=true:=by rw[Nat.blt_eq];omega
        have hv:=hL ap[i].from_.toNat;have r:(b ap[i].from_.toNat).Lo=L ap[i].from_.toNat:=by rw[e,X5q _ _ p];rfl
        have q:b k=⟨a',H k⟩:=by rw[e,X6j]
        have w2:IntKind.wrap .i64 (L ap[i].from_.toNat+1)=L ap[i].from_.toNat+1:=by rw[w64]<;>omega
        simp only[c1,c2,c3,c4,c5,c6,jB,ju,r,q,w2];have d:ap[i].to_.toNat=k:=by omega
        rw[if_pos d]at h;refine⟨_,rfl,(if L ap[i].from_.toNat+1>a' then L ap[i].from_.toNat+1 else a'),by split<;>omega,?_,h⟩
        rw[e,X6k]
        by_cases hc:L ap[i].from_.toNat+1>a'<;>simp[hc]
      · have c1:(ap[i].to_==(k:Int))=false:=X3B ht
        simp only[c1,jA];have d:¬ap[i].to_.toNat=k:=by omega
        rw[if_neg d]at h;exact⟨_,rfl,a',m,e,h⟩) 0 _ (Nat.zero_le _) ⟨a,s,rfl,rfl⟩
  have l:Wh (ap.length:Int) x1 (k:Int) x3 (k:Int) x6 ap x9 x10 (0,X2s (spN L H) k ⟨a,H k⟩)=some w:=o;rw[l,n]
theorem X60 (ap:List Z8) (b:X66 ap) (L H:Nat->Int) (hL:BdN L) (k:Nat) (c:k<10) (a:Int) (d : -1000000<=a/\a<=1000001) (x1 x3:Int) (x6:List Z8) (x9:Z9) (x10:Nat->ZZ) :
    X1a (ap.length:Int) x1 (k:Int) x3 (k:Int) x6 ap x9 x10 (0,X2s (spN L H) k ⟨a,H k⟩)=some (X2s (spN L H) k ⟨X4A L (X3 ap) k a,H k⟩) :=
  X4H ap b L H hL k c a d x1 x3 x6 x9 x10
theorem X4I (ap:List Z8) (f:X66 ap) (L H:Nat->Int) (r:BdN H) (k:Nat) (u:k<10) (a:Int) (t : -1000001<=a/\a<=1000000) (x2:Int) (x5:List Z8) (x7:Z9) (x8:Nat->ZZ) :
    Wj ap x2 (ap.length:Int) (k:Int) x5 x7 x8 (0,X2s (spN L H) k ⟨L k,a⟩)=some (X2s (spN L H) k ⟨L k,X4B H (X3 ap) k a⟩):=by
  obtain⟨w,o,n⟩:=WD (Xy ap x2 (ap.length:Int) (k:Int) x5 x7 x8) ap.length (fun i (b:Nat->ZZ)=>((i:Int),b))
    (fun i b=>∃a',(-1000001<=a'/\a'<=1000000)/\b=X2s (spN L H) k ⟨L k,a'⟩/\X4B H (X3 (ap.drop i)) k a'=X4B H (X3 ap) k a) (fun w=>w=X2s (spN L H) k ⟨L k,X4B H (X3 ap) k a⟩)
    (fun b ⟨a',_,e,h⟩=>⟨_,by simp[Xy,Xd];rfl,by
      rw[e,<-h,List.drop_length];rfl⟩)
    (fun i b hi ⟨a',m,e,h⟩=>by
      right;have g:ap[i]∈ap:=jl hi;obtain⟨s1,s2,s3⟩:=f.2 _ g;have j:ap.getD i ⟨0,0⟩=ap[i]:=XI _ _ _ hi;have e1:decide ((i:Int)<(ap.length:Int))=true:=by simp;omega
      have w1:=wS i (by have:=f.1;omega)
      have c:X3 (ap.drop i)=(ap[i].from_.toNat,ap[i].to_.toNat)::X3 (ap.drop (i+1)):=by
        rw[jb hi];rfl
      rw[c,X6N]at h;simp only at h;simp only[Xy,Xd,e1,z0S,ju,jB,kS,j,w1]
      by_cases ht:ap[i].from_=(k:Int)
      · have p:ap[i].to_.toNat≠k:=by omega
        have c1:(ap[i].from_==(k:Int))=true:=by simp[ht]
        have c2:decide ((k:Int)<(10:Int))=true:=by simp;omega
        have c3:Nat.blt k 10=true:=by simp[Nat.blt_eq];omega
        have c4:decide (0<=ap[i].to_)=true:=by simp;omega
        have c5:decide (ap[i].to_<(10:Int))=true:=by simp;omega
        have c6:Nat.blt ap[i].to_.toNat 10=true:=by rw[Nat.blt_eq];omega
        have hv:=r ap[i].to_.toNat;have s:(b ap[i].to_.toNat).Hi=H ap[i].to_.toNat:=by rw[e,X5q _ _ p];rfl
        have q:b k=⟨L k,a'⟩:=by rw[e,X6j]
        have w2:IntKind.wrap .i64 (H ap[i].to_.toNat-1)=H ap[i].to_.toNat-1:=by rw[w64]<;>omega
        simp only[c1,c2,c3,c4,c5,c6,jB,ju,s,q,w2];have d:ap[i].from_.toNat=k:=by omega
        rw[if_pos d]at h;refine⟨_,rfl,(if H ap[i].to_.toNat-1<a' then H ap[i].to_.toNat-1 else a'),by split<;>omega,?_,h⟩
        rw[e,X6k]
        by_cases hc:H ap[i].to_.toNat-1<a'<;>simp[hc]
      · have c1:(ap[i].from_==(k:Int))=false:=X3B ht
        simp only[c1,jA];have d:¬ap[i].from_.toNat=k:=by omega
        rw[if_neg d]at h;exact⟨_,rfl,a',m,e,h⟩) 0 _ (Nat.zero_le _) ⟨a,t,rfl,rfl⟩
  have l:Wj ap x2 (ap.length:Int) (k:Int) x5 x7 x8 (0,X2s (spN L H) k ⟨L k,a⟩)=some w:=o;rw[l,n]
theorem X62 (ap:List Z8) (b:X66 ap) (L H:Nat->Int) (e:BdN H) (k:Nat) (c:k<10) (a:Int) (d : -1000001<=a/\a<=1000000) (x2:Int) (x5:List Z8) (x7:Z9) (x8:Nat->ZZ) :
    X1b ap x2 (ap.length:Int) (k:Int) x5 x7 x8 (0,X2s (spN L H) k ⟨L k,a⟩)=some (X2s (spN L H) k ⟨L k,X4B H (X3 ap) k a⟩) :=
  X4I ap b L H e k c a d x2 x5 x7 x8
end Nore
open Go Go.Ab
namespace Nore
theorem X64 (ap:List (Nat×Nat)) (L:Nat->Int) (a b:Int) (hL:∀i,a<=L i/\L i<=b):∀(k j:Nat),a<=Wy ap k L j/\Wy ap k L j<=b+k
  | 0,j=>by
    have:=hL j;show a<=L j/\L j<=b+((0:Nat):Int);omega
  | k+1,j=>by
    have ih:=X64 ap L a b hL k;unfold Wy;split
    · unfold up1
      obtain⟨g,_⟩:=X5S (Wy ap k L) k ap (if 0<k then(if Wy ap k L (k-1)>Wy ap k L k then Wy ap k L (k-1)else Wy ap k L k)else Wy ap k L k);have i1:=ih k;have i2:=ih (k-1);refine⟨Int.le_trans ?_ g,X5T _ _ _ _ _ ?_ fun p _ _=>?_⟩
      · split
        · split<;>omega
        · omega
      · split
        · split<;>omega
        · omega
      · have:=ih p.1
        omega
    · have:=ih j
      omega
theorem X5Q (n:Nat) (ap:List (Nat×Nat)) (H:Nat->Int) (a b:Int) (c:∀i,a<=H i/\H i<=b):∀(k j:Nat),a-k<=Ws n ap k H j/\Ws n ap k H j<=b
  | 0,j=>by
    have:=c j;show a-((0:Nat):Int)<=H j/\H j<=b;omega
  | k+1,j=>by
    have ih:=X5Q n ap H a b c k;unfold Ws;split
    · unfold dn1
      obtain⟨g,_⟩:=X5V (Ws n ap k H) (n-1-k) ap (if n-1-k+1<n then(if Ws n ap k H (n-1-k+1)<Ws n ap k H (n-1-k)then Ws n ap k H (n-1-k+1)else Ws n ap k H (n-1-k))else Ws n ap k H (n-1-k));have i1:=ih (n-1-k);have i2:=ih (n-1-k+1);refine⟨X5U _ _ _ _ _ ?_ fun p _ _=>?_,Int.le_trans g ?_⟩
      · split
        · split<;>omega
        · omega
      · have:=ih p.2
        omega
      · split
        · split<;>omega
        · omega
    · have:=ih j
      omega
theorem X5K (f:Nat->ZZ) (k:Nat):X2s f k (f k)=f:=by
  funext j;unfold X2s;cases e:Nat.beq j k with
  | false=>rfl
  | true=>rw[je e];rfl
theorem X6J (ap:List (Nat×Nat)) (L H:Nat->Int) (i:Nat):X2s (spN (Wy ap i L) H) i ⟨up1 ap (Wy ap i L) i,H i⟩=spN (Wy ap (i+1) L) H:=by
  funext j;unfold X2s spN;cases e:Nat.beq j i with
  | false =>
    have:j≠i:=fun h=>by subst h;simp at e
    show(⟨Wy ap i L j,H j⟩:ZZ)=⟨if j=i then _ else _,H j⟩;rw[if_neg this]
  | true =>
    have:=je e;subst this;show(⟨_,_⟩:ZZ)=⟨if j=j then _ else _,H j⟩;rw[if_pos rfl]
theorem X70 (n:Nat) (ap:List (Nat×Nat)) (L H:Nat->Int) (i:Nat):X2s (spN L (Ws n ap i H)) (n-1-i) ⟨L (n-1-i),dn1 n ap (Ws n ap i H) (n-1-i)⟩=spN L (Ws n ap (i+1) H):=by
  funext j;unfold X2s spN;cases e:Nat.beq j (n-1-i)with
  | false =>
    have:j≠n-1-i:=fun h=>by subst h;simp at e
    show(⟨L j,Ws n ap i H j⟩:ZZ)=⟨L j,if j=n-1-i then _ else _⟩;rw[if_neg this]
  | true =>
    have:=je e;subst this;show(⟨_,_⟩:ZZ)=⟨L (n-1-i),if n-1-i=n-1-i then _ else _⟩;rw[if_pos rfl]
theorem X5Z (ap:List Z8) (c:X66 ap) (L H:Nat->Int) (hL:∀i,-900000<=L i/\L i<=900000) (n:Nat) (p:n<=10) (x1:Int) (x5:Z9) (x6:Nat->ZZ) :
    Wg (n:Int) x1 ap x5 x6 (0,spN L H)=some (spN (Wy (X3 ap) n L) H):=by
  obtain⟨w,m,k⟩:=WD (Xv (n:Int) x1 ap x5 x6) n (fun i (b:Nat->ZZ)=>((i:Int),b))
    (fun i b=>b=spN (Wy (X3 ap) i L) H) (fun w=>w=spN (Wy (X3 ap) n L) H)
    (fun b d=>⟨b,by simp[Xv,XJ],d⟩)
    (fun i b hi d=>by
      right;have e1:decide ((i:Int)<(n:Int))=true:=by simp;omega
      have w1:=wS i (by omega)
      have f:=X64 (X3 ap) L _ _ hL i;have h:BdN (Wy (X3 ap) i L):=fun j=>by have:=f j;omega
      have o:=f i;simp only[Xv,XJ,e1,jB,w1,kS]
      by_cases h0:0<i
      · have l:=f (i-1)
        have c1:decide ((i:Int)>0)=true:=by simp;omega
        have c2:decide ((i:Int)<(10:Int))=true:=by simp;omega
        have c3:Nat.blt i 10=true:=by rw[Nat.blt_eq];omega
        have w2:IntKind.wrap .i64 ((i:Int)-1)=((i-1:Nat):Int):=by rw[w64]<;>omega
        have c4:decide (((i-1:Nat):Int)<(10:Int))=true:=by simp;omega
        have c5:Nat.blt (i-1) 10=true:=by rw[Nat.blt_eq];omega
        simp only[c1,c2,c3,w2,c4,c5,z0S,kS,ju,jB];have a:(fun j=>bif Nat.beq j i then(⟨bif decide ((b (i-1)).Lo>(b i).Lo)then(b (i-1)).Lo else(b i).Lo,(b i).Hi⟩:ZZ)else b j)=X2s (spN (Wy (X3 ap) i L) H) i ⟨if Wy (X3 ap) i L (i-1)>Wy (X3 ap) i L i then Wy (X3 ap) i L (i-1)else Wy (X3 ap) i L i,H i⟩:=by
          rw[d];funext j;unfold X2s spN
          by_cases hc:Wy (X3 ap) i L (i-1)>Wy (X3 ap) i L i<;>simp[hc]
        rw[a,X4H ap c _ H h i (by omega) _ (by split<;>omega)]
        refine⟨_,rfl,?_⟩;rw[<-X6J];unfold up1;rw[if_pos h0]
      · have g:i=0:=by omega
        subst g;have c1:decide (((0:Nat):Int)>0)=false:=rfl;simp only[c1,jA];have a:b=X2s (spN (Wy (X3 ap) 0 L) H) 0 ⟨Wy (X3 ap) 0 L 0,H 0⟩:=by
          rw[d];exact(X5K (spN (Wy (X3 ap) 0 L) H) 0).symm
        rw[a,X60 ap c _ H h 0 (by omega) _ (by omega)]
        refine⟨_,rfl,?_⟩;rw[<-X6J];rfl) 0 _ (Nat.zero_le _) rfl
  have e:Wg (n:Int) x1 ap x5 x6 (0,spN L H)=some w:=m;rw[e,k]
theorem X61 (ap:List Z8) (d:X66 ap) (L H:Nat->Int) (r:∀i,-900000<=H i/\H i<=900000) (n:Nat) (t:n<=10) (x4:Z9) (x5:Nat->ZZ) :
    Wi (n:Int) ap x4 x5 ((n:Int)-1,spN L H)=some (spN L (Ws n (X3 ap) n H)):=by
  obtain⟨w,l,o⟩:=WD (Xx (n:Int) ap x4 x5) n (fun i (b:Nat->ZZ)=>((n:Int)-1-i,b))
    (fun i b=>b=spN L (Ws n (X3 ap) i H)) (fun w=>w=spN L (Ws n (X3 ap) n H))
    (fun b e=>⟨b,by
      have e1:decide ((n:Int)-1-(n:Int)>=0)=false:=by simp;omega
      simp only[Xx,XK,e1,jA],e⟩)
    (fun i b hi e=>by
      right;obtain⟨k,q⟩:∃k:Nat,k=n-1-i:=⟨_,rfl⟩;have f:(n:Int)-1-i=(k:Int):=by omega
      have e1:decide ((k:Int)>=0)=true:=by simp
      have w1:=wS k (by omega)
      have w3:IntKind.wrap .i64 ((k:Int)-1)=(n:Int)-1-((i+1:Nat):Int):=by rw[w64]<;>omega
      have g:=X5Q n (X3 ap) H _ _ r i;have m:BdN (Ws n (X3 ap) i H):=fun j=>by have:=g j;omega
      have p:=g k;have a:=X70 n (X3 ap) L H i;rw[<-q]at a;unfold dn1 at a;simp only[f,Xx,XK,e1,jB,w1,kS,w3]
      by_cases h0:k+1<n
      · have s:=g (k+1)
        have c1:decide (((k+1:Nat):Int)<(n:Int))=true:=by simp;omega
        have c2:decide ((k:Int)<(10:Int))=true:=by simp;omega
        have c3:Nat.blt k 10=true:=by rw[Nat.blt_eq];omega
        have c4:decide (((k+1:Nat):Int)<(10:Int))=true:=by simp;omega
        have c5:Nat.blt (k+1) 10=true:=by rw[Nat.blt_eq];omega
        simp only[c1,c2,c3,c4,c5,z0S,kS,ju,jB];have c:(fun j=>bif Nat.beq j k then(⟨(b k).Lo,bif decide ((b (k+1)).Hi<(b k).Hi)then(b (k+1)).Hi else(b k).Hi⟩:ZZ)else b j)=X2s (spN L (Ws n (X3 ap) i H)) k ⟨L k,if Ws n (X3 ap) i H (k+1)<Ws n (X3 ap) i H k then Ws n (X3 ap) i H (k+1)else Ws n (X3 ap) i H k⟩:=by
          rw[e];funext j;unfold X2s spN
          by_cases hc:Ws n (X3 ap) i H (k+1)<Ws n (X3 ap) i H k<;>simp[hc]
        rw[c,X4I ap d L _ m k (by omega) _ (by split<;>omega)]
        refine⟨_,rfl,?_⟩;rw[if_pos h0]at a;exact a
      · have c1:decide (((k+1:Nat):Int)<(n:Int))=false:=by simp;omega
        simp only[c1,jA];have c:b=X2s (spN L (Ws n (X3 ap) i H)) k ⟨L k,Ws n (X3 ap) i H k⟩:=by
          rw[e];exact(X5K (spN L (Ws n (X3 ap) i H)) k).symm
        rw[c,X62 ap d L _ m k (by omega) _ (by omega)]
        refine⟨_,rfl,?_⟩;rw[if_neg h0]at a;exact a) 0 _ (Nat.zero_le _) rfl
  have e0:(n:Int)-1-((0:Nat):Int)=(n:Int)-1:=by omega
  rw[e0]at l;have h:Wi (n:Int) ap x4 x5 ((n:Int)-1,spN L H)=some w:=l;rw[h,o]
def X5w (L H:Nat->Int) (ap:List Z8):Con:=⟨L,H,X3 ap⟩
theorem X6s (q:Z9) (L H:Nat->Int) (ap:List Z8) (g:X66 ap) (hL:∀i,-900000<=L i/\L i<=900000) (s:∀i,-900000<=H i/\H i<=900000) (m:q.CoRecord.Entries.length<=10) :
    XC q (spN L H) ap=some (spN (X2a q.CoRecord.Entries.length (X5w L H ap)) (X29 q.CoRecord.Entries.length (X5w L H ap)),okN q.CoRecord.Entries.length (X5w L H ap)):=by
  rw[X2C];unfold W2;generalize q.CoRecord.Entries.length=n at m;have w1:IntKind.wrap .i64 ((n:Int)-1)=(n:Int)-1:=by rw[w64]<;>omega
  rw[X5Z ap g L H hL n m];simp only[jS,w1];rw[X61 ap g _ H s n m];have c1:decide ((n:Int)<=(10:Int))=true:=by simp;omega
  simp only[jS,z0S,c1,ju,jB,kS,List.drop_zero];have c:(List.map (spN (Wy (X3 ap) n L) (Ws n (X3 ap) n H)) (List.range 10)).take n=(List.range n).map (spN (X2a n (X5w L H ap)) (X29 n (X5w L H ap))):=by
    rw[<-List.map_take,List.take_range,Nat.min_eq_left m];rfl
  rw[c];generalize hA:X2a n (X5w L H ap)=A;generalize hB:X29 n (X5w L H ap)=B;have a:((List.range n).map (spN A B)).length=n:=by simp
  obtain⟨w,u,r⟩:=WD (Xz (n:Int) ((List.range n).map (spN A B))) n (fun i (_:Unit)=>(i:Int)) (fun i _=>∀j,j<i->A j<=B j)
    (fun w=>(∃j:Nat,w=.inl (j:Int)/\¬∀i,i<n->A i<=B i)\/(w=.inr ()/\∀i,i<n->A i<=B i))
    (fun _ h=>⟨.inr (),by simp[Xz,XM],.inr ⟨rfl,h⟩⟩)
    (fun i _ hi h=>by
      have e1:decide ((i:Int)<(n:Int))=true:=by simp;omega
      have l:((List.range n).map (spN A B)).getD i ⟨0,0⟩=⟨A i,B i⟩:=by
        rw[XI _ _ _ (by rw[a];exact hi)]
        simp[spN]
      have w1:=wS i (by omega)
      simp only[Xz,XM,e1,a,z0S,ju,jB,kS,l,w1];rw[X2k];unfold XX;simp only[jS]
      by_cases hc:A i>B i
      · left
        exact⟨.inl (i:Int),by simp[hc],.inl ⟨i,rfl,fun k=>by have:=k i hi;omega⟩⟩
      · right
        refine⟨(),by simp[hc],fun j t=>?_⟩
        by_cases e:j=i
        · subst e;omega
        · exact h j (by omega)) 0 () (Nat.zero_le _) (fun j t=>by omega)
  have p:X1c (n:Int) ((List.range n).map (spN A B)) 0=some w:=u;have d:Wy (X3 ap) n L=A:=hA;have b:Ws n (X3 ap) n H=B:=hB;rw[a,p,d,b];rcases r with⟨k,rfl,o⟩|⟨rfl,f⟩
  · have:okN n (X5w L H ap)=false:=by
      rw[Bool.eq_false_iff];intro h;rw[X4e,hA,hB]at h;exact o h
    rw[this];simp
  · have:okN n (X5w L H ap)=true:=by
      rw[X4e,hA,hB];exact f
    rw[this];simp
end Nore
open Go Go.Ab
namespace Nore
def gtN (l:List Int) (i:Nat):Int:=l.getD i 0
theorem X4c (l:List Int) (i:Nat) (v:Int) (j:Nat) (hi:i<l.length):gtN (l.set i v) j=if j=i then v else gtN l j:=by
  unfold gtN;simp only[List.getD_eq_getElem?_getD,List.getElem?_set]
  by_cases e:i=j
  · subst e;simp[hi]
  · simp[e,Ne.symm e]
theorem X4L:∀(l:List Int) (i:Nat) (v:Int),i<l.length->(l.set i v).sum=l.sum-gtN l i+v
  | a::l,0,v,_=>by simp[gtN];omega
  | a::l,i+1,v,h=>by
    have:=X4L l i v (by simpa using h)
    have e:gtN (a::l) (i+1)=gtN l i:=by simp[gtN]
    rw[e];simp only[List.set_cons_succ,List.sum_cons];omega
structure X2F (n:Nat) (c:Con) (A B:Nat->Int) (lo hi:List Int):Prop where
  l1:lo.length=n
  l2:hi.length=n
  bd:∀i,i<n->c.lo i<=gtN lo i/\gtN lo i<=A i/\B i<=gtN hi i/\gtN hi i<=c.hi i
theorem X2F.setLo {n:Nat} {c:Con} {A B:Nat->Int} {lo hi:List Int} (h:X2F n c A B lo hi) {i:Nat} (a:i<n) {v:Int} (f:gtN lo i<=v) (d:v<=A i):X2F n c A B (lo.set i v) hi:=by
  refine⟨by simp[h.l1],h.l2,fun j b=>?_⟩
  rw[X4c _ _ _ _ (by rw[h.l1];exact a)]
  have:=h.bd j b;split
  · rename_i e;subst e;omega
  · exact this
theorem X2F.setHi {n:Nat} {c:Con} {A B:Nat->Int} {lo hi:List Int} (h:X2F n c A B lo hi) {i:Nat} (a:i<n) {v:Int} (f:v<=gtN hi i) (d:B i<=v):X2F n c A B lo (hi.set i v):=by
  refine⟨h.l1,by simp[h.l2],fun j b=>?_⟩
  rw[X4c _ _ _ _ (by rw[h.l2];exact a)]
  have:=h.bd j b;split
  · rename_i e;subst e;omega
  · exact this
theorem X5W {n:Nat} {c:Con} {A B:Nat->Int} (r:X6z n A) (u:X6z n B) (y:n<=1000000) {lo hi:List Int} (h:X2F n c A B lo hi) :
    ∃(ag:Bool) (lo' a:List Int),X2p (0,false,lo,hi)=some (ag,lo',a)/\X2F n c A B lo' a/\(ag=true->a.sum-lo'.sum<hi.sum-lo.sum) ∧
      (ag=false->lo'=lo/\a=hi/\∀i,i<n-1->gtN lo i<=gtN lo (i+1)/\gtN hi i<=gtN hi (i+1)):=by
  obtain⟨w,p,o⟩:=WD WF (n-1) (fun i (b:Bool×List Int×List Int)=>((i:Int),b))
    (fun i b=>X2F n c A B b.2.1 b.2.2/\(b.1=true->b.2.2.sum-b.2.1.sum<hi.sum-lo.sum)/\(b.1=false->b.2.1=lo/\b.2.2=hi/\∀j,j<i->gtN lo j<=gtN lo (j+1)/\gtN hi j<=gtN hi (j+1)))
    (fun w=>X2F n c A B w.2.1 w.2.2/\(w.1=true->w.2.2.sum-w.2.1.sum<hi.sum-lo.sum)/\(w.1=false->w.2.1=lo/\w.2.2=hi/\∀j,j<n-1->gtN lo j<=gtN lo (j+1)/\gtN hi j<=gtN hi (j+1)))
    (fun b d=>⟨b,by
      obtain⟨ag,l,m⟩:=b;have f:=d.1.l1;simp only at f;have w1:=wS (n-1) (by omega)
      have e1:decide (((n-1+1:Nat):Int)<(n:Int))=false:=by simp;omega
      simp only[WF,WL,w1,f,e1,jA],d⟩)
    (fun i b a d=>by
      right;obtain⟨ag,l,m⟩:=b;obtain⟨k,s1,s2⟩:=d;simp only at k s1 s2;have f:=k.l1;have s:=k.l2;have w1:=wS i (by omega)
      have e1:decide (((i+1:Nat):Int)<(n:Int))=true:=by simp;omega
      have e2:decide ((i:Int)<(n:Int))=true:=by simp;omega
      have e3:Nat.blt (i+1) n=true:=by rw[Nat.blt_eq];omega
      have e4:Nat.blt i n=true:=by rw[Nat.blt_eq];omega
      have b1:=k.bd i (by omega)
      have b2:=k.bd (i+1) (by omega)
      have m1:=r i (by omega)
      have m2:=u i (by omega)
      have g:∀(x:List Int) (j:Nat),x.getD j 0=gtN x j:=fun _ _=>rfl;simp only[WF,WL,w1,f,s,e1,e2,e3,e4,z0S,kS,ju,jB,g];have kl:gtN l (i+1)<gtN l i->X2F n c A B (l.set (i+1) (gtN l i)) m:=fun hc=>k.setLo (by omega) (by omega) (by omega)
      have sl:=X4L l (i+1) (gtN l i) (by omega)
      have sm:=X4L m i (gtN m (i+1)) (by omega)
      have v:m.sum-l.sum<=hi.sum-lo.sum:=by
        cases ag with
        | true=>have:=s1 rfl;omega
        | false=>obtain⟨q1,q2,_⟩:=s2 rfl;rw[q1,q2];omega
      by_cases d1:gtN l (i+1)<gtN l i
      · have c1:decide (gtN l (i+1)<gtN l i)=true:=by simp[d1]
        by_cases d2:gtN m i>gtN m (i+1)
        · have c2:decide (gtN m i>gtN m (i+1))=true:=by simp[d2]
          simp only[c1,c2,jB];exact⟨(true,_,_),rfl,(kl d1).setHi (by omega) (by omega) (by omega),fun _=>by simp only;omega,fun q=>by cases q⟩
        · have c2:decide (gtN m i>gtN m (i+1))=false:=by simp at d2;simp[d2]
          simp only[c1,c2,jB,jA];exact⟨(true,_,_),rfl,kl d1,fun _=>by simp only;omega,fun q=>by cases q⟩
      · have c1:decide (gtN l (i+1)<gtN l i)=false:=by simp at d1;simp[d1]
        by_cases d2:gtN m i>gtN m (i+1)
        · have c2:decide (gtN m i>gtN m (i+1))=true:=by simp[d2]
          simp only[c1,c2,jB,jA];exact⟨(true,_,_),rfl,k.setHi (by omega) (by omega) (by omega),fun _=>by simp only;omega,fun q=>by cases q⟩
        · have c2:decide (gtN m i>gtN m (i+1))=false:=by simp at d2;simp[d2]
          simp only[c1,c2,jB,jA];refine⟨(ag,l,m),rfl,k,s1,fun q=>?_⟩;obtain⟨q1,q2,q3⟩:=s2 q;refine⟨q1,q2,fun j t=>?_⟩
          by_cases e:j=i
          · subst e;rw[<-q1,<-q2];omega
          · exact q3 j (by omega)) 0 (false,lo,hi) (Nat.zero_le _) ⟨h,(fun q=>by cases q),fun _=>⟨rfl,rfl,fun j t=>by omega⟩⟩
  obtain⟨ag,lo',a⟩:=w;exact⟨ag,lo',a,p,o⟩
end Nore
open Go Go.Ab
namespace Nore
def X2O (ap:List Z6):List (Nat×Nat):=ap.map fun s=>(s.from_.toNat,s.to_.toNat)
def OkR (n:Nat) (ap:List Z6):Prop:=ap.length<=1000000/\∀s∈ap,0<=s.from_/\s.from_<s.to_/\s.to_<n
theorem X5X {n:Nat} {c:Con} {A B:Nat->Int} (ap:List Z6) (o:OkR n ap) (hA:ApN (X2O ap) A) (hB:ApN (X2O ap) B)
    (u:∀i,i<n -> -2000000<=c.lo i/\A i<=2000000 /\ -2000000<=B i/\c.hi i<=2000000) (ag0:Bool) {lo hi:List Int} (h:X2F n c A B lo hi) :
    ∃(ag:Bool) (lo' d:List Int),X2q ap (ag0,0,hi,lo)=some (ag,d,lo')/\X2F n c A B lo' d ∧
      ((ag=ag0/\lo'=lo/\d=hi/\∀s∈ap,gtN lo s.from_.toNat+1<=gtN lo s.to_.toNat/\gtN hi s.from_.toNat+1<=gtN hi s.to_.toNat)\/(ag=true/\d.sum-lo'.sum<hi.sum-lo.sum)):=by
  obtain⟨w,h1,y⟩:=WD (WG ap) ap.length (fun i (b:Bool×List Int×List Int)=>(b.1,(i:Int),b.2.1,b.2.2))
    (fun i b=>X2F n c A B b.2.2 b.2.1/\((b.1=ag0/\b.2.2=lo/\b.2.1=hi/\∀s∈ap.take i,gtN lo s.from_.toNat+1<=gtN lo s.to_.toNat/\gtN hi s.from_.toNat+1<=gtN hi s.to_.toNat)\/(b.1=true/\b.2.1.sum-b.2.2.sum<hi.sum-lo.sum)))
    (fun w=>X2F n c A B w.2.2 w.2.1/\((w.1=ag0/\w.2.2=lo/\w.2.1=hi/\∀s∈ap,gtN lo s.from_.toNat+1<=gtN lo s.to_.toNat/\gtN hi s.from_.toNat+1<=gtN hi s.to_.toNat)\/(w.1=true/\w.2.1.sum-w.2.2.sum<hi.sum-lo.sum)))
    (fun b v=>⟨b,by simp[WG,WM],by rw[List.take_length]at v;exact v⟩)
    (fun i b d v=>by
      right;obtain⟨ag,m,l⟩:=b;obtain⟨k,s⟩:=v;simp only at k s;have hl:=k.l1;have hm:=k.l2;have w1:=wS i (by have:=o.1;omega)
      have e:ap[i]∈ap:=jl d;obtain⟨f1,f2,f3⟩:=o.2 _ e;have r:ap.getD i ⟨0,0⟩=ap[i]:=XI _ _ _ d;have pm:(ap[i].from_.toNat,ap[i].to_.toNat)∈X2O ap:=List.mem_map.2 ⟨_,e,rfl⟩;have m1:=hA _ pm;have m2:=hB _ pm;have p:∀t∈ap.take (i+1),t∈ap.take i\/t=ap[i]:=fun t ht=>by
        rw[List.take_succ_eq_append_getElem d]at ht;rcases List.mem_append.1 ht with q|q
        · exact .inl q
        · exact .inr (List.mem_singleton.1 q)
      generalize ap[i]=z at *;obtain⟨fr,to_⟩:=z;simp only at f1 f2 f3 m1 m2;obtain⟨a,rfl⟩:=Int.eq_ofNat_of_zero_le f1;obtain⟨b,rfl⟩:=Int.eq_ofNat_of_zero_le (show 0<=to_ by omega)
      simp only[kS]at m1 m2;have a0:a<b:=by omega
      have f:b<n:=by omega
      have e1:decide ((i:Int)<(ap.length:Int))=true:=by simp;omega
      have e2:decide ((a:Int)<(n:Int))=true:=by simp;omega
      have e3:decide ((b:Int)<(n:Int))=true:=by simp;omega
      have e4:Nat.blt a n=true:=by rw[Nat.blt_eq];omega
      have e5:Nat.blt b n=true:=by rw[Nat.blt_eq];omega
      have b1:=k.bd a (by omega)
      have b2:=k.bd b f;have d1:=u a (by omega)
      have d2:=u b f;have g:∀(x:List Int) (j:Nat),x.getD j 0=gtN x j:=fun _ _=>rfl;have w2:IntKind.wrap .i64 (gtN l a+1)=gtN l a+1:=by rw[w64]<;>omega
      have w3:IntKind.wrap .i64 (gtN m b-1)=gtN m b-1:=by rw[w64]<;>omega
      simp only[WG,WM,w1,hl,hm,r,e1,e2,e3,e4,e5,z0S,kS,ju,jB,g,w2,w3];have sl:=X4L l b (gtN l a+1) (by omega)
      have sm:=X4L m a (gtN m b-1) (by omega)
      have hs:m.sum-l.sum<=hi.sum-lo.sum:=by
        rcases s with⟨_,q1,q2,_⟩|⟨_,q⟩
        · rw[q1,q2];omega
        · omega
      by_cases d1:gtN l b<gtN l a+1
      · have kl:X2F n c A B (l.set b (gtN l a+1)) m:=k.setLo f (by omega) (by omega)
        have c1:decide (gtN l b<gtN l a+1)=true:=by simp[d1]
        by_cases d2:gtN m a>gtN m b-1
        · have c2:decide (gtN m a>gtN m b-1)=true:=by simp[d2]
          simp only[c1,c2,jB];exact⟨(true,_,_),rfl,kl.setHi (by omega) (by omega) (by omega),.inr ⟨rfl,by simp only;omega⟩⟩
        · have c2:decide (gtN m a>gtN m b-1)=false:=by simp at d2;simp[d2]
          simp only[c1,c2,jB,jA];exact⟨(true,_,_),rfl,kl,.inr ⟨rfl,by simp only;omega⟩⟩
      · have c1:decide (gtN l b<gtN l a+1)=false:=by simp at d1;simp[d1]
        by_cases d2:gtN m a>gtN m b-1
        · have c2:decide (gtN m a>gtN m b-1)=true:=by simp[d2]
          simp only[c1,c2,jB,jA];exact⟨(true,_,_),rfl,k.setHi (by omega) (by omega) (by omega),.inr ⟨rfl,by simp only;omega⟩⟩
        · have c2:decide (gtN m a>gtN m b-1)=false:=by simp at d2;simp[d2]
          simp only[c1,c2,jB,jA];refine⟨(ag,m,l),rfl,k,?_⟩;rcases s with⟨q0,q1,q2,q3⟩|q
          · refine .inl ⟨q0,q1,q2,fun t ht=>?_⟩
            rcases p t ht with q|rfl
            · exact q3 t q
            · rw[<-q1,<-q2];simp only[kS];omega
          · exact .inr q) 0 (ag0,hi,lo) (Nat.zero_le _) ⟨h,.inl ⟨rfl,rfl,rfl,fun t ht=>by simp at ht⟩⟩
  obtain⟨ag,d,lo'⟩:=w;exact⟨ag,lo',d,h1,y⟩
theorem X5Y {n:Nat} (f:n<=1000000) {lo hi:List Int} (b:lo.length=n) (c:hi.length=n) :
    (∃u,X2r hi lo 0=some u/\((u=.inl false/\¬∀i,i<n->gtN lo i<=gtN hi i)\/(u=.inr ()/\∀i,i<n->gtN lo i<=gtN hi i))):=by
  obtain⟨w,g1,g2⟩:=WD (WH hi lo) n (fun i (_:Unit)=>(i:Int)) (fun i _=>∀j,j<i->gtN lo j<=gtN hi j)
    (fun u=>(u=.inl false/\¬∀i,i<n->gtN lo i<=gtN hi i)\/(u=.inr ()/\∀i,i<n->gtN lo i<=gtN hi i))
    (fun _ h=>⟨.inr (),by simp[WH,WN,b],.inr ⟨rfl,h⟩⟩)
    (fun i _ a h=>by
      have e1:decide ((i:Int)<(n:Int))=true:=by simp;omega
      have e4:Nat.blt i n=true:=by rw[Nat.blt_eq];omega
      have w1:=wS i (by omega)
      have g:∀(x:List Int) (j:Nat),x.getD j 0=gtN x j:=fun _ _=>rfl;simp only[WH,WN,b,c,e1,e4,z0S,kS,ju,jB,g,w1]
      by_cases hc:gtN lo i>gtN hi i
      · left
        exact⟨.inl false,by simp[hc],.inl ⟨rfl,fun k=>by have:=k i a;omega⟩⟩
      · right
        refine⟨(),by simp[hc],fun j d=>?_⟩
        by_cases e:j=i
        · subst e;omega
        · exact h j (by omega)) 0 () (Nat.zero_le _) (fun j d=>by omega)
  exact⟨w,g1,g2⟩
end Nore
open Go Go.Ab
namespace Nore
theorem X6h {σ ω:Type} (st:σ->Option (σ⊕ω)) (P:σ->Prop) (Q:ω->Prop) (μ:σ->Nat)
    (h:∀s,P s->(∃w,st s=some (.inr w)/\Q w)\/∃s',st s=some (.inl s')/\P s'∧μ s'<μ s):∀(m:Nat) (s:σ),μ s<=m->P s->∃w,Za2 st s=some w/\Q w
  | m,s,hm,c=>by
    rcases h s c with⟨w,b,a⟩|⟨s',b,a,f⟩
    · exact⟨w,by rw[ZjE,b];rfl,a⟩
    · cases m with
      | zero=>omega
      | succ m =>
        obtain⟨w,d,e⟩:=X6h st P Q μ h m s' (by omega) a
        exact⟨w,by rw[ZjE,b];exact d,e⟩
theorem X6X:∀(l m:List Int),l.length=m.length->(∀i,i<l.length->gtN l i<=gtN m i)->l.sum<=m.sum
  | [],[],_,_=>Int.le_refl _
  | a::l,b::m,hl,h=>by
    have c:=h 0 (by simp)
    have:=X6X l m (by simpa using hl) fun i hi=>by
      have:=h (i+1) (by simpa using hi)
      simpa[gtN]using this
    simp only[gtN,List.getD_cons_zero]at c;simp only[List.sum_cons];omega
  | [],_::_,hl,_=>by simp at hl
  | _::_,[],hl,_=>by simp at hl
def Xp (x:Z7):Con:=⟨gtN x.lo,gtN x.hi,X2O x.later⟩
structure X4T (n:Nat) (x:Z7):Prop where
  l1:x.lo.length=n
  l2:x.hi.length=n
  ap:OkR n x.later
  bd:∀i,i<n -> -900000<=gtN x.lo i/\gtN x.lo i<=900000 /\ -900000<=gtN x.hi i/\gtN x.hi i<=900000
theorem X6W {n:Nat} {ap:List Z6} (h:OkR n ap):X4w n (X2O ap):=fun p a=>by
  obtain⟨s,b,rfl⟩:=List.mem_map.1 a;have:=h.2 s b;simp only;omega
theorem X4b (l:List Int) (i:Nat) (h:l.length<=i):gtN l i=0:=by
  unfold gtN;simp[List.getD_eq_getElem?_getD,List.getElem?_eq_none h]
theorem X5k {n:Nat} {x:Z7} (h:X4T n x) (hn:n<=100000) :
    ∃y,X37 x=some (y,okN n (Xp x))/\(okN n (Xp x)=true->y.later=x.later/\y.lo.length=n/\y.hi.length=n/\∀i,i<n->gtN y.lo i=X2a n (Xp x) i/\gtN y.hi i=X29 n (Xp x) i):=by
  have b:=X6W h.ap;have hL:X5N n (Xp x) (X2a n (Xp x)):=X2P (c:=Xp x) b;have g:X5M n (Xp x) (X29 n (Xp x)):=X2N (c:=Xp x) b;have hg:∀i,(-900000<=gtN x.lo i/\gtN x.lo i<=900000) /\ -900000<=gtN x.hi i/\gtN x.hi i<=900000:=fun i=>by
    by_cases e:i<n
    · have:=h.bd i e;omega
    · rw[X4b _ _ (by rw[h.l1];omega),X4b _ _ (by rw[h.l2];omega)];omega
  have o:=X64 (X2O x.later) (gtN x.lo) (-900000) 900000 (fun i=>(hg i).1) n;have r:=X5Q n (X2O x.later) (gtN x.hi) (-900000) 900000 (fun i=>(hg i).2) n;have a4:∀i,i<n -> -2000000<=(Xp x).lo i/\X2a n (Xp x) i<=2000000 /\ -2000000<=X29 n (Xp x) i/\(Xp x).hi i<=2000000:=fun i hi=>by
    have h1:=h.bd i hi;have h2:X2a n (Xp x) i<=900000+n:=(o i).2;have h3 : -900000-(n:Int)<=X29 n (Xp x) i:=(r i).1;have h4:(Xp x).lo i=gtN x.lo i:=rfl;have h5:(Xp x).hi i=gtN x.hi i:=rfl;omega
  generalize hA:X2a n (Xp x)=A at *;generalize hB:X29 n (Xp x)=B at *;have t:X2F n (Xp x) A B x.lo x.hi:=⟨h.l1,h.l2,fun i hi=>⟨Int.le_refl _,hL.up.1 i hi,g.dn.1 i hi,Int.le_refl _⟩⟩;rw[X3E];unfold X1G;have a2:Nat.ble ((0+x.lo.length)*(8+1)) 200000000000000=true:=by rw[Nat.ble_eq,h.l1];omega
  have a0:Nat.ble ((0+x.hi.length)*(8+1)) 200000000000000=true:=by rw[Nat.ble_eq,h.l2];omega
  simp only[a2,a0,jB,List.nil_append]
  let full:List Int->List Int->Prop:=fun lo hi=>(∀i,i<n-1->gtN lo i<=gtN lo (i+1)/\gtN hi i<=gtN hi (i+1))/\(∀s∈x.later,gtN lo s.from_.toNat+1<=gtN lo s.to_.toNat/\gtN hi s.from_.toNat+1<=gtN hi s.to_.toNat)/\∀i,i<n->gtN lo i<=gtN hi i
  obtain⟨w,g1,g2⟩:=X6h (Wc x.later) (fun s=>X2F n (Xp x) A B s.2.2 s.2.1/\(s.1=false->full s.2.2 s.2.1))
    (fun w=>(∃m l,w=.inl (false,m,l)/\¬∀i,i<n->A i<=B i)\/∃m l,w=.inr (m,l)/\X2F n (Xp x) A B l m/\full l m)
    (fun s=>2*(s.2.1.sum-s.2.2.sum).toNat+(if s.1=true then 1 else 0))
    (fun s d=>by
      obtain⟨ag,m,l⟩:=s;obtain⟨k,hf⟩:=d;simp only at k hf;cases ag with
      | false=>exact .inl ⟨.inr (m,l),by simp[Wc,WK],.inr ⟨m,l,rfl,k,hf rfl⟩⟩
      | true =>
        obtain⟨ag1,l1,m1,r1,k1,t1,u1⟩:=X5W hL.up.2.1 g.dn.2.1 (by omega) k
        obtain⟨ag2,l2,m2,r2,k2,v2⟩:=X5X x.later h.ap hL.up.2.2 g.dn.2.2 a4 ag1 k1;obtain⟨u,r3,v3⟩:=X5Y (n:=n) (by omega) k2.l1 k2.l2
        have a:Wc x.later (true,m,l)=Sum.elim (fun y=>some (Sum.inr (Sum.inl (y,m2,l2)))) (fun _=>some (Sum.inl (ag2,m2,l2))) u:=by
          simp only[Wc,WK,jB];rw[r1];simp only[jS];rw[r2];simp only[jS];rw[r3];simp only[jS]
        rcases v3 with⟨rfl,v3⟩|⟨rfl,v3⟩
        · left
          refine⟨_,a,.inl ⟨m2,l2,rfl,fun a3=>v3 fun i hi=>?_⟩⟩;have:=k2.bd i hi;have:=a3 i hi;omega
        · right
          have hnn:=X6X l2 m2 (by rw[k2.l1,k2.l2]) (fun i hi=>v3 i (by rw[k2.l1]at hi;exact hi))
          refine⟨_,a,⟨k2,fun e=>?_⟩,?_⟩
          · simp only at e
            rcases v2 with⟨e1,rfl,rfl,q⟩|⟨e1,_⟩
            · obtain⟨rfl,rfl,q2⟩:=u1 (by rw[<-e1];exact e)
              exact⟨q2,q,v3⟩
            · rw[e1]at e;cases e
          · simp only[if_true]
            rcases v2 with⟨e1,rfl,rfl,q⟩|⟨e1,q⟩
            · cases ag1 with
              | true=>have:=t1 rfl;rw[e1];simp only[if_true];omega
              | false=>obtain⟨rfl,rfl,_⟩:=u1 rfl;rw[e1];simp
            · have:m1.sum-l1.sum<=m.sum-l.sum:=by
                cases ag1 with
                | true=>have:=t1 rfl;omega
                | false=>obtain⟨rfl,rfl,_⟩:=u1 rfl;omega
              rw[e1];simp only[if_true];omega) _ (true,x.hi,x.lo) (Nat.le_refl _) ⟨t,fun e=>by cases e⟩
  have g1':X2o x.later (true,x.hi,x.lo)=some w:=g1;rw[g1'];have f:okN n (Xp x)=true↔∀i,i<n->A i<=B i:=by rw[X4e,hA,hB]
  rcases g2 with⟨m,l,rfl,j⟩|⟨m,l,rfl,k,f1,f2,f3⟩
  · have:okN n (Xp x)=false:=by
      rw[Bool.eq_false_iff];exact fun e=>j (f.1 e)
    rw[this];exact⟨_,rfl,fun e=>by cases e⟩
  · have a1:UpN n (Xp x) (gtN l):=⟨fun i hi=>(k.bd i hi).1,fun i hi=>(f1 i (by omega)).1,fun p z=>by
      obtain⟨s,d,rfl⟩:=List.mem_map.1 z;exact(f2 s d).1⟩
    have v:DnN n (Xp x) (gtN m):=⟨fun i hi=>(k.bd i hi).2.2.2,fun i hi=>(f1 i (by omega)).2,fun p z=>by
      obtain⟨s,d,rfl⟩:=List.mem_map.1 z;exact(f2 s d).2⟩
    have e1:∀i,i<n->gtN l i=A i:=fun i hi=>Int.le_antisymm (k.bd i hi).2.1 (hL.least _ a1 i hi);have e2:∀i,i<n->gtN m i=B i:=fun i hi=>Int.le_antisymm (g.great _ v i hi) (k.bd i hi).2.2.1;have:okN n (Xp x)=true:=f.2 fun i hi=>by rw[<-e1 i hi,<-e2 i hi];exact f3 i hi
    rw[this];exact⟨_,rfl,fun _=>⟨rfl,k.l1,k.l2,fun i hi=>⟨e1 i hi,e2 i hi⟩⟩⟩
end Nore
open Go Go.Ab
namespace Nore
def X4v (dev st:Int):List Zn->Nat->Int->Int->List Z6
  | [],i,now,fr=>if now=st then [⟨fr,i⟩]else []
  | x::xs,i,now,fr=>if x.Device=dev then(if now=st then [⟨fr,i⟩]else [])++X4v dev st xs (i+1) x.State i else X4v dev st xs (i+1) now fr
theorem X5r (dev st:Int) (i:Nat) (now fr:Int):X4v dev st [] i now fr=if now=st then [⟨fr,i⟩]else []:=rfl
theorem X4R (dev st:Int) (x:Zn) (xs:List Zn) (i:Nat) (now fr:Int):X4v dev st (x::xs) i now fr=if x.Device=dev then(if now=st then [⟨fr,i⟩]else [])++X4v dev st xs (i+1) x.State i else X4v dev st xs (i+1) now fr:=rfl
theorem X4k (r:CoRecord) (dev st:Int) (g:0<=dev/\dev<r.Devices.length) (m:r.Entries.length<=1000) :
    X27 r dev st=some (X4v dev st r.Entries 0 (r.Devices.getD dev.toNat ⟨ByteArray.empty,0,0⟩).First (-1)):=by
  rw[X3k];unfold X19;have c1:decide (0<=dev)=true:=by simp[g.1]
  have c2:decide (dev<(r.Devices.length:Int))=true:=by simp[g.2]
  simp only[c1,c2,ju,jB];generalize (r.Devices.getD dev.toNat ⟨ByteArray.empty,0,0⟩).First=f0;obtain⟨w,k,j⟩:=WD (W1 dev st r) (r.Entries.length+1) (fun i (b:Int×Int×List Z6)=>(b.1,b.2.1,(i:Int),b.2.2))
    (fun i b=>b.2.2.length<=i/\(i<=r.Entries.length->b.2.2++X4v dev st (r.Entries.drop i) i b.1 b.2.1=X4v dev st r.Entries 0 f0 (-1))/\(i=r.Entries.length+1->b.2.2=X4v dev st r.Entries 0 f0 (-1)))
    (fun w=>w=X4v dev st r.Entries 0 f0 (-1))
    (fun b f=>⟨b.2.2,by
      have e1:decide (((r.Entries.length+1:Nat):Int)<=(r.Entries.length:Int))=false:=by simp;omega
      simp only[W1,Wf,e1,jA],f.2.2 rfl⟩)
    (fun i b hi f=>by
      right;obtain⟨now,fr,acc⟩:=b;obtain⟨h,a,_⟩:=f;simp only at h a;have a:=a (by omega)
      have e1:decide ((i:Int)<=(r.Entries.length:Int))=true:=by simp;omega
      have w1:=wS i (by omega)
      have eb:Nat.ble ((acc.length+1)*(16+1)) 200000000000000=true:=by rw[Nat.ble_eq];omega
      simp only[W1,Wf,e1,jB,w1,z0S,kS,List.length_singleton,eb]
      by_cases hin:i<r.Entries.length
      · have e2:decide ((i:Int)<(r.Entries.length:Int))=true:=by simp;omega
        have c:r.Entries.getD i ⟨0,0,⟨0,0⟩⟩=r.Entries[i]:=XI _ _ _ hin;simp only[e2,ju,jB,c];rw[jb hin,X4R]at a
        by_cases hdev:r.Entries[i].Device=dev
        · have c3:(r.Entries[i].Device != dev)=false:=by simp[hdev]
          simp only[c3,jA];rw[if_pos hdev]at a
          by_cases hnow:now=st
          · have c4:(now==st)=true:=by simp[hnow]
            simp only[c4,jB];rw[if_pos hnow,<-jj]at a;exact⟨(_,_,_),rfl,by simp only[List.length_append,List.length_singleton];omega,fun _=>a,fun e=>by omega⟩
          · have c4:(now==st)=false:=X3B hnow
            simp only[c4,jA];rw[if_neg hnow,List.nil_append]at a;exact⟨(_,_,_),rfl,by simp only;omega,fun _=>a,fun e=>by omega⟩
        · have c3:(r.Entries[i].Device != dev)=true:=X2Q hdev
          simp only[c3,jB];rw[if_neg hdev]at a;exact⟨(_,_,_),rfl,by simp only;omega,fun _=>a,fun e=>by omega⟩
      · have l:i=r.Entries.length:=by omega
        have e2:decide ((i:Int)<(r.Entries.length:Int))=false:=by simp;omega
        simp only[e2,jA];rw[jd (by omega),X5r]at a
        by_cases hnow:now=st
        · have c4:(now==st)=true:=by simp[hnow]
          simp only[c4,jB];rw[if_pos hnow]at a;exact⟨(_,_,_),rfl,by simp only[List.length_append,List.length_singleton];omega,fun e=>by omega,fun _=>a⟩
        · have c4:(now==st)=false:=X3B hnow
          simp only[c4,jA];rw[if_neg hnow,jo]at a;exact⟨(_,_,_),rfl,by simp only;omega,fun e=>by omega,fun _=>a⟩) 0 (f0,-1,[]) (Nat.zero_le _) ⟨by simp,fun _=>by simp,fun e=>by omega⟩
  have d:X1S dev st r (f0,-1,0,[])=some w:=k;rw[d,j];rfl
theorem X35 {c d:Con} (g:∀i,c.lo i=d.lo i) (f:∀i,c.hi i=d.hi i) (h:c.ap=d.ap):c=d:=by
  obtain⟨a,b,e⟩:=c;obtain⟨a',b',e'⟩:=d;have g:a=a':=funext g;have f:b=b':=funext f;simp only at h;rw[g,f,h]
end Nore
open Go Go.Ab
namespace Nore
theorem X6r (ap:List Z6) (s:Z6):X2O (ap++[s])=X2O ap++[(s.from_.toNat,s.to_.toNat)]:=by
  unfold X2O;rw[List.map_append];rfl
theorem X5z {n:Nat} {b:Z7} (h:X4T n b) (m:n<=1000) (s:Z6) (k:0<=s.to_) (d:X3A n (s.from_,s.to_.toNat)) (at_:ZZ) (o : -900000<=at_.Lo/\at_.Lo<900000) :
    ∃y,X4h b s at_=some y/\Xp y=W0 n (Xp b) (s.from_,s.to_.toNat) at_.Lo at_.Hi/\y.lo.length=n/\y.hi.length=n/\y.later=(if 0<=s.from_/\s.to_.toNat<n then b.later++[s]else b.later):=by
  unfold X3A at d;simp only at d;obtain⟨t,ht⟩:=Int.eq_ofNat_of_zero_le k;rw[X4D];unfold X2t;have l:=h.ap.1;have b1:Nat.ble ((0+n)*(8+1)) 200000000000000=true:=by rw[Nat.ble_eq];omega
  have b2:Nat.ble ((0+b.later.length)*(16+1)) 200000000000000=true:=by rw[Nat.ble_eq];omega
  have b3:Nat.ble ((b.later.length+1)*(16+1)) 200000000000000=true:=by rw[Nat.ble_eq];omega
  have w1:IntKind.wrap .i64 (at_.Lo+1)=at_.Lo+1:=by rw[w64]<;>omega
  have g:∀(x:List Int) (j:Nat),x.getD j 0=gtN x j:=fun _ _=>rfl;rw[ht]at d⊢;simp only[kS]at d;simp only[List.nil_append,List.length_singleton,h.l1,h.l2,b1,b2,b3,jB,w1,g,kS,z0S]
  by_cases hf:0<=s.from_
  · obtain⟨f,a⟩:=Int.eq_ofNat_of_zero_le hf
    have c:f<n:=by omega
    have c1:decide (s.from_>=0)=true:=by simp[hf]
    have c2:decide ((f:Int)>=0)=true:=by simp
    have c3:decide ((f:Int)<(n:Int))=true:=by simp;omega
    have c4:Nat.blt f n=true:=by rw[Nat.blt_eq];omega
    simp only[a,c2,c3,c4,z0S,kS,ju,jB]
    by_cases htn:t<n
    · have d1:decide ((t:Int)<(n:Int))=true:=by simp;omega
      have d2:Nat.blt t n=true:=by rw[Nat.blt_eq];omega
      simp only[d1,d2,ju,jB];refine⟨_,rfl,X35 (fun i=>?_) (fun i=>?_) ?_,by simp[h.l1],by simp[h.l2],by simp[htn]⟩
      · show gtN (b.lo.set t _) i=_
        rw[X4c _ _ _ _ (by rw[h.l1];exact htn)]
        unfold W0 Xp;simp only[kS]
        by_cases e:i=t
        · subst e
          rw[if_pos rfl,if_pos ⟨htn,rfl⟩]
          by_cases q:at_.Lo+1>gtN b.lo i<;>simp[q]
        · rw[if_neg e,if_neg (fun q=>e q.2)]
      · show gtN (b.hi.set f _) i=_
        rw[X4c _ _ _ _ (by rw[h.l2];exact c)]
        unfold W0 Xp;simp only[kS]
        by_cases e:i=f
        · subst e
          rw[if_pos rfl,if_pos ⟨by omega,rfl⟩]
          by_cases q:at_.Hi<gtN b.hi i<;>simp[q]
        · rw[if_neg e,if_neg (fun q=>e q.2)]
      · show X2O (b.later++[s])=_
        unfold W0 Xp;simp only[kS];rw[if_pos ⟨by omega,htn⟩,X6r,a,ht]
        rfl
    · have d1:decide ((t:Int)<(n:Int))=false:=by simp;omega
      simp only[d1,jA];refine⟨_,rfl,X35 (fun i=>?_) (fun i=>?_) ?_,h.l1,by simp[h.l2],by simp[htn]⟩
      · unfold W0 Xp
        simp only[kS];rw[if_neg (fun q=>htn q.1)]
      · show gtN (b.hi.set f _) i=_
        rw[X4c _ _ _ _ (by rw[h.l2];exact c)]
        unfold W0 Xp;simp only[kS]
        by_cases e:i=f
        · subst e
          rw[if_pos rfl,if_pos ⟨by omega,rfl⟩]
          by_cases q:at_.Hi<gtN b.hi i<;>simp[q]
        · rw[if_neg e,if_neg (fun q=>e q.2)]
      · unfold W0 Xp
        simp only[kS];rw[if_neg (fun q=>htn q.2)]
  · have c1:decide (s.from_>=0)=false:=by simp;omega
    simp only[c1,jA]
    by_cases htn:t<n
    · have d1:decide ((t:Int)<(n:Int))=true:=by simp;omega
      have d2:Nat.blt t n=true:=by rw[Nat.blt_eq];omega
      simp only[d1,d2,ju,jB];refine⟨_,rfl,X35 (fun i=>?_) (fun i=>?_) ?_,by simp[h.l1],h.l2,by simp[hf]⟩
      · show gtN (b.lo.set t _) i=_
        rw[X4c _ _ _ _ (by rw[h.l1];exact htn)]
        unfold W0 Xp;simp only[kS]
        by_cases e:i=t
        · subst e
          rw[if_pos rfl,if_pos ⟨htn,rfl⟩]
          by_cases q:at_.Lo+1>gtN b.lo i<;>simp[q]
        · rw[if_neg e,if_neg (fun q=>e q.2)]
      · unfold W0 Xp
        simp only[kS];rw[if_neg (fun q=>hf q.1)]
      · unfold W0 Xp
        simp only[kS];rw[if_neg (fun q=>hf q.1)]
    · have d1:decide ((t:Int)<(n:Int))=false:=by simp;omega
      simp only[d1,jA];refine⟨_,rfl,X35 (fun i=>?_) (fun i=>?_) ?_,h.l1,h.l2,by simp[hf]⟩
      · unfold W0 Xp
        simp only[kS];rw[if_neg (fun q=>htn q.1)]
      · unfold W0 Xp
        simp only[kS];rw[if_neg (fun q=>hf q.1)]
      · unfold W0 Xp
        simp only[kS];rw[if_neg (fun q=>hf q.1)]
end Nore
open Go Go.Ab
namespace Nore
theorem X6i {σ ω:Type} {st st':σ->Option (σ⊕ω)} (h:∀s x,st s=some x->st' s=some x) {s:σ} {w:ω} (hr:Za2 st s=some w):Za2 st' s=some w:=by
  rw[Z25]at hr⊢
  induction hr with
  | done e=>exact .done (h _ _ e)
  | next e _ ih=>exact .next (h _ _ e) ih
theorem X5H {α β:Type} {t:(α->Option β)->α->Option β} (ht:∀f g:α->Option β,(∀x r,f x=some r->g x=some r)->∀x r,t f x=some r->t g x=some r) :
    ∀(n:Nat) (x:α) (r:β),Z9y t n x=some r->Z9y t (n+1) x=some r
  | 0,_,_,h=>by cases h
  | n+1,x,r,h=>ht _ _ (X5H ht n) x r h
theorem ZfF {α β:Type} {t:(α->Option β)->α->Option β} (ht:∀f g:α->Option β,(∀x r,f x=some r->g x=some r)->∀x r,t f x=some r->t g x=some r) (n:Nat) :
    ∀(k:Nat) (x:α) (r:β),Z9y t n x=some r->Z9y t (n+k) x=some r
  | 0,_,_,h=>h
  | k+1,x,r,h=>X5H ht (n+k) x r (ZfF ht n k x r h)
theorem X4t {α β:Type} {t:(α->Option β)->α->Option β} (ht:∀f g:α->Option β,(∀x r,f x=some r->g x=some r)->∀x r,t f x=some r->t g x=some r) {n:Nat} {x:α} {r:β} (h:Z9y t n x=some r):Zb7 t x=some r:=by
  refine Zk5 (fun m q b=>?_) ⟨n,r,h⟩;have c:=ZfF ht n m x r h;have a:=ZfF ht m n x q b;rw[Nat.add_comm]at a;rw[c]at a;exact(Option.some.inj a).symm
theorem X3c {α β:Type} {o o':Option α} {k k':α->Option β} {r:β} (h:o.bind k=some r) (b:∀a,o=some a->o'=some a) (c:∀a,k a=some r->k' a=some r):o'.bind k'=some r:=by
  cases o with
  | none=>cases h
  | some a=>rw[b a rfl];exact c a h
theorem X2A {β:Type} {c:Bool} {a a' b b':Option β} {r:β} (h:(bif c then a else b)=some r) (e:a=some r->a'=some r) (d:b=some r->b'=some r):(bif c then a' else b')=some r:=by
  cases c with
  | true=>exact e h
  | false=>exact d h
theorem X5n (f g:(CoRecord×(List Zt)×Z7×Unit)->Option (List Z7)) (h:∀x r,f x=some r->g x=some r) (x:CoRecord×(List Zt)×Z7×Unit) (r:List Z7) (hr:Wt f x=some r):Wt g x=some r:=by
  unfold Wt X1v at hr⊢;refine X3c hr (fun _ e=>e) fun a b=>X2A b (fun e=>e) fun b=>X2A b (fun e=>e) fun b=>X2A b (fun b=>X2A b (fun b=>?_) (fun e=>e)) (fun e=>e);refine X3c b (fun _ e=>e) fun q i=>X3c i (fun w c=>?_) fun _ e=>e;unfold X2j at c⊢;refine X6i (fun s y hy=>?_) c;unfold WX WS at hy⊢;refine X2A hy (fun hy=>X2A hy (fun hy=>X2A hy (fun hy=>X2A hy (fun hy=>?_) fun e=>e) fun e=>e) fun e=>e) fun e=>e;exact X3c hy (fun _ e=>e) fun u d=>X3c d (fun v hv=>h _ _ hv) fun _ e=>e
theorem X63 (dev st:Int) (n:Nat):∀(e:List Zn) (i:Nat) (now fr:Int),i+e.length=n -> -1<=fr->fr<i->((X4v dev st e i now fr).length<=e.length+1)/\∀s∈X4v dev st e i now fr,-1<=s.from_/\s.from_<s.to_/\s.to_<=n
  | [],i,now,fr,h,h1,h2=>by
    simp only[List.length_nil,Nat.add_zero]at h;rw[X5r];split
    · refine⟨by simp,fun s a=>?_⟩
      rw[List.mem_singleton.1 a];simp only;omega
    · exact⟨by simp,fun s a=>by cases a⟩
  | x::xs,i,now,fr,h,h1,h2=>by
    simp only[List.length_cons]at h;rw[X4R];split
    · obtain⟨g1,g2⟩:=X63 dev st n xs (i+1) x.State i (by omega) (by omega) (by omega)
      split
      · refine⟨by simp only[List.length_append,List.length_cons,List.length_nil];omega,fun s a=>?_⟩
        rcases List.mem_append.1 a with q|q
        · rw[List.mem_singleton.1 q]
          simp only;omega
        · exact g2 s q
      · refine⟨by simp only[List.nil_append,List.length_cons];omega,fun s a=>g2 s (by simpa using a)⟩
    · obtain⟨g1,g2⟩:=X63 dev st n xs (i+1) now fr (by omega) h1 (by omega)
      exact⟨by simp only[List.length_cons];omega,g2⟩
end Nore
open Go Go.Ab
namespace Nore
def X2n (r:CoRecord) (x:Zt):List Z6:=X4v x.Device x.State r.Entries 0 (r.Devices.getD x.Device.toNat ⟨ByteArray.empty,0,0⟩).First (-1)
def X2h (s:Z6):Str:=(s.from_,s.to_.toNat)
def X1w (r:CoRecord) (x:Zt):Wit:=⟨(X2n r x).map X2h,x.At.Lo,x.At.Hi⟩
structure X2c (r:CoRecord) (x:Zt):Prop where
  dev:0<=x.Device/\x.Device<r.Devices.length
  lo : -900000<=x.At.Lo/\x.At.Lo<900000
  hi : -900000<=x.At.Hi/\x.At.Hi<=900000
theorem X6e (n:Nat) (ap:List (Nat×Nat)) (H:Nat->Int):∀(k j:Nat),k<=n->n<=j->Ws n ap k H j=H j
  | 0,_,_,_=>rfl
  | k+1,j,hk,hj=>by
    unfold Ws;rw[if_neg (by omega)]
    exact X6e n ap H k j (by omega) hj
theorem X6l {r:CoRecord} (x:Zt) {n:Nat} (d:r.Entries.length=n):(X2n r x).length<=n+1/\∀s∈X2n r x,0<=s.to_/\X3A n (X2h s):=by
  obtain⟨a,c⟩:=X63 x.Device x.State n r.Entries 0 (r.Devices.getD x.Device.toNat ⟨ByteArray.empty,0,0⟩).First (-1) (by omega) (by omega) (by omega)
  rw[d]at a;refine⟨a,fun s b=>?_⟩;have:=c s b;unfold X3A X2h;simp only;omega
theorem X5j {n:Nat} {b y:Z7} (h:X4T n b) (d:okN n (Xp b)=true) (j:y.later=b.later) (k:y.lo.length=n) (l:y.hi.length=n)
    (f:∀i,i<n->gtN y.lo i=X2a n (Xp b) i/\gtN y.hi i=X29 n (Xp b) i):X4T n y/\Xp y=X2J n (Xp b):=by
  have a:=X6W h.ap;have g:=X4e.1 d;refine⟨⟨k,l,j▸h.ap,fun i hi=>?_⟩,X35 (fun i=>?_) (fun i=>?_) (by show X2O y.later=X2O b.later;rw[j])⟩
  · obtain⟨e1,e2⟩:=f i hi
    have g1:=(X2P (c:=Xp b) a).up.1 i hi;have g2:=(X2N (c:=Xp b) a).dn.1 i hi;have g3:=g i hi;have g4:=h.bd i hi;have g1':gtN b.lo i<=X2a n (Xp b) i:=g1;have g2':X29 n (Xp b) i<=gtN b.hi i:=g2;rw[e1,e2];omega
  · show gtN y.lo i=X2a n (Xp b) i
    by_cases e:i<n
    · exact(f i e).1
    · rw[X4b _ _ (by omega)]
      have:X2a n (Xp b) i=gtN b.lo i:=X65 _ _ _ _ (by omega)
      rw[this,X4b _ _ (by rw[h.l1];omega)]
  · show gtN y.hi i=X29 n (Xp b) i
    by_cases e:i<n
    · exact(f i e).2
    · rw[X4b _ _ (by omega)]
      have:X29 n (Xp b) i=gtN b.hi i:=X6e _ _ _ _ _ (Nat.le_refl _) (by omega)
      rw[this,X4b _ _ (by rw[h.l2];omega)]
theorem X6Y {n:Nat} {b y:Z7} (h:X4T n b) {s:Z6} (m:0<=s.to_) (c:X3A n (X2h s)) (l:b.later.length<1000000) {a e:Int} (o : -900000<=a/\a<900000) (p : -900000<=e/\e<=900000)
    (d:Xp y=W0 n (Xp b) (X2h s) a e) (f:y.lo.length=n) (j:y.hi.length=n) (k:y.later=(if 0<=s.from_/\s.to_.toNat<n then b.later++[s]else b.later)):X4T n y:=by
  unfold X3A X2h at c;simp only at c;refine⟨f,j,?_,fun i hi=>?_⟩
  · rw[k]
    split
    · rename_i hc
      refine⟨by simp only[List.length_append,List.length_cons,List.length_nil];omega,fun t ht=>?_⟩
      rcases List.mem_append.1 ht with q|q
      · exact h.ap.2 t q
      · rw[List.mem_singleton.1 q]
        omega
    · exact h.ap
  · have g:=h.bd i hi
    have e1:gtN y.lo i=(W0 n (Xp b) (X2h s) a e).lo i:=congrFun (congrArg Con.lo d) i;have e2:gtN y.hi i=(W0 n (Xp b) (X2h s) a e).hi i:=congrFun (congrArg Con.hi d) i;have f1:(W0 n (Xp b) (X2h s) a e).lo i=gtN b.lo i\/(W0 n (Xp b) (X2h s) a e).lo i=a+1:=by
      unfold W0 Xp;simp only;split
      · split
        · exact .inr rfl
        · exact .inl rfl
      · exact .inl rfl
    have f2:(W0 n (Xp b) (X2h s) a e).hi i=gtN b.hi i\/(W0 n (Xp b) (X2h s) a e).hi i=e:=by
      unfold W0 Xp;simp only;split
      · split
        · exact .inr rfl
        · exact .inl rfl
      · exact .inl rfl
    rw[e1,e2];rcases f1 with f1|f1<;>rcases f2 with f2|f2<;>rw[f1,f2]<;>omega
end Nore
open Go Go.Ab
namespace Nore
theorem X5R (n:Nat) (w:Wit) (ws:List Wit) (c:Con):X1x n (w::ws) c=if okN n c then w.strs.flatMap fun s=>X1x n ws (W0 n (X2J n c) s w.a w.b)else []:=rfl
theorem X6R (r:CoRecord) (n:Nat) (hn:r.Entries.length=n) (a1:n<=10):∀(l:List Zt) (b:Z7),(∀x∈l,X2c r x)->l.length<=8->X4T n b->b.later.length+l.length<=1000 →
    ∃out,Z9y Wt (l.length+1) (r,l,b,())=some out/\out.map Xp=X1x n (l.map (X1w r)) (Xp b)/\(∀y∈out,y.lo.length=n/\y.hi.length=n)/\out.length<=11 ^ l.length:=by
  intro l
  induction l with
  | nil =>
    intro b _ _ f _;obtain⟨y,u,o⟩:=X5k f (by omega)
    show ∃out,X1v (Z9y Wt 0) r [] b=some out/\_;unfold X1v;simp only[u,jS];cases hok:okN n (Xp b)with
    | false =>
      refine⟨[],by simp,?_,(fun y hy=>by cases hy),by simp⟩
      simp only[List.map_nil];unfold X1x;rw[hok];rfl
    | true =>
      obtain⟨g1,g2,g3,g4⟩:=o hok;obtain⟨_,k2⟩:=X5j f hok g1 g2 g3 g4;refine⟨[y],by simp,?_,fun z hz=>?_,by simp⟩
      · simp only[jr,List.map_nil]
        unfold X1x;rw[hok,if_pos rfl,k2]
      · rw[List.mem_singleton.1 hz];exact⟨g2,g3⟩
  | cons x l ih =>
    intro b hx hl f k;simp only[List.length_cons]at hl k;have c:=hx x (by simp)
    obtain⟨y,u,o⟩:=X5k f (by omega)
    show ∃out,X1v (Z9y Wt (l.length+1)) r (x::l) b=some out/\_;unfold X1v;simp only[u,jS];cases hok:okN n (Xp b)with
    | false =>
      refine⟨[],by simp,?_,(fun y hy=>by cases hy),by simp⟩
      simp only[List.map_nil,jr];unfold X1x;rw[hok];rfl
    | true =>
      obtain⟨g1,g2,g3,g4⟩:=o hok;obtain⟨k1,k2⟩:=X5j f hok g1 g2 g3 g4;obtain⟨t1,t2⟩:=X6l x hn;have hM:11 ^ l.length<=11 ^ 8:=Nat.pow_le_pow_right (by omega) (by omega)
      have hM8:(11:Nat) ^ 8=214358881:=by decide
      have g:X27 r x.Device x.State=some (X2n r x):=X4k r x.Device x.State c.dev (by omega)
      have j:¬((x::l).length:Int)=0:=by simp only[List.length_cons];omega
      have c1:(((x::l).length:Int)==0)=false:=X3B j;have c2:decide ((0:Int)<((x::l).length:Int))=true:=by rw[jk];simp only[List.length_cons];omega
      have c3:decide ((1:Int)<=((x::l).length:Int))=true:=by rw[jk];simp only[List.length_cons];omega
      have d:(x::l).getD (Int.toNat 0) ⟨0,0,⟨0,0⟩⟩=x:=rfl;obtain⟨w,r1,r2⟩:=WD (WX (Z9y Wt (l.length+1)) (x::l) (X2n r x) y r) (X2n r x).length (fun i (acc:List Z7)=>((i:Int),acc))
        (fun i acc=>acc.map Xp=((X2n r x).take i).flatMap (fun s=>X1x n (l.map (X1w r)) (W0 n (X2J n (Xp b)) (X2h s) x.At.Lo x.At.Hi))/\(∀z∈acc,z.lo.length=n/\z.hi.length=n)/\acc.length<=i*11 ^ l.length)
        (fun w=>w.map Xp=(X2n r x).flatMap (fun s=>X1x n (l.map (X1w r)) (W0 n (X2J n (Xp b)) (X2h s) x.At.Lo x.At.Hi))/\(∀z∈w,z.lo.length=n/\z.hi.length=n)/\w.length<=(X2n r x).length*11 ^ l.length)
        (fun acc h=>⟨acc,by simp[WX,WS],by rw[List.take_length]at h;exact h⟩)
        (fun i acc hi h=>by
          right;obtain⟨q1,q2,q3⟩:=h;have m:(X2n r x)[i]∈X2n r x:=jl hi;obtain⟨s1,s2⟩:=t2 _ m;have v:(X2n r x).getD i ⟨0,0⟩=(X2n r x)[i]:=XI _ _ _ hi;have e1:decide ((i:Int)<((X2n r x).length:Int))=true:=by simp;omega
          have w1:=wS i (by omega)
          obtain⟨z,v1,v2,v3,v4,v5⟩:=X5z k1 (by omega) (X2n r x)[i] s1 s2 x.At c.lo
          have hz:=X6Y k1 s1 s2 (by rw[g1];omega) c.lo c.hi v2 v3 v4 v5
          have p:z.later.length+l.length<=1000:=by
            rw[v5,g1];split
            · simp only[List.length_append,List.length_cons,List.length_nil];omega
            · omega
          obtain⟨out,o1,o2,o3,o4⟩:=ih z (fun a t=>hx a (by simp[t])) (by omega) hz p
          have e:List.drop (Int.toNat 1) (List.take (x::l).length (x::l))=l:=by rw[List.take_length];rfl
          have a0:i*11 ^ l.length<=11*11 ^ l.length:=Nat.mul_le_mul_right _ (by omega)
          have eb:Nat.ble ((acc.length+out.length)*(72+1)) 200000000000000=true:=by rw[Nat.ble_eq];omega
          simp only[WX,WS,e1,c2,c3,z0S,kS,v,d,w1,jB,ju,v1,jS,e,o1,eb,Nat.zero_le,Nat.le_refl,decide_true];refine⟨acc++out,rfl,?_,fun a t=>?_,?_⟩
          · rw[List.map_append,q1,o2,List.take_succ_eq_append_getElem hi,List.flatMap_append,v2,k2]
            simp only[List.flatMap_cons,List.flatMap_nil,jo];rfl
          · rcases List.mem_append.1 t with q|q
            · exact q2 a q
            · exact o3 a q
          · rw[List.length_append,Nat.succ_mul];omega) 0 [] (Nat.zero_le _) ⟨by simp,(fun z hz=>by cases hz),by simp⟩
      have r1':X2j (Z9y Wt (l.length+1)) (x::l) (X2n r x) y r (0,[])=some w:=r1;obtain⟨w1,w2,w3⟩:=r2;refine⟨w,?_,?_,w2,?_⟩
      · simp only[Bool.not_true,jA,c1,c2,ju,jB,d,g,jS,r1',Nat.le_refl,decide_true]
      · rw[w1]
        simp only[jr];show _=X1x n (X1w r x::l.map (X1w r)) (Xp b);rw[X5R,hok,if_pos rfl];show _=((X2n r x).map X2h).flatMap _;rw[List.flatMap_map];rfl
      · have h11:(X2n r x).length*11 ^ l.length<=11*11 ^ l.length:=Nat.mul_le_mul_right _ (by omega)
        rw[List.length_cons,Nat.pow_succ];omega
end Nore
open Go Go.Ab
namespace Nore
def X2z (r:CoRecord):Z7:=⟨r.Entries.map (·.At.Lo),r.Entries.map (·.At.Hi),[]⟩
theorem X3G (r:CoRecord) (j:r.Entries.length<=1000):X2Z r=some (X2z r):=by
  rw[X45];unfold X26;obtain⟨w,h,f⟩:=WD (WT r) r.Entries.length (fun i (b:List Int×List Int)=>((i:Int),b))
    (fun i b=>b.1=(r.Entries.take i).map (·.At.Hi)/\b.2=(r.Entries.take i).map (·.At.Lo)) (fun w=>w.1=r.Entries.map (·.At.Hi)/\w.2=r.Entries.map (·.At.Lo))
    (fun b c=>⟨b,by simp[WT,X18],by rw[List.take_length]at c;exact c⟩)
    (fun i b hi c=>by
      right;obtain⟨m,l⟩:=b;obtain⟨q1,q2⟩:=c;simp only at q1 q2;have g:m.length=i:=by rw[q1,List.length_map,List.length_take];omega
      have e:l.length=i:=by rw[q2,List.length_map,List.length_take];omega
      have e1:decide ((i:Int)<(r.Entries.length:Int))=true:=by simp;omega
      have w1:=wS i (by omega)
      have a:r.Entries.getD i ⟨0,0,⟨0,0⟩⟩=r.Entries[i]:=XI _ _ _ hi;have eb:Nat.ble ((i+1)*(8+1)) 200000000000000=true:=by rw[Nat.ble_eq];omega
      simp only[WT,X18,e1,z0S,kS,ju,jB,a,w1,g,e,List.length_singleton,eb];refine⟨(_,_),rfl,?_,?_⟩
      · simp only[q1,List.take_succ_eq_append_getElem hi,List.map_append,jr,List.map_nil]
      · simp only[q2,List.take_succ_eq_append_getElem hi,List.map_append,jr,List.map_nil]) 0 ([],[]) (Nat.zero_le _) ⟨by simp,by simp⟩
  have d:X2y r (0,[],[])=some w:=h;obtain⟨q1,q2⟩:=f;rw[d];simp only[jS];rw[q1,q2];rfl
def X4U (r:CoRecord):Prop:=r.Entries.length<=10/\∀x∈r.Entries,-900000<=x.At.Lo/\x.At.Lo<=900000 /\ -900000<=x.At.Hi/\x.At.Hi<=900000
theorem X6O {r:CoRecord} (h:X4U r):X4T r.Entries.length (X2z r):=by
  refine⟨by simp[X2z],by simp[X2z],⟨by simp[X2z],fun s a=>by cases a⟩,fun i hi=>?_⟩
  have e1:gtN (X2z r).lo i=r.Entries[i].At.Lo:=by
    show(r.Entries.map (·.At.Lo)).getD i 0=_;rw[XI _ _ _ (by simpa using hi)]
    simp
  have e2:gtN (X2z r).hi i=r.Entries[i].At.Hi:=by
    show(r.Entries.map (·.At.Hi)).getD i 0=_;rw[XI _ _ _ (by simpa using hi)]
    simp
  rw[e1,e2];exact h.2 _ (jl hi)
theorem X4q {r:CoRecord} (h:X4U r) {l:List Zt} (c:∀x∈l,X2c r x) (b:l.length<=8) :
    ∃out,X4g r l (X2z r)=some out/\out.map Xp=X1x r.Entries.length (l.map (X1w r)) (Xp (X2z r))/\(∀y∈out,y.lo.length=r.Entries.length/\y.hi.length=r.Entries.length)/\out.length<=11 ^ l.length:=by
  obtain⟨out,a,d⟩:=X6R r _ rfl h.1 l (X2z r) c b (X6O h) (by show 0+l.length<=1000;omega)
  exact⟨out,X4t X5n a,d⟩
theorem X5m {r:CoRecord} (h:X4U r) {l:List Zt} (a:∀x∈l,X2c r x) (c:l.length<=8) :
    X3h r l=some (!(X1x r.Entries.length (l.map (X1w r)) (Xp (X2z r))).isEmpty):=by
  obtain⟨out,d,b,_⟩:=X4q h a c;rw[X4o];unfold X2f;rw[X3G r (by have:=h.1;omega)]
  simp only[jS,d,<-b];cases out with
  | nil=>rfl
  | cons y ys =>
    have:decide (((y::ys).length:Int)>0)=true:=by rw[jk];simp only[List.length_cons];omega
    simp only[this];rfl
end Nore
open Go Go.Ab
namespace Nore
def LeO {β:Type} (a b:Option β):Prop:=∀r,a=some r->b=some r
theorem LeO.same {β:Type} (a:Option β):LeO a a:=fun _ h=>h
theorem LeO.cond {β:Type} {c:Bool} {a a' b b':Option β} (d:LeO a a') (e:LeO b b'):LeO (bif c then a else b) (bif c then a' else b'):=by
  cases c
  · exact e
  · exact d
theorem LeO.bind {α β:Type} {o o':Option α} {k k':α->Option β} (b:LeO o o') (c:∀a,LeO (k a) (k' a)):LeO (o.bind k) (o'.bind k'):=fun r h=>by
  cases o with
  | none=>cases h
  | some a=>rw[b a rfl];exact c a r h
theorem LeO.run {σ ω:Type} {st st':σ->Option (σ⊕ω)} (h:∀s,LeO (st s) (st' s)) (s:σ):LeO (Za2 st s) (Za2 st' s):=fun _ hr=>X6i h hr
theorem X5t (f g:((Nat->ZZ)×Int×(List Z8)×Z9×Bool×Z9×Z9)->Option ((Bool×Z9×Bool×Z9×Z9)⊕(Bool×Z9×Bool×Z9×Z9))) (h:∀x,LeO (f x) (g x)) (x):LeO (X4 f x) (X4 g x):=by
  unfold X4 Xe;refine .bind (.same _) fun a=>.cond (.same _) (.cond (.same _) (.cond (.cond (.cond (.cond (.bind ?_ fun _=>.same _) (.same _)) (.same _)) (.same _)) (.same _)));unfold XF;refine LeO.run (fun s=>?_) _;unfold X9 X1;dsimp only
  repeat' (first|with_reducible exact LeO.same _|with_reducible exact LeO.bind (h _) fun _=>LeO.same _|with_reducible apply LeO.cond)
end Nore
open Go Go.Ab
namespace Nore
def X2G (u:Nat->ZZ) (ap:List Z8):Con:=X5w (fun j=>(u j).Lo) (fun j=>(u j).Hi) ap
def UBd (u:Nat->ZZ):Prop:=∀i,-900000<=(u i).Lo/\(u i).Lo<=900000 /\ -900000<=(u i).Hi/\(u i).Hi<=900000
def ApK (n k:Nat) (ap:List Z8):Prop:=ap.length<=k/\∀s∈ap,0<=s.from_/\s.from_<s.to_/\s.to_<n
theorem ApK.bd {n k:Nat} {ap:List Z8} (h:ApK n k ap) (c:n<=10) (a:k<=1000):X66 ap:=⟨Nat.le_trans h.1 a,fun s b=>by have:=h.2 s b;omega⟩
theorem ApK.keep {n k:Nat} {ap:List Z8} (h:ApK n k ap):ApK n (k+1) ap:=⟨Nat.le_succ_of_le h.1,h.2⟩
theorem ApK.add {n k:Nat} {ap:List Z8} (h:ApK n k ap) {f t:Nat} (c:f<t) (b:t<n):ApK n (k+1) (ap++[⟨(f:Int),(t:Int)⟩]) :=
  ⟨by rw[List.length_append,List.length_singleton];exact Nat.succ_le_succ h.1,fun s a=>by
    rcases List.mem_append.1 a with q|q
    · exact h.2 s q
    · rw[List.mem_singleton.1 q];simp only;omega⟩
theorem X3z (q:Z9) (u:Nat->ZZ) (ap:List Z8) {k:Nat} (a:UBd u) (b:ApK q.CoRecord.Entries.length k ap) (d:k<=1000) (c:q.CoRecord.Entries.length<=10) :
    XC q u ap=some (spN (X2a q.CoRecord.Entries.length (X2G u ap)) (X29 q.CoRecord.Entries.length (X2G u ap)),okN q.CoRecord.Entries.length (X2G u ap)) :=
  X6s q (fun j=>(u j).Lo) (fun j=>(u j).Hi) ap (b.bd c d) (fun i=>⟨(a i).1,(a i).2.1⟩) (fun i=>⟨(a i).2.2.1,(a i).2.2.2⟩) c
def X3J (u:Nat->ZZ) (f:Nat) (b:Int):Nat->ZZ:=fun j=>bif Nat.beq j f then ZZ.mk (u f).Lo (bif decide (b<(u f).Hi)then b else(u f).Hi)else u j
def X3K (u:Nat->ZZ) (t:Nat) (a:Int):Nat->ZZ:=fun j=>bif Nat.beq j t then ZZ.mk (bif decide (a>(u t).Lo)then a else(u t).Lo) (u t).Hi else u j
theorem X4x (u:Nat->ZZ) (f:Nat) (b:Int) (j:Nat):(X3J u f b j).Lo=(u j).Lo:=by
  unfold X3J;cases e:Nat.beq j f with
  | true=>rw[je e];rfl
  | false=>rfl
theorem X5b (u:Nat->ZZ) (f:Nat) (b:Int) (j:Nat):(X3J u f b j).Hi=if j=f then(if b<(u f).Hi then b else(u f).Hi)else(u j).Hi:=by
  unfold X3J;cases e:Nat.beq j f with
  | true =>
    rw[if_pos (je e)]
    by_cases c:b<(u f).Hi<;>simp[c]
  | false=>rw[if_neg (Nat.ne_of_beq_eq_false e)];rfl
theorem X5c (u:Nat->ZZ) (f:Nat) (b:Int) (j:Nat):(X3K u f b j).Hi=(u j).Hi:=by
  unfold X3K;cases e:Nat.beq j f with
  | true=>rw[je e];rfl
  | false=>rfl
theorem X5d (u:Nat->ZZ) (f:Nat) (b:Int) (j:Nat):(X3K u f b j).Lo=if j=f then(if b>(u f).Lo then b else(u f).Lo)else(u j).Lo:=by
  unfold X3K;cases e:Nat.beq j f with
  | true =>
    rw[if_pos (je e)]
    by_cases c:b>(u f).Lo<;>simp[c]
  | false=>rw[if_neg (Nat.ne_of_beq_eq_false e)];rfl
theorem UBd.hi {u:Nat->ZZ} (h:UBd u) (f:Nat) {b:Int} (c : -900000<=b/\b<=900000):UBd (X3J u f b):=fun i=>by
  rw[X4x,X5b];have a:=h i;have d:=h f;refine⟨a.1,a.2.1,?_⟩;split
  · split<;>omega
  · exact a.2.2
theorem UBd.lo {u:Nat->ZZ} (h:UBd u) (f:Nat) {b:Int} (c : -900000<=b/\b<=900000):UBd (X3K u f b):=fun i=>by
  rw[X5d,X5c];have a:=h i;have d:=h f;refine⟨?_,?_,a.2.2⟩
  · split
    · split<;>omega
    · exact a.1
  · split
    · split<;>omega
    · exact a.2.1
theorem X6q (ap:List Z8) (f t:Nat):X3 (ap++[⟨(f:Int),(t:Int)⟩])=X3 ap++[(f,t)]:=by
  unfold X3;rw[List.map_append];rfl
theorem X5E (u:Nat->ZZ) (ap:List Z8) {n f t:Nat} (ht:t<n) (a b:Int):X2G (X3K (X3J u f b) t (a+1)) (ap++[⟨(f:Int),(t:Int)⟩])=W0 n (X2G u ap) ((f:Int),t) a b:=by
  refine X35 (fun i=>?_) (fun i=>?_) ?_
  · show(X3K (X3J u f b) t (a+1) i).Lo=if t<n/\i=t then(if a+1>(u i).Lo then a+1 else(u i).Lo)else(u i).Lo
    rw[X5d,X4x,X4x]
    by_cases e:i=t
    · subst e;simp[ht]
    · rw[if_neg e,if_neg fun h=>e h.2]
  · show(X3K (X3J u f b) t (a+1) i).Hi=if 0<=(f:Int)/\i=(f:Int).toNat then(if b<(u i).Hi then b else(u i).Hi)else(u i).Hi
    rw[X5c,X5b,kS]
    by_cases e:i=f
    · subst e;simp
    · rw[if_neg e,if_neg fun h=>e h.2]
  · show X3 (ap++[⟨(f:Int),(t:Int)⟩])=if 0<=(f:Int)/\t<n then X3 ap++[((f:Int).toNat,t)]else X3 ap
    rw[if_pos ⟨by omega,ht⟩,X6q,kS]
theorem X6B (u:Nat->ZZ) (ap:List Z8) {n f t:Nat} (ht:¬t<n) (a b:Int):X2G (X3J u f b) ap=W0 n (X2G u ap) ((f:Int),t) a b:=by
  refine X35 (fun i=>?_) (fun i=>?_) ?_
  · show(X3J u f b i).Lo=if t<n/\i=t then(if a+1>(u i).Lo then a+1 else(u i).Lo)else(u i).Lo
    rw[X4x,if_neg fun h=>ht h.1]
  · show(X3J u f b i).Hi=if 0<=(f:Int)/\i=(f:Int).toNat then(if b<(u i).Hi then b else(u i).Hi)else(u i).Hi
    rw[X5b,kS]
    by_cases e:i=f
    · subst e;simp
    · rw[if_neg e,if_neg fun h=>e h.2]
  · show X3 ap=if 0<=(f:Int)/\t<n then X3 ap++[((f:Int).toNat,t)]else X3 ap
    rw[if_neg fun h=>ht h.2]
theorem X6C (u:Nat->ZZ) (ap:List Z8) {n t:Nat} {fr:Int} (c:¬0<=fr) (ht:t<n) (a b:Int):X2G (X3K u t (a+1)) ap=W0 n (X2G u ap) (fr,t) a b:=by
  refine X35 (fun i=>?_) (fun i=>?_) ?_
  · show(X3K u t (a+1) i).Lo=if t<n/\i=t then(if a+1>(u i).Lo then a+1 else(u i).Lo)else(u i).Lo
    rw[X5d]
    by_cases e:i=t
    · subst e;simp[ht]
    · rw[if_neg e,if_neg fun h=>e h.2]
  · show(X3K u t (a+1) i).Hi=if 0<=fr/\i=fr.toNat then(if b<(u i).Hi then b else(u i).Hi)else(u i).Hi
    rw[X5c,if_neg fun h=>c h.1]
  · show X3 ap=if 0<=fr/\t<n then X3 ap++[(fr.toNat,t)]else X3 ap
    rw[if_neg fun h=>c h.1]
theorem X6D (u:Nat->ZZ) (ap:List Z8) {n t:Nat} {fr:Int} (c:¬0<=fr) (ht:¬t<n) (a b:Int):X2G u ap=W0 n (X2G u ap) (fr,t) a b:=by
  refine X35 (fun i=>?_) (fun i=>?_) ?_
  · show(u i).Lo=if t<n/\i=t then(if a+1>(u i).Lo then a+1 else(u i).Lo)else(u i).Lo
    rw[if_neg fun h=>ht h.1]
  · show(u i).Hi=if 0<=fr/\i=fr.toNat then(if b<(u i).Hi then b else(u i).Hi)else(u i).Hi
    rw[if_neg fun h=>c h.1]
  · show X3 ap=if 0<=fr/\t<n then X3 ap++[(fr.toNat,t)]else X3 ap
    rw[if_neg fun h=>c h.1]
def X4J (n:Nat) (dev st:Int) (E:List Zn) (i:Nat) (now fr:Int):List Z6:=if i<=n then X4v dev st (E.drop i) i now fr else []
theorem X4K (n:Nat) (dev st:Int) (E:List Zn) (now fr:Int):X4J n dev st E (n+1) now fr=[]:=if_neg (by omega)
theorem X5L {n:Nat} {E:List Zn} (hE:E.length=n) (dev st:Int) {i:Nat} (hi:i<n+1) (now fr:Int) {X:Zn} (hX:(E++[Zn.mk dev (-1) (ZZ.mk 0 0)]).getD i (Zn.mk 0 0 (ZZ.mk 0 0))=X) :
    X4J n dev st E i now fr=if X.Device=dev then(if now=st then [⟨fr,i⟩]else [])++X4J n dev st E (i+1) X.State i else X4J n dev st E (i+1) now fr:=by
  by_cases h:i<n
  · have b:X=E[i]:=by
      rw[<-hX,XI _ _ _ (by rw[List.length_append,List.length_singleton];omega),List.getElem_append_left (by omega)]
    have d:i<=n:=by omega
    have c:i+1<=n:=by omega
    simp only[X4J,d,c,if_true];rw[jb (by omega),X4R,<-b]
  · have a:i=n:=by omega
    subst a;have b:X=Zn.mk dev (-1) (ZZ.mk 0 0):=by
      rw[<-hX,XI _ _ _ (by rw[List.length_append,List.length_singleton];omega),List.getElem_append_right (by omega)]
      simp
    rw[X4K,X4K,b,if_pos rfl];unfold X4J;rw[if_pos (Nat.le_refl _),jd (by omega),X5r,jo]
def X5p (q:Z9) (L:List Con):(Bool×Z9×Bool×Z9×Z9)⊕(Bool×Z9×Bool×Z9×Z9) :=
  if L.isEmpty then .inl (true,q,false,q,q)else .inr (false,q,true,q,q)
theorem X4W (n:Nat) (c:Con):Xj n [] c=if okN n c then [X2J n c]else []:=rfl
theorem X4z (n:Nat) (w:Wit) (ws:List Wit) (c:Con):Xj n (w::ws) c=if okN n c then w.strs.flatMap fun s=>Xj n ws (W0 n c s w.a w.b)else []:=rfl
theorem X3u (q:Z9) (n:Nat) (o:q.CoRecord.Entries.length=n) (h10:n<=10) (h8:q.seen.length<=8) (hs:∀x∈q.seen,X2c q.CoRecord x)
    (ih0:((Nat->ZZ)×Int×(List Z8)×Z9×Bool×Z9×Z9)->Option ((Bool×Z9×Bool×Z9×Z9)⊕(Bool×Z9×Bool×Z9×Z9))) (l:List Zt) (k:Nat) (hk:k+l.length=q.seen.length) (hd:q.seen.drop k=l)
    (ih:∀x l',l=x::l'->k+1+l'.length=q.seen.length->q.seen.drop (k+1)=l'->∀(u:Nat->ZZ) (ap:List Z8),UBd u->ApK n (k+1) ap->∀c,X2G u ap=c->ih0 (u,((k+1:Nat):Int),ap,q,false,q,q)=some (X5p q (Xj n (l'.map (X1w q.CoRecord)) c)))
    (u:Nat->ZZ) (ap:List Z8) (r:UBd u) (a:ApK n k ap) (c:Con) (hc:X2G u ap=c) :
    Xe ih0 u (k:Int) ap q false q q=some (X5p q (Xj n (l.map (X1w q.CoRecord)) c)):=by
  cases l with
  | nil =>
    have h:=X3z q u ap r (o▸a) (by omega) (by omega)
    rw[o,hc]at h;unfold Xe;simp only[h,jS,List.map_nil,X4W];have c1:((k:Int)==(q.seen.length:Int))=true:=by simp only[List.length_nil,Nat.add_zero]at hk;simp[hk]
    cases okN n c with
    | false=>rfl
    | true=>simp only[Bool.not_true,jA,c1,jB];rfl
  | cons x l =>
    simp only[List.length_cons]at hk;have h:=X3z q u ap r (o▸a) (by omega) (by omega)
    rw[o,hc]at h;have p:k<q.seen.length:=by omega
    have d:q.seen.drop k=q.seen[k]::q.seen.drop (k+1):=jb p;rw[hd]at d;injection d with hx hl
    have g:X2c q.CoRecord x:=hs x (hx▸jl p);have a0:q.seen.getD k (Zt.mk 0 0 (ZZ.mk 0 0))=x:=by rw[XI _ _ _ p,<-hx]
    have j:=ih x l rfl (by omega) hl.symm
    unfold Xe;simp only[h,jS,jr];show _=some (X5p q (Xj n (X1w q.CoRecord x::l.map (X1w q.CoRecord)) c));rw[X4z];cases hok:okN n c with
    | false=>rfl
    | true =>
      have c1:((k:Int)==(q.seen.length:Int))=false:=X3B (by omega)
      have c2:decide ((k:Int)<(q.seen.length:Int))=true:=by simp;omega
      have c3:decide (0<=x.Device)=true:=by simp[g.dev.1]
      have c4:decide (x.Device<(q.CoRecord.Devices.length:Int))=true:=by simp[g.dev.2]
      have c5:Nat.ble (n*(32+1)) 100000000000000=true:=by rw[Nat.ble_eq];omega
      have c6:Nat.ble ((n+1)*(32+1)) 200000000000000=true:=by rw[Nat.ble_eq];omega
      have c7:Nat.blt 0 4=true:=rfl;have t:(q.CoRecord.Entries++[Zn.mk x.Device (-1) (ZZ.mk 0 0)]).length=n+1:=by rw[List.length_append,List.length_singleton,o]
      simp only[Bool.not_true,jA,c1,c2,c3,c4,o,c5,List.length_singleton,c6,c7,z0S,ju,jB,kS,a0,if_true,t];unfold XF;refine Eq.trans (X1u _ _ (n+1) (fun i (b:Int×Z8)=>((i:Int),b.1,b.2,q,false,q,q)) (fun i b => -1<=b.2.from_/\b.2.from_<i)
        (fun i b=>some (X5p q ((X4J n x.Device x.State q.CoRecord.Entries i b.1 b.2.from_).flatMap fun s=>Xj n (l.map (X1w q.CoRecord)) (W0 n c (X2h s) x.At.Lo x.At.Hi)))) ?_ ?_ 0
        ((q.CoRecord.Devices.getD x.Device.toNat ⟨ByteArray.empty,0,0⟩).First,⟨-1,0⟩) (by omega) ⟨by simp,by simp⟩) ?_
      · intro b hP R
        have e1:decide (((n+1:Nat):Int)<((n+1:Nat):Int))=false:=by simp
        simp only[X9,X1,e1,jA,X4K];rfl
      · intro i b hi hP R hR
        obtain⟨now,s⟩:=b;obtain⟨v,hP2⟩:=hP;simp only at v hP2;generalize hX:(q.CoRecord.Entries++[Zn.mk x.Device (-1) (ZZ.mk 0 0)]).getD i (Zn.mk 0 0 (ZZ.mk 0 0))=X;simp only;rw[X5L o x.Device x.State hi now s.from_ hX];have e1:decide ((i:Int)<((n+1:Nat):Int))=true:=by simp;omega
        have e3:Nat.blt i (n+1)=true:=by rw[Nat.blt_eq];exact hi
        have w1:=wS i (by omega)
        have w2:=wS k (by omega)
        have w3:IntKind.wrap .i64 (x.At.Lo+1)=x.At.Lo+1:=by have:=g.lo;rw[w64]<;>omega
        have hl2:=a.1;have b1:Nat.ble (ap.length*(16+1)) 100000000000000=true:=by rw[Nat.ble_eq];omega
        have b2:Nat.ble ((ap.length+1)*(16+1)) 200000000000000=true:=by rw[Nat.ble_eq];omega
        have b3:Nat.blt 0 2=true:=rfl;have hxl:=g.lo;have w:=g.hi;simp only[X9,X1,t,e1,e3,z0S,ju,jB,kS,w1,w2,w3,hX,o,b1,b2,b3,List.length_singleton]
        by_cases hdv:X.Device=x.Device
        · have d1:(X.Device != x.Device)=false:=by simp[hdv]
          simp only[d1,jA];rw[if_pos hdv]
          by_cases hnow:now=x.State
          · have d2:(now==x.State)=true:=by simp[hnow]
            simp only[d2,jB];rw[if_pos hnow,List.singleton_append,List.flatMap_cons];generalize hrest:((X4J n x.Device x.State q.CoRecord.Entries (i+1) X.State (i:Int)).flatMap fun s=>Xj n (l.map (X1w q.CoRecord)) (W0 n c (X2h s) x.At.Lo x.At.Hi))=rest;have m:R (((i+1:Nat):Int),X.State,Z8.mk (i:Int) (i:Int),q,false,q,q)=some (X5p q rest):=by
              rw[<-hrest];exact hR (X.State,⟨(i:Int),(i:Int)⟩) ⟨by simp only;omega,by simp only;omega⟩
            show _=some (X5p q (Xj n (l.map (X1w q.CoRecord)) (W0 n c (s.from_,(i:Int).toNat) x.At.Lo x.At.Hi)++rest));rw[kS]
            by_cases hf:0<=s.from_
            · obtain⟨f,z⟩:=Int.eq_ofNat_of_zero_le hf
              have f1:decide ((f:Int)>=0)=true:=by simp
              have f2:decide ((f:Int)<(10:Int))=true:=by simp;omega
              have f3:Nat.blt f 10=true:=by rw[Nat.blt_eq];omega
              by_cases hin:i<n
              · have g1:decide ((i:Int)<(n:Int))=true:=by simp;omega
                have g2:decide ((i:Int)<(10:Int))=true:=by simp;omega
                have g3:Nat.blt i 10=true:=by rw[Nat.blt_eq];omega
                simp only[z,f1,f2,f3,g1,g2,g3,z0S,kS,ju,jB];rw[j _ _ ?b1h1 ?b1h2 (W0 n c ((f:Int),i) x.At.Lo x.At.Hi) ?b1h3]
                case b1h1=>exact(r.hi f w).lo i (by omega)
                case b1h2=>exact a.add (by omega) hin
                case b1h3=>rw[<-hc];exact X5E u ap hin x.At.Lo x.At.Hi
                generalize Xj n (l.map (X1w q.CoRecord)) (W0 n c ((f:Int),i) x.At.Lo x.At.Hi)=L1;cases L1 with
                | nil=>exact m
                | cons y ys=>rfl
              · have g1:decide ((i:Int)<(n:Int))=false:=by simp;omega
                simp only[z,f1,f2,f3,g1,z0S,kS,ju,jB,jA];rw[j _ _ ?b2h1 ?b2h2 (W0 n c ((f:Int),i) x.At.Lo x.At.Hi) ?b2h3]
                case b2h1=>exact r.hi f w
                case b2h2=>exact a.keep
                case b2h3=>rw[<-hc];exact X6B u ap hin x.At.Lo x.At.Hi
                generalize Xj n (l.map (X1w q.CoRecord)) (W0 n c ((f:Int),i) x.At.Lo x.At.Hi)=L1;cases L1 with
                | nil=>exact m
                | cons y ys=>rfl
            · have f1:decide (s.from_>=0)=false:=by simp;omega
              by_cases hin:i<n
              · have g1:decide ((i:Int)<(n:Int))=true:=by simp;omega
                have g2:decide ((i:Int)<(10:Int))=true:=by simp;omega
                have g3:Nat.blt i 10=true:=by rw[Nat.blt_eq];omega
                simp only[f1,g1,g2,g3,z0S,kS,ju,jB,jA];rw[j _ _ ?b3h1 ?b3h2 (W0 n c (s.from_,i) x.At.Lo x.At.Hi) ?b3h3]
                case b3h1=>exact r.lo i (by omega)
                case b3h2=>exact a.keep
                case b3h3=>rw[<-hc];exact X6C u ap hf hin x.At.Lo x.At.Hi
                generalize Xj n (l.map (X1w q.CoRecord)) (W0 n c (s.from_,i) x.At.Lo x.At.Hi)=L1;cases L1 with
                | nil=>exact m
                | cons y ys=>rfl
              · have g1:decide ((i:Int)<(n:Int))=false:=by simp;omega
                simp only[f1,g1,z0S,kS,ju,jB,jA];rw[j _ _ ?b4h1 ?b4h2 (W0 n c (s.from_,i) x.At.Lo x.At.Hi) ?b4h3]
                case b4h1=>exact r
                case b4h2=>exact a.keep
                case b4h3=>rw[<-hc];exact X6D u ap hf hin x.At.Lo x.At.Hi
                generalize Xj n (l.map (X1w q.CoRecord)) (W0 n c (s.from_,i) x.At.Lo x.At.Hi)=L1;cases L1 with
                | nil=>exact m
                | cons y ys=>rfl
          · have d2:(now==x.State)=false:=X3B hnow
            simp only[d2,jA];rw[if_neg hnow,List.nil_append];exact hR (X.State,⟨(i:Int),(i:Int)⟩) ⟨by simp only;omega,by simp only;omega⟩
        · have d1:(X.Device != x.Device)=true:=X2Q hdv
          simp only[d1,jB];rw[if_neg hdv];exact hR (now,s) ⟨v,by simp only;omega⟩
      · simp only[if_true]
        show some (X5p q ((X4J n x.Device x.State q.CoRecord.Entries 0 (q.CoRecord.Devices.getD x.Device.toNat ⟨ByteArray.empty,0,0⟩).First (-1)).flatMap fun s=>Xj n (l.map (X1w q.CoRecord)) (W0 n c (X2h s) x.At.Lo x.At.Hi)))=_;have e:X4J n x.Device x.State q.CoRecord.Entries 0 (q.CoRecord.Devices.getD x.Device.toNat ⟨ByteArray.empty,0,0⟩).First (-1)=X2n q.CoRecord x:=if_pos (Nat.zero_le _);rw[e];show _=some (X5p q (((X2n q.CoRecord x).map X2h).flatMap fun s=>Xj n (l.map (X1w q.CoRecord)) (W0 n c s x.At.Lo x.At.Hi)));rw[List.flatMap_map]
theorem X48 (q:Z9) (n:Nat) (e:q.CoRecord.Entries.length=n) (a:n<=10) (b:q.seen.length<=8) (d:∀x∈q.seen,X2c q.CoRecord x) :
    ∀(l:List Zt) (k:Nat),k+l.length=q.seen.length->q.seen.drop k=l->∀(u:Nat->ZZ) (ap:List Z8),UBd u->ApK n k ap->∀c,X2G u ap=c →
      Z9y X4 (l.length+1) (u,(k:Int),ap,q,false,q,q)=some (X5p q (Xj n (l.map (X1w q.CoRecord)) c))
  | [],k,hk,hd,u,ap,hu,hap,c,hc=>X3u q n e a b d (Z9y X4 0) [] k hk hd (fun _ _ h=>by cases h) u ap hu hap c hc
  | x::l,k,hk,hd,u,ap,hu,hap,c,hc=>X3u q n e a b d (Z9y X4 (l.length+1)) (x::l) k hk hd (fun x' l' h g f=>by
      injection h with _ h
      subst h;exact X48 q n e a b d l (k+1) g f) u ap hu hap c hc
theorem X5B (q:Z9) (n:Nat) (i:q.CoRecord.Entries.length=n) (a:n<=10) (c:q.seen.length<=8) (e:∀x∈q.seen,X2c q.CoRecord x) (k:Nat) (j:k<=q.seen.length) (u:Nat->ZZ) (ap:List Z8) (d:UBd u) (b:ApK n k ap) :
    XP (u,(k:Int),ap,q,false,q,q)=some (X5p q (Xj n ((q.seen.drop k).map (X1w q.CoRecord)) (X2G u ap))) :=
  X4t (fun f g h x r hr=>X5t f g h x r hr) (X48 q n i a c e (q.seen.drop k) k (by rw[List.length_drop];omega) rfl u ap d b _ rfl)
end Nore
open Go Go.Ab
namespace Nore
theorem X5A (q:Z9) (n:Nat) (g:q.CoRecord.Entries.length=n) (a:n<=10) (f:q.seen.length<=8) (b:∀x∈q.seen,X2c q.CoRecord x) (u:Nat->ZZ) (d:UBd u) :
    XO (u,0,q,false,q,q)=some (X5p q (Xj n (q.seen.map (X1w q.CoRecord)) (X2G u []))):=by
  rw[X1B];exact X3u q n g a f b XP q.seen 0 (by omega) rfl (fun x l' h j i u ap d e c hc=>by
    rw[X5B q n g a f b 1 (by omega) u ap d e,hc,i]) u [] d ⟨Nat.le_refl _,fun s b=>by cases b⟩ _ rfl
def X2u (r:CoRecord):Nat->ZZ:=fun j=>(r.Entries.getD j (Zn.mk 0 0 (ZZ.mk 0 0))).At
theorem X6c {r:CoRecord} (h:X4U r):UBd (X2u r):=fun i=>by
  unfold X2u
  by_cases hi:i<r.Entries.length
  · rw[XI _ _ _ hi]
    exact h.2 _ (jl hi)
  · have:r.Entries.getD i (Zn.mk 0 0 (ZZ.mk 0 0))=Zn.mk 0 0 (ZZ.mk 0 0):=by simp[List.getD,List.getElem?_eq_none (by omega:r.Entries.length<=i)]
    rw[this];simp
theorem X6b (r:CoRecord) (g:r.Entries.length<=10) (x3 x4:Z9) (x6:Bool) (x7:Z9) :
    XS r.Entries (r.Entries.length:Int) x3 x4 x6 x7 (0,fun _=>ZZ.mk 0 0)=some (X2u r):=by
  obtain⟨w,f,d⟩:=WD (Xg r.Entries (r.Entries.length:Int) x3 x4 x6 x7) r.Entries.length (fun i (b:Nat->ZZ)=>((i:Int),b))
    (fun i b=>∀j,b j=if j<i then X2u r j else ZZ.mk 0 0) (fun w=>w=X2u r)
    (fun b c=>⟨b,by simp[Xg,X6],funext fun j=>by
      rw[c j];split
      · rfl
      · rename_i h
        unfold X2u;rw[show r.Entries.getD j (Zn.mk 0 0 (ZZ.mk 0 0))=Zn.mk 0 0 (ZZ.mk 0 0) by simp[List.getD,List.getElem?_eq_none (by omega:r.Entries.length<=j)]]⟩)
    (fun i b hi c=>by
      right;have e1:decide ((i:Int)<(r.Entries.length:Int))=true:=by simp;omega
      have e2:decide ((i:Int)<(10:Int))=true:=by simp;omega
      have e3:Nat.blt i 10=true:=by rw[Nat.blt_eq];omega
      have w1:=wS i (by omega)
      simp only[Xg,X6,e1,e2,e3,z0S,kS,ju,jB,w1];refine⟨_,rfl,fun j=>?_⟩;cases e:Nat.beq j i with
      | true =>
        have:=je e;subst this;rw[if_pos (by omega)];rfl
      | false =>
        have:=Nat.ne_of_beq_eq_false e;simp only[jA];rw[c j]
        by_cases h:j<i
        · rw[if_pos h,if_pos (by omega)]
        · rw[if_neg h,if_neg (by omega)]) 0 (fun _=>ZZ.mk 0 0) (Nat.zero_le _) (fun j=>by simp)
  have a:XS r.Entries (r.Entries.length:Int) x3 x4 x6 x7 (0,fun _=>ZZ.mk 0 0)=some w:=f;rw[a,d]
theorem X55 (q:Z9) (h:X4U q.CoRecord) (a:q.seen.length<=8) (b:∀x∈q.seen,X2c q.CoRecord x) :
    WZ q=some (!(Xj q.CoRecord.Entries.length (q.seen.map (X1w q.CoRecord)) (X2G (X2u q.CoRecord) [])).isEmpty):=by
  rw[X2H];unfold Wd;rw[X1Z];unfold XD;simp only[X6b q.CoRecord h.1,jS];rw[X5A q _ rfl h.1 a b _ (X6c h)];simp only[jS];generalize Xj q.CoRecord.Entries.length (q.seen.map (X1w q.CoRecord)) (X2G (X2u q.CoRecord) [])=L;cases L with
  | nil=>rfl
  | cons y ys=>rfl
end Nore
open Go Go.Ab
namespace Nore
def mmN (n:Nat) (l t:Nat->ZZ):Nat->ZZ:=fun j=>if j<n then⟨if(l j).Lo<(t j).Lo then(l j).Lo else(t j).Lo,if(l j).Hi>(t j).Hi then(l j).Hi else(t j).Hi⟩else t j
def ZcY (n:Nat) (s:Bool×(Nat->ZZ)) (c:Con):Bool×(Nat->ZZ):=(true,mmN n (spN c.lo c.hi) (if s.1 then s.2 else spN c.lo c.hi))
theorem X6V (n i:Nat) (l t:Nat->ZZ):(fun j=>bif Nat.beq j i then ZZ.mk (bif decide ((l i).Lo<(t i).Lo)then(l i).Lo else(t i).Lo) (bif decide ((l i).Hi>(t i).Hi)then(l i).Hi else(t i).Hi)else mmN i l t j)=mmN (i+1) l t:=by
  funext j;cases e:Nat.beq j i with
  | true =>
    have:=je e;subst this;have e1:j<j+1:=by omega
    simp only[mmN,jB,e1,if_true]
    by_cases h1:(l j).Lo<(t j).Lo<;>by_cases h2:(l j).Hi>(t j).Hi<;>simp[h1,h2]
  | false =>
    have:=Nat.ne_of_beq_eq_false e;simp only[mmN,jA]
    by_cases h:j<i
    · have e1:j<i+1:=by omega
      simp only[h,e1,if_true]
    · have e1:¬j<i+1:=by omega
      simp only[h,e1,if_false]
theorem X51 (n:Nat) (g:n<=10) (l t:Nat->ZZ) (x2 x4:Z9) (x6:Int) (x7:Bool) (x8:List Zt) (x9:Int) (x10:CoRecord) (x11:Bool) (x12:CoRecord) :
    XG (n:Int) x2 x4 l x6 x7 x8 x9 x10 x11 x12 (0,t)=some (mmN n l t):=by
  obtain⟨w,f,e⟩:=WD (Xa (n:Int) x2 x4 l x6 x7 x8 x9 x10 x11 x12) n (fun i (b:Nat->ZZ)=>((i:Int),b)) (fun i b=>b=mmN i l t) (fun w=>w=mmN n l t)
    (fun b a=>⟨b,by simp[Xa,X0],a⟩)
    (fun i b hi a=>by
      right;have e1:decide ((i:Int)<(n:Int))=true:=by simp;omega
      have e2:decide ((i:Int)<(10:Int))=true:=by simp;omega
      have e3:Nat.blt i 10=true:=by rw[Nat.blt_eq];omega
      have w1:=wS i (by omega)
      have d:b i=t i:=by rw[a];unfold mmN;rw[if_neg (by omega)]
      simp only[Xa,X0,e1,e2,e3,z0S,kS,ju,jB,w1,d];refine⟨_,rfl,?_⟩;rw[a];exact X6V n i l t) 0 t (Nat.zero_le _) (funext fun j=>by unfold mmN;rw[if_neg (by omega)])
  have c:XG (n:Int) x2 x4 l x6 x7 x8 x9 x10 x11 x12 (0,t)=some w:=f;rw[c,e]
theorem X6m (ih:((Nat->ZZ)×Int×(List Z8)×Z9×(Nat->ZZ)×Z9×Int×Bool×(List Zt)×Int×CoRecord×Bool×CoRecord)->Option (Bool×Z9×(Nat->ZZ)×Z9×Int×Bool×(List Zt)×Int×CoRecord×Bool×CoRecord)) (n:Nat) (a:n<=10) (l t:Nat->ZZ) (x2 x4:Z9) (x6:Int) (x7:Bool) (x8:List Zt) (x9:Int) (x10:CoRecord) (x11:Bool) (x12:CoRecord) :
    Wa ih (n:Int) x2 x4 l x6 x7 x8 x9 x10 x11 x12 (0,t)=some (mmN n l t) :=
  X51 n a l t x2 x4 x6 x7 x8 x9 x10 x11 x12
theorem X6n (ih:((Nat->ZZ)×Int×(List Z8)×Z9×(Nat->ZZ)×Z9×Int×Bool×(List Zt)×Int×CoRecord×Bool×CoRecord)->Option (Bool×Z9×(Nat->ZZ)×Z9×Int×Bool×(List Zt)×Int×CoRecord×Bool×CoRecord)) (n:Nat) (a:n<=10) (l t:Nat->ZZ) (x2 x4:Z9) (x6:Int) (x7:Bool) (x8:List Zt) (x9:Int) (x10:CoRecord) (x11:Bool) (x12:CoRecord) :
    Wb ih (n:Int) x2 x4 l x6 x7 x8 x9 x10 x11 x12 (0,t)=some (mmN n l t) :=
  X51 n a l t x2 x4 x6 x7 x8 x9 x10 x11 x12
theorem X5u (f g:((Nat->ZZ)×Int×(List Z8)×Z9×(Nat->ZZ)×Z9×Int×Bool×(List Zt)×Int×CoRecord×Bool×CoRecord)->Option (Bool×Z9×(Nat->ZZ)×Z9×Int×Bool×(List Zt)×Int×CoRecord×Bool×CoRecord)) (h:∀x,LeO (f x) (g x)) (x):LeO (X5 f x) (X5 g x):=by
  unfold X5 Xf;refine .bind (.same _) fun a=>.cond (.same _) (.cond ?_ (.cond (.cond (.cond (.cond (.bind ?_ fun _=>.same _) (.same _)) (.same _)) (.same _)) (.same _)))
  · exact .cond (.bind (.same _) fun _=>.same _) (.bind (.same _) fun _=>.same _)
  unfold XH;refine LeO.run (fun s=>?_) _;unfold Xb X2;dsimp only
  repeat' (first|with_reducible exact LeO.same _|with_reducible exact LeO.bind (h _) fun _=>LeO.same _|with_reducible apply LeO.cond)
end Nore
open Go Go.Ab
namespace Nore
def X4F (n:Nat) (q q5:Z9) (n6:Int) (b7:Bool) (l8:List Zt) (n9:Int) (r10 r12:CoRecord) (fd:Bool) (tm:Nat->ZZ) (L:List Con):Bool×Z9×(Nat->ZZ)×Z9×Int×Bool×(List Zt)×Int×CoRecord×Bool×CoRecord :=
  (true,q,(L.foldl (ZcY n) (fd,tm)).2,q5,n6,b7,l8,n9,r10,(L.foldl (ZcY n) (fd,tm)).1,r12)
theorem X4G (n:Nat) (q q5:Z9) (n6:Int) (b7:Bool) (l8:List Zt) (n9:Int) (r10 r12:CoRecord) (fd:Bool) (tm:Nat->ZZ) (L M:List Con) :
    X4F n q q5 n6 b7 l8 n9 r10 r12 fd tm (L++M)=X4F n q q5 n6 b7 l8 n9 r10 r12 (L.foldl (ZcY n) (fd,tm)).1 (L.foldl (ZcY n) (fd,tm)).2 M:=by
  unfold X4F;rw[List.foldl_append]
theorem X3v (q q5:Z9) (n6:Int) (b7:Bool) (l8:List Zt) (n9:Int) (r10 r12:CoRecord) (n:Nat) (o:q.CoRecord.Entries.length=n) (hr:r12.Entries.length=n) (y:n<=10) (h8:q.seen.length<=8) (hs:∀x∈q.seen,X2c q.CoRecord x)
    (ih0:((Nat->ZZ)×Int×(List Z8)×Z9×(Nat->ZZ)×Z9×Int×Bool×(List Zt)×Int×CoRecord×Bool×CoRecord)->Option (Bool×Z9×(Nat->ZZ)×Z9×Int×Bool×(List Zt)×Int×CoRecord×Bool×CoRecord)) (l:List Zt) (k:Nat) (hk:k+l.length=q.seen.length) (hd:q.seen.drop k=l)
    (ih:∀x l',l=x::l'->k+1+l'.length=q.seen.length->q.seen.drop (k+1)=l'->∀(u:Nat->ZZ) (ap:List Z8),UBd u->ApK n (k+1) ap->∀c,X2G u ap=c->∀(fd:Bool) (tm:Nat->ZZ),ih0 (u,((k+1:Nat):Int),ap,q,tm,q5,n6,b7,l8,n9,r10,fd,r12)=some (X4F n q q5 n6 b7 l8 n9 r10 r12 fd tm (Xj n (l'.map (X1w q.CoRecord)) c)))
    (u:Nat->ZZ) (ap:List Z8) (r:UBd u) (a:ApK n k ap) (c:Con) (hc:X2G u ap=c) (fd:Bool) (tm:Nat->ZZ) :
    Xf ih0 u (k:Int) ap q tm q5 n6 b7 l8 n9 r10 fd r12=some (X4F n q q5 n6 b7 l8 n9 r10 r12 fd tm (Xj n (l.map (X1w q.CoRecord)) c)):=by
  cases l with
  | nil =>
    have h:=X3z q u ap r (o▸a) (by omega) (by omega)
    rw[o,hc]at h;unfold Xf;simp only[h,jS,List.map_nil,X4W];have c1:((k:Int)==(q.seen.length:Int))=true:=by simp only[List.length_nil,Nat.add_zero]at hk;simp[hk]
    cases okN n c with
    | false=>rfl
    | true =>
      simp only[Bool.not_true,jA,c1,jB,hr,if_true];cases fd with
      | false =>
        rw[X6m _ n y];rfl
      | true =>
        rw[X6n _ n y];rfl
  | cons x l =>
    simp only[List.length_cons]at hk;have h:=X3z q u ap r (o▸a) (by omega) (by omega)
    rw[o,hc]at h;have p:k<q.seen.length:=by omega
    have d:q.seen.drop k=q.seen[k]::q.seen.drop (k+1):=jb p;rw[hd]at d;injection d with hx hl
    have g:X2c q.CoRecord x:=hs x (hx▸jl p);have v:q.seen.getD k (Zt.mk 0 0 (ZZ.mk 0 0))=x:=by rw[XI _ _ _ p,<-hx]
    have j:=ih x l rfl (by omega) hl.symm
    unfold Xf;simp only[h,jS,jr];show _=some (X4F n q q5 n6 b7 l8 n9 r10 r12 fd tm (Xj n (X1w q.CoRecord x::l.map (X1w q.CoRecord)) c));rw[X4z];cases hok:okN n c with
    | false=>rfl
    | true =>
      have c1:((k:Int)==(q.seen.length:Int))=false:=X3B (by omega)
      have c2:decide ((k:Int)<(q.seen.length:Int))=true:=by simp;omega
      have c3:decide (0<=x.Device)=true:=by simp[g.dev.1]
      have c4:decide (x.Device<(q.CoRecord.Devices.length:Int))=true:=by simp[g.dev.2]
      have c5:Nat.ble (n*(32+1)) 100000000000000=true:=by rw[Nat.ble_eq];omega
      have c6:Nat.ble ((n+1)*(32+1)) 200000000000000=true:=by rw[Nat.ble_eq];omega
      have c7:Nat.blt 0 4=true:=rfl;have w:(q.CoRecord.Entries++[Zn.mk x.Device (-1) (ZZ.mk 0 0)]).length=n+1:=by rw[List.length_append,List.length_singleton,o]
      simp only[Bool.not_true,jA,c1,c2,c3,c4,o,c5,List.length_singleton,c6,c7,z0S,ju,jB,kS,v,if_true,w];unfold XH;refine Eq.trans (X1u _ _ (n+1) (fun i (b:Int×Z8×Bool×(Nat->ZZ))=>((i:Int),b.1,q,b.2.2.2,q5,b.2.1,n6,b7,l8,n9,r10,b.2.2.1,r12)) (fun i b => -1<=b.2.1.from_/\b.2.1.from_<i)
        (fun i b=>some (X4F n q q5 n6 b7 l8 n9 r10 r12 b.2.2.1 b.2.2.2 ((X4J n x.Device x.State q.CoRecord.Entries i b.1 b.2.1.from_).flatMap fun s=>Xj n (l.map (X1w q.CoRecord)) (W0 n c (X2h s) x.At.Lo x.At.Hi)))) ?_ ?_ 0
        ((q.CoRecord.Devices.getD x.Device.toNat ⟨ByteArray.empty,0,0⟩).First,⟨-1,0⟩,fd,tm) (by omega) ⟨by simp,by simp⟩) ?_
      · intro b hP R
        have e1:decide (((n+1:Nat):Int)<((n+1:Nat):Int))=false:=by simp
        simp only[Xb,X2,e1,jA,X4K];rfl
      · intro i b hi hP R hR
        obtain⟨now,s,fd,tm⟩:=b;obtain⟨t,hP2⟩:=hP;simp only at t hP2;generalize hX:(q.CoRecord.Entries++[Zn.mk x.Device (-1) (ZZ.mk 0 0)]).getD i (Zn.mk 0 0 (ZZ.mk 0 0))=X;simp only;rw[X5L o x.Device x.State hi now s.from_ hX];have e1:decide ((i:Int)<((n+1:Nat):Int))=true:=by simp;omega
        have e3:Nat.blt i (n+1)=true:=by rw[Nat.blt_eq];exact hi
        have w1:=wS i (by omega)
        have w2:=wS k (by omega)
        have w3:IntKind.wrap .i64 (x.At.Lo+1)=x.At.Lo+1:=by have:=g.lo;rw[w64]<;>omega
        have hl2:=a.1;have b1:Nat.ble (ap.length*(16+1)) 100000000000000=true:=by rw[Nat.ble_eq];omega
        have b2:Nat.ble ((ap.length+1)*(16+1)) 200000000000000=true:=by rw[Nat.ble_eq];omega
        have b3:Nat.blt 0 2=true:=rfl;have hxl:=g.lo;have z:=g.hi;simp only[Xb,X2,w,e1,e3,z0S,ju,jB,kS,w1,w2,w3,hX,o,b1,b2,b3,List.length_singleton]
        by_cases hdv:X.Device=x.Device
        · have d1:(X.Device != x.Device)=false:=by simp[hdv]
          simp only[d1,jA];rw[if_pos hdv]
          by_cases hnow:now=x.State
          · have d2:(now==x.State)=true:=by simp[hnow]
            simp only[d2,jB];rw[if_pos hnow,List.singleton_append,List.flatMap_cons];generalize hrest:((X4J n x.Device x.State q.CoRecord.Entries (i+1) X.State (i:Int)).flatMap fun s=>Xj n (l.map (X1w q.CoRecord)) (W0 n c (X2h s) x.At.Lo x.At.Hi))=rest;have m:∀fd tm,R (((i+1:Nat):Int),X.State,q,tm,q5,Z8.mk (i:Int) (i:Int),n6,b7,l8,n9,r10,fd,r12)=some (X4F n q q5 n6 b7 l8 n9 r10 r12 fd tm rest):=fun fd tm=>by
              rw[<-hrest];exact hR (X.State,⟨(i:Int),(i:Int)⟩,fd,tm) ⟨by simp only;omega,by simp only;omega⟩
            show _=some (X4F n q q5 n6 b7 l8 n9 r10 r12 fd tm (Xj n (l.map (X1w q.CoRecord)) (W0 n c (s.from_,(i:Int).toNat) x.At.Lo x.At.Hi)++rest));rw[kS]
            by_cases hf:0<=s.from_
            · obtain⟨f,a0⟩:=Int.eq_ofNat_of_zero_le hf
              have f1:decide ((f:Int)>=0)=true:=by simp
              have f2:decide ((f:Int)<(10:Int))=true:=by simp;omega
              have f3:Nat.blt f 10=true:=by rw[Nat.blt_eq];omega
              by_cases hin:i<n
              · have g1:decide ((i:Int)<(n:Int))=true:=by simp;omega
                have g2:decide ((i:Int)<(10:Int))=true:=by simp;omega
                have g3:Nat.blt i 10=true:=by rw[Nat.blt_eq];omega
                simp only[a0,f1,f2,f3,g1,g2,g3,z0S,kS,ju,jB];rw[j _ _ ?b1h1 ?b1h2 (W0 n c ((f:Int),i) x.At.Lo x.At.Hi) ?b1h3]
                case b1h1=>exact(r.hi f z).lo i (by omega)
                case b1h2=>exact a.add (by omega) hin
                case b1h3=>rw[<-hc];exact X5E u ap hin x.At.Lo x.At.Hi
                rw[X4G];exact m _ _
              · have g1:decide ((i:Int)<(n:Int))=false:=by simp;omega
                simp only[a0,f1,f2,f3,g1,z0S,kS,ju,jB,jA];rw[j _ _ ?b2h1 ?b2h2 (W0 n c ((f:Int),i) x.At.Lo x.At.Hi) ?b2h3]
                case b2h1=>exact r.hi f z
                case b2h2=>exact a.keep
                case b2h3=>rw[<-hc];exact X6B u ap hin x.At.Lo x.At.Hi
                rw[X4G];exact m _ _
            · have f1:decide (s.from_>=0)=false:=by simp;omega
              by_cases hin:i<n
              · have g1:decide ((i:Int)<(n:Int))=true:=by simp;omega
                have g2:decide ((i:Int)<(10:Int))=true:=by simp;omega
                have g3:Nat.blt i 10=true:=by rw[Nat.blt_eq];omega
                simp only[f1,g1,g2,g3,z0S,kS,ju,jB,jA];rw[j _ _ ?b3h1 ?b3h2 (W0 n c (s.from_,i) x.At.Lo x.At.Hi) ?b3h3]
                case b3h1=>exact r.lo i (by omega)
                case b3h2=>exact a.keep
                case b3h3=>rw[<-hc];exact X6C u ap hf hin x.At.Lo x.At.Hi
                rw[X4G];exact m _ _
              · have g1:decide ((i:Int)<(n:Int))=false:=by simp;omega
                simp only[f1,g1,z0S,kS,ju,jB,jA];rw[j _ _ ?b4h1 ?b4h2 (W0 n c (s.from_,i) x.At.Lo x.At.Hi) ?b4h3]
                case b4h1=>exact r
                case b4h2=>exact a.keep
                case b4h3=>rw[<-hc];exact X6D u ap hf hin x.At.Lo x.At.Hi
                rw[X4G];exact m _ _
          · have d2:(now==x.State)=false:=X3B hnow
            simp only[d2,jA];rw[if_neg hnow,List.nil_append];exact hR (X.State,⟨(i:Int),(i:Int)⟩,fd,tm) ⟨by simp only;omega,by simp only;omega⟩
        · have d1:(X.Device != x.Device)=true:=X2Q hdv
          simp only[d1,jB];rw[if_neg hdv];exact hR (now,s,fd,tm) ⟨t,by simp only;omega⟩
      · simp only[if_true]
        show some (X4F n q q5 n6 b7 l8 n9 r10 r12 fd tm ((X4J n x.Device x.State q.CoRecord.Entries 0 (q.CoRecord.Devices.getD x.Device.toNat ⟨ByteArray.empty,0,0⟩).First (-1)).flatMap fun s=>Xj n (l.map (X1w q.CoRecord)) (W0 n c (X2h s) x.At.Lo x.At.Hi)))=_;have e:X4J n x.Device x.State q.CoRecord.Entries 0 (q.CoRecord.Devices.getD x.Device.toNat ⟨ByteArray.empty,0,0⟩).First (-1)=X2n q.CoRecord x:=if_pos (Nat.zero_le _);rw[e];show _=some (X4F n q q5 n6 b7 l8 n9 r10 r12 fd tm (((X2n q.CoRecord x).map X2h).flatMap fun s=>Xj n (l.map (X1w q.CoRecord)) (W0 n c s x.At.Lo x.At.Hi)));rw[List.flatMap_map]
theorem X49 (q q5:Z9) (n6:Int) (b7:Bool) (l8:List Zt) (n9:Int) (r10 r12:CoRecord) (n:Nat) (e:q.CoRecord.Entries.length=n) (hr:r12.Entries.length=n) (a:n<=10) (b:q.seen.length<=8) (d:∀x∈q.seen,X2c q.CoRecord x) :
    ∀(l:List Zt) (k:Nat),k+l.length=q.seen.length->q.seen.drop k=l->∀(u:Nat->ZZ) (ap:List Z8),UBd u->ApK n k ap->∀c,X2G u ap=c->∀(fd:Bool) (tm:Nat->ZZ),
      Z9y X5 (l.length+1) (u,(k:Int),ap,q,tm,q5,n6,b7,l8,n9,r10,fd,r12)=some (X4F n q q5 n6 b7 l8 n9 r10 r12 fd tm (Xj n (l.map (X1w q.CoRecord)) c))
  | [],k,hk,hd,u,ap,hu,hap,c,hc,fd,tm=>X3v q q5 n6 b7 l8 n9 r10 r12 n e hr a b d (Z9y X5 0) [] k hk hd (fun _ _ h=>by cases h) u ap hu hap c hc fd tm
  | x::l,k,hk,hd,u,ap,hu,hap,c,hc,fd,tm=>X3v q q5 n6 b7 l8 n9 r10 r12 n e hr a b d (Z9y X5 (l.length+1)) (x::l) k hk hd (fun x' l' h g f=>by
      injection h with _ h
      subst h;exact X49 q q5 n6 b7 l8 n9 r10 r12 n e hr a b d l (k+1) g f) u ap hu hap c hc fd tm
theorem X5D (q q5:Z9) (n6:Int) (b7:Bool) (l8:List Zt) (n9:Int) (r10 r12:CoRecord) (n:Nat) (i:q.CoRecord.Entries.length=n) (hr:r12.Entries.length=n) (a:n<=10) (c:q.seen.length<=8) (e:∀x∈q.seen,X2c q.CoRecord x) (k:Nat) (j:k<=q.seen.length) (u:Nat->ZZ) (ap:List Z8) (d:UBd u) (b:ApK n k ap) (fd:Bool) (tm:Nat->ZZ) :
    XR (u,(k:Int),ap,q,tm,q5,n6,b7,l8,n9,r10,fd,r12)=some (X4F n q q5 n6 b7 l8 n9 r10 r12 fd tm (Xj n ((q.seen.drop k).map (X1w q.CoRecord)) (X2G u ap))) :=
  X4t (fun f g h x r hr=>X5u f g h x r hr) (X49 q q5 n6 b7 l8 n9 r10 r12 n i hr a c e (q.seen.drop k) k (by rw[List.length_drop];omega) rfl u ap d b _ rfl fd tm)
end Nore
open Go Go.Ab
namespace Nore
theorem X5C (q q5:Z9) (n6:Int) (b7:Bool) (l8:List Zt) (n9:Int) (r10 r12:CoRecord) (n:Nat) (g:q.CoRecord.Entries.length=n) (hr:r12.Entries.length=n) (a:n<=10) (f:q.seen.length<=8) (b:∀x∈q.seen,X2c q.CoRecord x) (u:Nat->ZZ) (d:UBd u) (fd:Bool) (tm:Nat->ZZ) :
    XQ (u,0,q,tm,q5,n6,b7,l8,n9,r10,fd,r12)=some (X4F n q q5 n6 b7 l8 n9 r10 r12 fd tm (Xj n (q.seen.map (X1w q.CoRecord)) (X2G u []))):=by
  rw[X1D];exact X3v q q5 n6 b7 l8 n9 r10 r12 n g hr a f b XR q.seen 0 (by omega) rfl (fun x l' h j i u ap d e c hc fd tm=>by
    rw[X5D q q5 n6 b7 l8 n9 r10 r12 n g hr a f b 1 (by omega) u ap d e,hc,i]) u [] d ⟨Nat.le_refl _,fun s b=>by cases b⟩ _ rfl fd tm
theorem X6S (r:CoRecord) (a:r.Entries.length<=10) (x4:Nat->ZZ) (x5:Z9) (x6:Int) (x7:Bool) (x8:List Zt) (x9:Int) (x10:CoRecord) (x11:Z9) (x12:Bool) (x13:CoRecord) :
    Wv r.Entries (r.Entries.length:Int) x4 x5 x6 x7 x8 x9 x10 x11 x12 x13 (0,fun _=>ZZ.mk 0 0)=some (X2u r) :=
  X6b r a x5 x5 x7 x5
theorem X4j (q q1:Z9) (tm:Nat->ZZ) (n6:Int) (b7:Bool) (l8:List Zt) (n9:Int) (r10 r12:CoRecord) (fd:Bool) (h:X4U q.CoRecord) (hr:r12.Entries.length=q.CoRecord.Entries.length) (a:q.seen.length<=8) (b:∀x∈q.seen,X2c q.CoRecord x) :
    XZ (tm,q1,n6,b7,l8,n9,r10,q,fd,r12)=some (((Xj q.CoRecord.Entries.length (q.seen.map (X1w q.CoRecord)) (X2G (X2u q.CoRecord) [])).foldl (ZcY q.CoRecord.Entries.length) (fd,tm)).2,q1,n6,b7,l8,n9,r10,q,
      ((Xj q.CoRecord.Entries.length (q.seen.map (X1w q.CoRecord)) (X2G (X2u q.CoRecord) [])).foldl (ZcY q.CoRecord.Entries.length) (fd,tm)).1,r12):=by
  rw[X21];unfold XE;simp only[X6S q.CoRecord h.1,jS];rw[X5C q q1 n6 b7 l8 n9 r10 r12 _ rfl hr h.1 a b _ (X6c h)];rfl
end Nore
open Go Go.Ab
namespace Nore
def X3H (i:Nat) (s:ZZ) (c:Con):ZZ:=⟨if c.lo i<s.Lo then c.lo i else s.Lo,if c.hi i>s.Hi then c.hi i else s.Hi⟩
theorem X5h (n:Nat):∀(L:List Con) (t:Nat->ZZ),L.foldl (ZcY n) (true,t)=(true,fun j=>if j<n then L.foldl (X3H j) (t j)else t j)
  | [],t=>by
    simp only[List.foldl_nil,ite_self]
  | c::L,t=>by
    rw[List.foldl_cons];show L.foldl (ZcY n) (true,mmN n (spN c.lo c.hi) t)=_;rw[X5h n L];congr 1;funext j
    by_cases h:j<n
    · rw[if_pos h,if_pos h,List.foldl_cons]
      congr 1;unfold mmN;rw[if_pos h];rfl
    · rw[if_neg h,if_neg h]
      unfold mmN;rw[if_neg h]
theorem X6f (n:Nat) (c:Con) (L:List Con) (tm:Nat->ZZ):(c::L).foldl (ZcY n) (false,tm)=(true,fun j=>if j<n then(c::L).foldl (X3H j) ⟨c.lo j,c.hi j⟩else⟨c.lo j,c.hi j⟩):=by
  rw[List.foldl_cons];show L.foldl (ZcY n) (true,mmN n (spN c.lo c.hi) (spN c.lo c.hi))=_;rw[X5h n L];congr 1;funext j
  by_cases h:j<n
  · rw[if_pos h,if_pos h,List.foldl_cons]
    congr 1;unfold mmN;rw[if_pos h];rfl
  · rw[if_neg h,if_neg h]
    unfold mmN;rw[if_neg h];rfl
theorem X5G {n j:Nat} (c:j<n):∀(L M:List Con) (s:ZZ),X5a (X6A n) L M->L.foldl (X3H j) s=M.foldl (X3H j) s
  | [],[],_,_=>rfl
  | a::L,b::M,s,h=>by
    rw[List.foldl_cons,List.foldl_cons];have:X3H j s a=X3H j s b:=by
      unfold X3H;rw[h.1.1 j c,h.1.2 j c]
    rw[this];exact X5G c L M _ h.2
  | [],_::_,_,h=>h.elim
  | _::_,[],_,h=>h.elim
theorem X69 {α β:Type} {R:α->β->Prop}:∀{L:List α} {M:List β},X5a R L M->L.isEmpty=M.isEmpty
  | [],[],_=>rfl
  | _::_,_::_,_=>rfl
  | [],_::_,h=>h.elim
  | _::_,[],h=>h.elim
def X2M (n:Nat) (L:List Con):List ZZ:=(List.range n).map fun j=>L.foldl (X3H j) ⟨(L.headD ⟨fun _=>0,fun _=>0,[]⟩).lo j,(L.headD ⟨fun _=>0,fun _=>0,[]⟩).hi j⟩
theorem X6u {n:Nat} {L M:List Con} (h:X5a (X6A n) L M):X2M n L=X2M n M:=by
  unfold X2M;refine List.map_congr_left fun j c=>?_;have c:=List.mem_range.1 c;rw[X5G c L M _ h];cases L with
  | nil=>cases M with
    | nil=>rfl
    | cons _ _=>exact h.elim
  | cons a L=>cases M with
    | nil=>exact h.elim
    | cons b M =>
      show M.foldl (X3H j) (X3H j ⟨a.lo j,a.hi j⟩ b)=M.foldl (X3H j) (X3H j ⟨b.lo j,b.hi j⟩ b);rw[h.1.1 j c,h.1.2 j c]
structure X67 (r:CoRecord) (l:List Zt):Prop where
  ent:X4U r
  many:l.length<=8
  seen:∀x∈l,X2c r x
theorem X74 (r:CoRecord) (l:List Zt):∀w∈l.map (X1w r),X72 r.Entries.length w:=fun w a=>by
  obtain⟨x,_,rfl⟩:=List.mem_map.1 a;intro s b;obtain⟨t,ht,rfl⟩:=List.mem_map.1 b;exact((X6l x rfl).2 t ht).2
theorem X6d (r:CoRecord):EqC r.Entries.length (X2G (X2u r) []) (Xp (X2z r)):=by
  have e:∀i,i<r.Entries.length->(X2G (X2u r) []).lo i=(Xp (X2z r)).lo i/\(X2G (X2u r) []).hi i=(Xp (X2z r)).hi i:=fun i hi=>by
    show((r.Entries.getD i (Zn.mk 0 0 (ZZ.mk 0 0))).At).Lo=(r.Entries.map (·.At.Lo)).getD i 0/\((r.Entries.getD i (Zn.mk 0 0 (ZZ.mk 0 0))).At).Hi=(r.Entries.map (·.At.Hi)).getD i 0;rw[XI _ _ _ hi,XI _ _ _ (by simpa using hi),XI _ _ _ (by simpa using hi)]
    simp
  constructor
  · intro x
    unfold UpN;constructor
    · rintro⟨b,a,c⟩;exact⟨fun i hi=>(e i hi).1▸b i hi,a,c⟩
    · rintro⟨b,a,c⟩;exact⟨fun i hi=>(e i hi).1.symm▸b i hi,a,c⟩
  · intro x
    unfold DnN;constructor
    · rintro⟨b,a,c⟩;exact⟨fun i hi=>(e i hi).2▸b i hi,a,c⟩
    · rintro⟨b,a,c⟩;exact⟨fun i hi=>(e i hi).2.symm▸b i hi,a,c⟩
def X5P (r:CoRecord) (l:List Zt):List Con:=Xj r.Entries.length (l.map (X1w r)) (X2G (X2u r) [])
theorem X6a (r:CoRecord) (l:List Zt):X5a (X6A r.Entries.length) (X5P r l) (X1x r.Entries.length (l.map (X1w r)) (Xp (X2z r))) :=
  X4X _ _ _ (X74 r l) (fun p a=>by cases a) (fun p a=>by cases a) (X6d r)
theorem X5g {r:CoRecord} {l:List Zt} (h:X67 r l):WZ ⟨r,l⟩=some (!(X5P r l).isEmpty):=X55 ⟨r,l⟩ h.ent h.many h.seen
theorem X5o {r:CoRecord} {l:List Zt} (h:X67 r l):X3h r l=some (!(X5P r l).isEmpty):=by
  rw[X5m h.ent h.seen h.many,X69 (X6a r l)]
theorem X4u (out:List Z7) (m:out.length<=1000000000) {n i:Nat} (hi:i<n) (l:∀y∈out,y.lo.length=n/\y.hi.length=n) (s:ZZ) :
    X1R out (i:Int) (0,s)=some ((out.map Xp).foldl (X3H i) s):=by
  obtain⟨w,j,f⟩:=WD (WR out (i:Int)) out.length (fun k (b:ZZ)=>((k:Int),b)) (fun k b=>((out.drop k).map Xp).foldl (X3H i) b=(out.map Xp).foldl (X3H i) s) (fun w=>w=(out.map Xp).foldl (X3H i) s)
    (fun b e=>⟨b,by simp[WR,X17],by rw[List.drop_length]at e;exact e⟩)
    (fun k b h e=>by
      right;obtain⟨q1,q2⟩:=l _ (jl h);have e1:decide ((k:Int)<(out.length:Int))=true:=by simp;omega
      have e2:decide ((i:Int)<(n:Int))=true:=by simp;omega
      have d:out.getD k ⟨[],[],[]⟩=out[k]:=XI _ _ _ h;have w1:=wS k (by omega)
      simp only[WR,X17,e1,z0S,kS,ju,jB,d,q1,q2,e2,w1];refine⟨_,rfl,?_⟩;rw[<-e,jb h,jr,List.foldl_cons];congr 1;unfold X3H Xp gtN;simp only;generalize out[k].lo.getD i 0=a;generalize out[k].hi.getD i 0=c
      by_cases j:a<b.Lo<;>by_cases f:c>b.Hi<;>simp[j,f]) 0 s (Nat.zero_le _) rfl
  have g:X1R out (i:Int) (0,s)=some w:=j;rw[g,f]
theorem X59 {r:CoRecord} (hr:r.Entries.length<=10) (out:List Z7) (d:out≠[]) (h:out.length<=1000000000) (g:∀y∈out,y.lo.length=r.Entries.length/\y.hi.length=r.Entries.length) :
    X1Q out r (0,[])=some (X2M r.Entries.length (out.map Xp)):=by
  obtain⟨w,l,i⟩:=WD (WQ out r) r.Entries.length (fun k (b:List ZZ)=>((k:Int),b)) (fun k b=>b=X2M k (out.map Xp)) (fun w=>w=X2M r.Entries.length (out.map Xp))
    (fun b c=>⟨b,by simp[WQ,X16],c⟩)
    (fun k b j c=>by
      right;cases out with
      | nil=>exact absurd rfl d
      | cons y ys =>
        obtain⟨q1,q2⟩:=g y (by simp)
        have e1:decide ((k:Int)<(r.Entries.length:Int))=true:=by simp;omega
        have e2:decide ((0:Int)<((y::ys).length:Int))=true:=by simp only[List.length_cons,jk];omega
        have e3:decide ((0:Int)<=0)=true:=rfl;have a:(y::ys).getD (Int.toNat 0) ⟨[],[],[]⟩=y:=rfl;have w1:=wS k (by omega)
        have f:b.length=k:=by rw[c];unfold X2M;simp
        have e4:Nat.ble ((k+1)*(16+1)) 200000000000000=true:=by rw[Nat.ble_eq];omega
        simp only[WQ,X16,e1,e2,e3,z0S,kS,ju,jB,a,q1,q2,w1,X4u (y::ys) h j g,jS,f,List.length_singleton,e4];refine⟨_,rfl,?_⟩;rw[c];unfold X2M;rw[List.range_succ,List.map_append];rfl) 0 [] (Nat.zero_le _) rfl
  have e:X1Q out r (0,[])=some w:=l;rw[e,i]
def X4S (r:CoRecord) (l:List Zt):List ZZ×Int:=if(X5P r l).isEmpty then([],9)else(X2M r.Entries.length (X5P r l),0)
theorem X4Q {r:CoRecord} {l:List Zt} (h:X67 r l) (r386:Int×Int) (c:r386.2=0) (hc:WW r l=some r386):X2X r l=some (X4S r l):=by
  rw[X3i];unfold X1p;obtain⟨out,g1,g2,g3,g4⟩:=X4q h.ent h.seen h.many;have a:=X6a r l;rw[<-g2]at a;have e0:(r386.2 != 0)=false:=by simp[c]
  simp only[hc,jS,e0,jA,X3G r (by have:=h.ent.1;omega),g1]
  have d:11 ^ l.length<=11 ^ 8:=Nat.pow_le_pow_right (by omega) h.many
  have b:(11:Nat) ^ 8=214358881:=by decide
  unfold X4S;rw[X69 a];cases hout:out with
  | nil=>rfl
  | cons y ys =>
    have c1:(((y::ys).length:Int)==0)=false:=X3B (by simp only[List.length_cons];omega)
    simp only[c1,jA];rw[X59 h.ent.1 (y::ys) (by simp) (by rw[<-hout];omega) (by rw[<-hout];exact g3)]
    rw[hout]at a;rw[X6u a];rfl
theorem X4M {r:CoRecord} {l:List Zt} (h:X67 r l) (hc:X2B r l=some (⟨r,l⟩,0)):X2S r l=some (X4S r l):=by
  rw[X3a];unfold X1o;have e0:((0:Int) != 0)=false:=rfl;simp only[hc,jS,e0,jA];rw[X4j ⟨r,l⟩ ⟨r,l⟩ _ 0 false l 0 r r false h.ent rfl h.many h.seen];unfold X4S;show Option.bind (some (((X5P r l).foldl (ZcY r.Entries.length) (false,fun _=>ZZ.mk 0 0)).2,(⟨r,l⟩:Z9),(0:Int),false,l,(0:Int),r,(⟨r,l⟩:Z9),((X5P r l).foldl (ZcY r.Entries.length) (false,fun _=>ZZ.mk 0 0)).1,r)) _=_;have e:=h.ent.1;cases hA:X5P r l with
  | nil=>rfl
  | cons c L =>
    rw[X6f];have c1:decide ((r.Entries.length:Int)<=(10:Int))=true:=by simp;omega
    have c2:Nat.blt 0 2=true:=rfl;have d:((List.map (fun j=>if j<r.Entries.length then(c::L).foldl (X3H j) ⟨c.lo j,c.hi j⟩else⟨c.lo j,c.hi j⟩) (List.range 10)).take r.Entries.length)=X2M r.Entries.length (c::L):=by
      rw[<-List.map_take,List.take_range,Nat.min_eq_left e];unfold X2M;refine List.map_congr_left fun j b=>?_;rw[if_pos (List.mem_range.1 b)];rfl
    have a:(X2M r.Entries.length (c::L)).length=r.Entries.length:=by unfold X2M;simp
    have c3:Nat.ble (r.Entries.length*(16+1)) 100000000000000=true:=by rw[Nat.ble_eq];omega
    simp only[jS,Bool.not_true,jA,z0S,c1,ju,jB,kS,d,List.drop_zero,a,c2,c3];rfl
end Nore
open Go Go.Ab
namespace Nore
theorem WO (lo up:Int) (l:List Int) (g:l.length<1000000):W8 lo up l=some (X1F lo up l):=by
  rw[X3w];unfold X1q;have key:=X1u (Wx (↑l.length) l up lo) (fun o3=>Sum.elim (fun y4:Int=>some (decide (y4>=0))) (fun _=>some (decide ((-1:Int)>=0))) o3) l.length (fun i (_:Unit)=>(i:Int)) (fun _ _=>True) (fun i _=>some (X1F lo up (l.drop i)))
    (by
      intro b _ R;simp[Wx,WB,X4C])
    (by
      intro i b hi _ R e;have a:=e () trivial;simp only[Wx,WB];rw[jb hi];simp only[kS,XI _ _ _ hi,X4f];have c:=wS i (by omega)
      rw[c];have f:decide ((i:Int)<↑l.length)=true:=by simp[hi]
      have d:=z0S i;simp only[f,d,ju,jB]
      by_cases h3:l[i]<lo
      · simp[h3]
      · by_cases h4:l[i]>up
        · simp[h3,h4]
        · simp[h3,h4];exact a)
  exact(key 0 () (by omega) trivial).trans (by simp)
theorem X36 (n lo hi:Int):X2Y n lo hi=some (inN n lo hi):=by
  rw[X4Y];unfold X2L inN
  by_cases h:lo<=n<;>simp[h]
def X2b (r:CoRecord) (dev st:Int) (s:ZZ):Int :=
  if X1F 0 ((r.Devices.length:Int)-1) [dev]then 4 else
  if X1F 0 (IntKind.wrap .i64 ((r.Devices.getD dev.toNat (Zj.mk ByteArray.empty 0 0)).States-1)) [st]then 7 else
  if X1F 0 9999 [s.Lo,s.Hi]then 7 else if s.Lo>s.Hi then 2 else 0
theorem X2E {lo hi n:Int} (h:X1F lo hi [n]=false):lo<=n/\n<=hi:=by
  simp only[X4f,X4C,Bool.or_false,Bool.or_eq_false_iff,decide_eq_false_iff_not]at h;omega
theorem X6p {lo hi n m:Int} (h:X1F lo hi [n,m]=false):lo<=n/\n<=hi/\lo<=m/\m<=hi:=by
  simp only[X4f,X4C,Bool.or_false,Bool.or_eq_false_iff,decide_eq_false_iff_not]at h;omega
theorem X3S (r:CoRecord) (x:Zt) (hr:r.Devices.length<=1000000):X3b r x=some (X2b r x.Device x.State x.At):=by
  rw[X4l];unfold X2d;have w1:IntKind.wrap .i64 ((r.Devices.length:Int)-1)=(r.Devices.length:Int)-1:=by rw[w64]<;>omega
  rw[w1,WO _ _ _ (by simp)]
  simp only[jS];unfold X2b;cases h1:X1F 0 ((r.Devices.length:Int)-1) [x.Device]with
  | true=>rfl
  | false =>
    have h:=X2E h1;have c1:decide (0<=x.Device)=true:=by simp[h.1]
    have c2:decide (x.Device<(r.Devices.length:Int))=true:=by simp;omega
    simp only[jA,c1,c2,ju,jB];rw[WO _ _ _ (by simp)]
    simp only[jS];cases h2:X1F 0 (IntKind.wrap .i64 ((r.Devices.getD x.Device.toNat (Zj.mk ByteArray.empty 0 0)).States-1)) [x.State]with
    | true=>rfl
    | false =>
      simp only[jA];rw[WO _ _ _ (by simp)]
      simp only[jS];cases h3:X1F 0 9999 [x.At.Lo,x.At.Hi]with
      | true=>rfl
      | false=>by_cases h4:x.At.Lo>x.At.Hi<;>simp[h4]
theorem X44 (r:CoRecord) (dev st:Int) (s:ZZ) (hr:r.Devices.length<=1000000):X3j r dev st s=some (X2b r dev st s):=by
  rw[X4r];unfold X2g;have w1:IntKind.wrap .i64 ((r.Devices.length:Int)-1)=(r.Devices.length:Int)-1:=by rw[w64]<;>omega
  rw[w1,X36,X4d];simp only[jS];unfold X2b;cases h1:X1F 0 ((r.Devices.length:Int)-1) [dev]with
  | true=>rfl
  | false =>
    have h:=X2E h1;have c1:decide (0<=dev)=true:=by simp[h.1]
    have c2:decide (dev<(r.Devices.length:Int))=true:=by simp;omega
    simp only[Bool.not_false,Bool.not_true,jA,c1,c2,ju,jB];rw[X36,X4d];simp only[jS];cases h2:X1F 0 (IntKind.wrap .i64 ((r.Devices.getD dev.toNat (Zj.mk ByteArray.empty 0 0)).States-1)) [st]with
    | true=>rfl
    | false =>
      simp only[Bool.not_false,Bool.not_true,jA];unfold X3r;rw[X56 _ _ _ (by simp)]
      simp only[jS,X4i];cases h3:X1F 0 9999 [s.Lo,s.Hi]with
      | true=>rfl
      | false=>by_cases h4:s.Lo>s.Hi<;>simp[h4]
def X1n {α:Type} (f:Nat->α->Int):Nat->List α->Int×Int
  | _,[]=>(0,0)
  | i,x::xs=>if f i x≠0 then((i:Int),f i x)else X1n f (i+1) xs
theorem X2e {α:Type} (f:Nat->α->Int) (i:Nat) (x:α) (xs:List α):X1n f i (x::xs)=if f i x≠0 then((i:Int),f i x)else X1n f (i+1) xs:=rfl
def XA:Int->Nat->List Zn->Int×Int
  | _,_,[]=>(0,0)
  | least,i,x::xs=>if(if x.At.Lo>least then x.At.Lo else least)>x.At.Hi then((i:Int),9)else XA (if x.At.Lo>least then x.At.Lo else least) (i+1) xs
theorem X3V (least:Int) (i:Nat) (x:Zn) (xs:List Zn):XA least i (x::xs)=if(if x.At.Lo>least then x.At.Lo else least)>x.At.Hi then((i:Int),9)else XA (if x.At.Lo>least then x.At.Lo else least) (i+1) xs:=rfl
def X5x (names:List ByteArray) (d:Zj):Int :=
  if X3T d.Name names≠0 then X3T d.Name names else if X1F 2 4 [d.States]||X1F 0 (IntKind.wrap .i64 (d.States-1)) [d.First]then 7 else 0
def X2U (r:CoRecord):Int×Int:=X1n (fun i d=>X5x ((r.Devices.take i).map (·.Name)) d) 0 r.Devices
def X2m (r:CoRecord):Int×Int:=X1n (fun _ x=>X2b r x.Device x.State x.At) 0 r.Entries
def X1M (r:CoRecord):Int×Int×Int :=
  if X1F 1 4 [(r.Devices.length:Int)]||decide ((r.Entries.length:Int)>10)then(1,0,3)else
  if(X2U r).2≠0 then(2,(X2U r).1,(X2U r).2)else
  if(X2m r).2≠0 then(3,(X2m r).1,(X2m r).2)else
  if(XA 0 0 r.Entries).2≠0 then(3,(XA 0 0 r.Entries).1,(XA 0 0 r.Entries).2)else(0,0,0)
def X28 (r:CoRecord) (l:List Zt):Int×Int :=
  if(X1M r).2.2≠0 then(0,(X1M r).2.2)else if(l.length:Int)>4 then(0,3)else X1n (fun _ x=>X2b r x.Device x.State x.At) 0 l
theorem X4O (r:CoRecord) (d:r.Devices.length<=1000000) (f:r.Entries.length<=1000000):XV (r.Entries,r)=some ((X2m r).1,(X2m r).2,r):=by
  rw[X1H];unfold Xt Wk;refine Eq.trans (X1u _ _ r.Entries.length (fun i (_:Unit)=>(i:Int)) (fun _ _=>True) (fun i _=>some ((X1n (fun _ x=>X2b r x.Device x.State x.At) i (r.Entries.drop i)).1,(X1n (fun _ x=>X2b r x.Device x.State x.At) i (r.Entries.drop i)).2,r)) ?_ ?_ 0 () (Nat.zero_le _) trivial) rfl
  · intro b _ R
    have e1:decide ((r.Entries.length:Int)<(r.Entries.length:Int))=false:=by simp
    simp only[Xq,Xl,e1,jA,List.drop_length];rfl
  · intro i b hi _ R c
    have a:=c () trivial;have e1:decide ((i:Int)<(r.Entries.length:Int))=true:=by simp[hi]
    have w1:=wS i (by omega)
    rw[jb hi,X2e];simp only[Xq,Xl,e1,z0S,kS,ju,jB,XI _ _ _ hi,X3S r _ d,jS,w1];generalize X2b r r.Entries[i].Device r.Entries[i].State r.Entries[i].At=e
    by_cases he:e=0
    · have c1:(e != 0)=false:=by simp[he]
      simp only[c1,jA,if_neg (fun h:e≠0=>h he)];exact a
    · have c1:(e != 0)=true:=X2Q he
      simp only[c1,jB,if_pos he];rfl
theorem X4P (r:CoRecord) (l:List Zt) (d:r.Devices.length<=1000000) (f:l.length<=1000000):XY (l,r)=some ((X1n (fun _ (x:Zt)=>X2b r x.Device x.State x.At) 0 l).1,(X1n (fun _ (x:Zt)=>X2b r x.Device x.State x.At) 0 l).2,r):=by
  rw[X1X];unfold XB Wu;refine Eq.trans (X1u _ _ l.length (fun i (_:Unit)=>(i:Int)) (fun _ _=>True) (fun i _=>some ((X1n (fun _ (x:Zt)=>X2b r x.Device x.State x.At) i (l.drop i)).1,(X1n (fun _ (x:Zt)=>X2b r x.Device x.State x.At) i (l.drop i)).2,r)) ?_ ?_ 0 () (Nat.zero_le _) trivial) rfl
  · intro b _ R
    have e1:decide ((l.length:Int)<(l.length:Int))=false:=by simp
    simp only[Xs,Xo,e1,jA,List.drop_length];rfl
  · intro i b hi _ R c
    have a:=c () trivial;have e1:decide ((i:Int)<(l.length:Int))=true:=by simp[hi]
    have w1:=wS i (by omega)
    rw[jb hi,X2e];simp only[Xs,Xo,e1,z0S,kS,ju,jB,XI _ _ _ hi,X3S r _ d,jS,w1];generalize X2b r l[i].Device l[i].State l[i].At=e
    by_cases he:e=0
    · have c1:(e != 0)=false:=by simp[he]
      simp only[c1,jA,if_neg (fun h:e≠0=>h he)];exact a
    · have c1:(e != 0)=true:=X2Q he
      simp only[c1,jB,if_pos he];rfl
theorem X4y (l:List Zn) (g:l.length<=1000000):∃q,XW (l,0)=some ((XA 0 0 l).1,(XA 0 0 l).2,q):=by
  rw[X1J];unfold Xu Wl;simp only
  let k:((Int×Int×Int×Zn×Zn)⊕Int)->Option (Int×Int×Int):=fun o41=>Sum.elim (fun y42=>some (y42.snd.fst,y42.fst,y42.snd.snd.fst)) (fun y43=>some (0,0,y43)) o41
  obtain⟨w,e,d⟩:=WD (X7 l (l.length:Int)) l.length (fun i (b:Int)=>((i:Int),b)) (fun i b=>XA b i (l.drop i)=XA 0 0 l) (fun w=>∃q,k w=some ((XA 0 0 l).1,(XA 0 0 l).2,q))
    (fun b a=>by
      have e1:decide ((l.length:Int)<(l.length:Int))=false:=by simp
      simp only[X7,Xm,e1,jA];refine⟨_,rfl,b,?_⟩;rw[List.drop_length]at a;rw[<-a];rfl)
    (fun i b hi a=>by
      have e1:decide ((i:Int)<(l.length:Int))=true:=by simp[hi]
      have w1:=wS i (by omega)
      rw[jb hi,X3V]at a;have f:(bif decide (l[i].At.Lo>b)then l[i].At.Lo else b)=(if l[i].At.Lo>b then l[i].At.Lo else b):=by by_cases h:l[i].At.Lo>b<;>simp[h]
      simp only[X7,Xm,e1,z0S,kS,ju,jB,XI _ _ _ hi,w1,f]
      by_cases hc:(if l[i].At.Lo>b then l[i].At.Lo else b)>l[i].At.Hi
      · left
        rw[if_pos hc]at a;simp only[hc,decide_true,jB];refine⟨_,rfl,(if l[i].At.Lo>b then l[i].At.Lo else b),?_⟩;rw[<-a];rfl
      · right
        rw[if_neg hc]at a;simp only[hc,decide_false,jA];exact⟨_,rfl,a⟩) 0 0 (Nat.zero_le _) rfl
  have c:Za2 (X7 l (l.length:Int)) (0,0)=some w:=e;rw[c];exact d
theorem X5f (l:List Zj) (j:l.length<=1000000) (d:Zj) :
    (∃(i:Nat) (y:Zj),Xk (l.length:Int) l d 0=some (.inl ((i:Int),y))/\d.Name∈l.map (·.Name))\/(Xk (l.length:Int) l d 0=some (.inr ())/\¬d.Name∈l.map (·.Name)):=by
  obtain⟨w,f,e⟩:=WD (X8 (l.length:Int) l d) l.length (fun i (_:Unit)=>(i:Int)) (fun i _=>∀x∈l.take i,x.Name≠d.Name)
    (fun w=>(∃(i:Nat) (y:Zj),w=.inl ((i:Int),y)/\d.Name∈l.map (·.Name))\/(w=.inr ()/\¬d.Name∈l.map (·.Name)))
    (fun _ c=>by
      have e1:decide ((l.length:Int)<(l.length:Int))=false:=by simp
      simp only[X8,Xi,e1,jA];refine⟨_,rfl,.inr ⟨rfl,fun h=>?_⟩⟩;obtain⟨x,a,g⟩:=List.mem_map.1 h;rw[List.take_length]at c;exact c x a g)
    (fun i _ hi c=>by
      have e1:decide ((i:Int)<(l.length:Int))=true:=by simp[hi]
      have w1:=wS i (by omega)
      simp only[X8,Xi,e1,z0S,kS,ju,jB,XI _ _ _ hi,w1]
      by_cases hn:l[i].Name=d.Name
      · left
        have c1:(l[i].Name.toList==d.Name.toList)=true:=by rw[hn];simp
        simp only[c1,jB];exact⟨_,rfl,.inl ⟨i,_,rfl,List.mem_map.2 ⟨l[i],jl hi,hn⟩⟩⟩
      · right
        have c1:(l[i].Name.toList==d.Name.toList)=false:=beq_eq_false_iff_ne.2 fun h=>hn (X5s h);simp only[c1,jA];refine⟨(),by first|rfl|trivial,fun x a=>?_⟩
        rw[List.take_succ_eq_append_getElem hi]at a;rcases List.mem_append.1 a with q|q
        · exact c x q
        · rw[List.mem_singleton.1 q];exact hn) 0 () (Nat.zero_le _) (fun x a=>by simp at a)
  have b:Xk (l.length:Int) l d 0=some w:=f;rcases e with⟨i,y,rfl,h⟩|⟨rfl,h⟩
  · exact .inl ⟨i,y,b,h⟩
  · exact .inr ⟨b,h⟩
theorem X4N (r:CoRecord) (k:r.Devices.length<=1000000):XN (r.Devices,r)=some ((X2U r).1,(X2U r).2,r):=by
  rw[X1z];unfold Xr W9;refine Eq.trans (X1u _ _ r.Devices.length (fun i (_:Unit)=>(i:Int)) (fun _ _=>True) (fun i _=>some ((X1n (fun i d=>X5x ((r.Devices.take i).map (·.Name)) d) i (r.Devices.drop i)).1,(X1n (fun i d=>X5x ((r.Devices.take i).map (·.Name)) d) i (r.Devices.drop i)).2,r)) ?_ ?_ 0 () (Nat.zero_le _) trivial) rfl
  · intro b _ R
    have e1:decide ((r.Devices.length:Int)<(r.Devices.length:Int))=false:=by simp
    simp only[Xn,Xh,e1,jA,List.drop_length];rfl
  · intro i b hi _ R h
    have g:=h () trivial;have e1:decide ((i:Int)<(r.Devices.length:Int))=true:=by simp[hi]
    have e2:decide ((i:Int)<=(r.Devices.length:Int))=true:=by simp;omega
    have w1:=wS i (by omega)
    rw[jb hi,X2e];simp only[Xn,Xh,e1,e2,z0S,kS,ju,jB,XI _ _ _ hi,X5v,jS,w1,List.drop_zero];generalize r.Devices[i]=d;have c:X5x ((r.Devices.take i).map (·.Name)) d=if X4n d.Name then(if d.Name∈(r.Devices.take i).map (·.Name)then 5 else if X1F 2 4 [d.States]||X1F 0 (IntKind.wrap .i64 (d.States-1)) [d.First]then 7 else 0)else 6:=by
      unfold X5x X3T;generalize (r.Devices.take i).map (·.Name)=names;cases q1:X4n d.Name with
      | false=>rfl
      | true =>
        by_cases q2:d.Name∈names
        · simp only[q2,if_true];rfl
        · simp only[q2,if_true,if_false];rfl
    rw[c];cases hn:X4n d.Name with
    | false=>rfl
    | true =>
      simp only[Bool.not_true,jA,if_true];have a:(r.Devices.take i).length<=1000000:=by rw[List.length_take];omega
      rcases X5f (r.Devices.take i) a d with⟨j,y,f,e⟩|⟨f,e⟩
      · have c1:decide ((j:Int)>=0)=true:=by simp
        simp only[f,jS,jw,c1,jB,if_pos e];rfl
      · simp only[f,jS,jy,if_neg e]
        rw[WO _ _ _ (by simp),WO _ _ _ (by simp)]
        simp only[jS];cases q1:X1F 2 4 [d.States]with
        | true=>rfl
        | false =>
          cases q2:X1F 0 (IntKind.wrap .i64 (d.States-1)) [d.First]with
          | true=>rfl
          | false=>exact g
theorem X3C (r:CoRecord):X2R r=some (X1M r):=by
  rw[X3N];unfold X1V;rw[WO _ _ _ (by simp)]
  simp only[jS];unfold X1M;cases q1:X1F 1 4 [(r.Devices.length:Int)]with
  | true=>rfl
  | false =>
    have d:=X2E q1;have b:r.Devices.length<=1000000:=by omega
    by_cases q2:(r.Entries.length:Int)>10
    · simp only[jA,q2,decide_true,jB,Bool.false_or,if_true]
    · have a:r.Entries.length<=1000000:=by omega
      simp only[jA,q2,decide_false,Bool.false_or,X4N r b,jS];simp only[jg,if_false]
      by_cases q3:(X2U r).2=0
      · have c3:((X2U r).2 != 0)=false:=by simp[q3]
        simp only[c3,jA,X4O r b a,jS,if_neg (fun h:(X2U r).2≠0=>h q3)]
        by_cases q4:(X2m r).2=0
        · have c4:((X2m r).2 != 0)=false:=by simp[q4]
          obtain⟨q,c⟩:=X4y r.Entries a;simp only[c4,jA,c,jS,if_neg (fun h:(X2m r).2≠0=>h q4)]
          by_cases q5:(XA 0 0 r.Entries).2=0
          · have c5:((XA 0 0 r.Entries).2 != 0)=false:=by simp[q5]
            simp only[c5,jA,if_neg (fun h:(XA 0 0 r.Entries).2≠0=>h q5)]
          · have c5:((XA 0 0 r.Entries).2 != 0)=true:=X2Q q5
            simp only[c5,jB,if_pos q5]
        · have c4:((X2m r).2 != 0)=true:=X2Q q4
          simp only[c4,jB,if_pos q4]
      · have c3:((X2U r).2 != 0)=true:=X2Q q3
        simp only[c3,jB,if_pos q3]
end Nore
open Go Go.Ab
namespace Nore
theorem X3D (r:CoRecord):X2W r=some (X1M r):=by
  rw[X41];unfold X25;rw[X36,X4d];simp only[jS];unfold X1M;cases q1:X1F 1 4 [(r.Devices.length:Int)]with
  | true=>rfl
  | false =>
    have n:=X2E q1;have q:r.Devices.length<=4:=by omega
    by_cases q2:(r.Entries.length:Int)>10
    · simp only[Bool.not_false,Bool.not_true,jA,q2,decide_true,jB,Bool.false_or,if_true]
    · have p:r.Entries.length<=10:=by omega
      simp only[Bool.not_false,Bool.not_true,jA,q2,decide_false,Bool.false_or,jg,if_false];unfold X2x;refine Eq.trans (X1u _ _ r.Devices.length (fun i (b:List ByteArray)=>((i:Int),b)) (fun i b=>b=(r.Devices.take i).map (·.Name))
        (fun i _=>if(X1n (fun i d=>X5x ((r.Devices.take i).map (·.Name)) d) i (r.Devices.drop i)).2≠0 then some (2,(X1n (fun i d=>X5x ((r.Devices.take i).map (·.Name)) d) i (r.Devices.drop i)).1,(X1n (fun i d=>X5x ((r.Devices.take i).map (·.Name)) d) i (r.Devices.drop i)).2)else
          some (if(X2m r).2≠0 then(3,(X2m r).1,(X2m r).2)else if(XA 0 0 r.Entries).2≠0 then(3,(XA 0 0 r.Entries).1,(XA 0 0 r.Entries).2)else(0,0,0))) ?_ ?_ 0 [] (Nat.zero_le _) rfl) ?_
      · intro b _ R
        have e1:decide ((r.Devices.length:Int)<(r.Devices.length:Int))=false:=by simp
        simp only[X1r,X13,e1,jA,List.drop_length];show Option.bind (X1O r 0) _=some (if(X2m r).2≠0 then(3,(X2m r).1,(X2m r).2)else if(XA 0 0 r.Entries).2≠0 then(3,(XA 0 0 r.Entries).1,(XA 0 0 r.Entries).2)else(0,0,0));unfold X1O;refine Eq.trans (X1u _ _ r.Entries.length (fun i (_:Unit)=>(i:Int)) (fun _ _=>True)
          (fun i _=>some (if(X1n (fun _ (x:Zn)=>X2b r x.Device x.State x.At) i (r.Entries.drop i)).2≠0 then(3,(X1n (fun _ (x:Zn)=>X2b r x.Device x.State x.At) i (r.Entries.drop i)).1,(X1n (fun _ (x:Zn)=>X2b r x.Device x.State x.At) i (r.Entries.drop i)).2)else if(XA 0 0 r.Entries).2≠0 then(3,(XA 0 0 r.Entries).1,(XA 0 0 r.Entries).2)else(0,0,0))) ?_ ?_ 0 () (Nat.zero_le _) trivial) rfl
        · intro b _ R
          have e1:decide ((r.Entries.length:Int)<(r.Entries.length:Int))=false:=by simp
          simp only[X1s,X14,e1,jA,List.drop_length];show Option.bind (X1P r (0,0)) _=some (if(XA 0 0 r.Entries).2≠0 then(3,(XA 0 0 r.Entries).1,(XA 0 0 r.Entries).2)else(0,0,0));unfold X1P;refine Eq.trans (X1u _ _ r.Entries.length (fun i (b:Int)=>((i:Int),b)) (fun _ _=>True)
            (fun i b=>some (if(XA b i (r.Entries.drop i)).2≠0 then(3,(XA b i (r.Entries.drop i)).1,(XA b i (r.Entries.drop i)).2)else(0,0,0))) ?_ ?_ 0 0 (Nat.zero_le _) trivial) rfl
          · intro b _ R
            simp only[X1t,X15,e1,jA,List.drop_length];rfl
          · intro i b hi _ R c
            have e1:decide ((i:Int)<(r.Entries.length:Int))=true:=by simp[hi]
            have w1:=wS i (by omega)
            have o:(bif decide (r.Entries[i].At.Lo>b)then r.Entries[i].At.Lo else b)=(if r.Entries[i].At.Lo>b then r.Entries[i].At.Lo else b):=by by_cases h:r.Entries[i].At.Lo>b<;>simp[h]
            rw[jb hi,X3V];simp only[X1t,X15,e1,z0S,kS,ju,jB,XI _ _ _ hi,w1,o]
            by_cases hc:(if r.Entries[i].At.Lo>b then r.Entries[i].At.Lo else b)>r.Entries[i].At.Hi
            · rw[if_pos hc]
              simp only[hc,decide_true,jB];rfl
            · rw[if_neg hc]
              simp only[hc,decide_false,jA];exact c _ trivial
        · intro i b hi _ R c
          have m:=c () trivial;have e1:decide ((i:Int)<(r.Entries.length:Int))=true:=by simp[hi]
          have w1:=wS i (by omega)
          rw[jb hi,X2e];simp only[X1s,X14,e1,z0S,kS,ju,jB,XI _ _ _ hi,X44 r _ _ _ (by omega:r.Devices.length<=1000000),jS,w1]
          generalize X2b r r.Entries[i].Device r.Entries[i].State r.Entries[i].At=e
          by_cases he:e=0
          · have c1:(e != 0)=false:=by simp[he]
            simp only[c1,jA,if_neg (fun h:e≠0=>h he)];exact m
          · have c1:(e != 0)=true:=X2Q he
            simp only[c1,jB,if_pos he];rfl
      · intro i b hi j R c
        have e1:decide ((i:Int)<(r.Devices.length:Int))=true:=by simp[hi]
        have w1:=wS i (by omega)
        have f:b.length=i:=by rw[j,List.length_map,List.length_take];omega
        have b1:Nat.ble ((i+1)*(16+1)) 200000000000000=true:=by rw[Nat.ble_eq];omega
        have g:=X5l r.Devices[i].Name b (by omega)
        have a:=c ((r.Devices.take (i+1)).map (·.Name)) rfl;rw[jb hi,X2e];simp only[X1r,X13,e1,z0S,kS,ju,jB,XI _ _ _ hi,g,jS,w1,f,List.length_singleton,b1];have k:b++[r.Devices[i].Name]=(r.Devices.take (i+1)).map (·.Name):=by rw[j,List.take_succ_eq_append_getElem hi,List.map_append];rfl
        rw[<-j];have l:X5x b r.Devices[i]=if X3T r.Devices[i].Name b≠0 then X3T r.Devices[i].Name b else if X1F 2 4 [r.Devices[i].States]||X1F 0 (IntKind.wrap .i64 (r.Devices[i].States-1)) [r.Devices[i].First]then 7 else 0:=rfl;rw[l];generalize X3T r.Devices[i].Name b=e
        by_cases he:e=0
        · have c1:(e==0)=true:=by simp[he]
          have c2:(e != 0)=false:=by simp[he]
          simp only[c1,c2,jB,jA,if_neg (fun h:e≠0=>h he),X36,X4d,jS,Bool.not_not];cases q5:X1F 2 4 [r.Devices[i].States]with
          | true=>rfl
          | false =>
            simp only[jA,Bool.false_or];cases q6:X1F 0 (IntKind.wrap .i64 (r.Devices[i].States-1)) [r.Devices[i].First]with
            | true=>rfl
            | false =>
              simp only[jA];rw[k];exact a
        · have c1:(e==0)=false:=X3B he
          have c2:(e != 0)=true:=X2Q he;simp only[c1,c2,jB,jA,if_pos he];rfl
      · simp only[List.drop_zero]
        show(if(X2U r).2≠0 then some (2,(X2U r).1,(X2U r).2)else some (if(X2m r).2≠0 then(3,(X2m r).1,(X2m r).2)else if(XA 0 0 r.Entries).2≠0 then(3,(XA 0 0 r.Entries).1,(XA 0 0 r.Entries).2)else(0,0,0)))=some (if(X2U r).2≠0 then(2,(X2U r).1,(X2U r).2)else if(X2m r).2≠0 then(3,(X2m r).1,(X2m r).2)else if(XA 0 0 r.Entries).2≠0 then(3,(XA 0 0 r.Entries).1,(XA 0 0 r.Entries).2)else(0,0,0))
        by_cases q3:(X2U r).2=0
        · simp only[ne_eq,q3,not_true_eq_false,if_false]
        · simp only[ne_eq,q3,not_false_eq_true,if_true]
structure X6Q (r:CoRecord):Prop where
  devs:1<=r.Devices.length/\r.Devices.length<=4
  many:r.Entries.length<=10
  dev:∀d∈r.Devices,(2<=d.States/\d.States<=4)/\0<=d.First/\d.First<d.States
  ent:∀x∈r.Entries,X2b r x.Device x.State x.At=0
  order:XA 0 0 r.Entries=(0,0)
theorem X4a {α:Type} (f:Nat->α->Int):∀(l:List α) (i:Nat),(X1n f i l).2=0->∀(j:Nat) (h:j<l.length),f (i+j) l[j]=0
  | x::xs,i,h,j,hj=>by
    rw[X2e]at h
    by_cases he:f i x=0
    · rw[if_neg (fun q=>q he)]at h
      cases j with
      | zero=>exact he
      | succ j =>
        have:=X4a f xs (i+1) h j (by simpa using hj)
        rw[show i+(j+1)=i+1+j by omega]
        exact this
    · rw[if_pos he]at h
      exact absurd h he
theorem X5J:∀(l:List Zn) (a:Int) (i:Nat),(XA a i l).2=0->XA a i l=(0,0)
  | [],_,_,_=>rfl
  | x::xs,a,i,h=>by
    rw[X3V]at h⊢
    by_cases hc:(if x.At.Lo>a then x.At.Lo else a)>x.At.Hi
    · rw[if_pos hc]at h
      exact absurd h (by simp)
    · rw[if_neg hc]at h⊢
      exact X5J xs _ _ h
theorem X5e {r:CoRecord} (h:(X1M r).2.2=0):X6Q r:=by
  unfold X1M at h;cases q1:X1F 1 4 [(r.Devices.length:Int)]with
  | true=>rw[q1]at h;exact absurd h (by simp)
  | false =>
    have b:=X2E q1
    by_cases q2:(r.Entries.length:Int)>10
    · simp only[q1,q2,decide_true,Bool.or_true,if_true]at h;exact absurd h (by simp)
    · simp only[q1,q2,decide_false,Bool.or_self,jg,if_false]at h
      by_cases q3:(X2U r).2=0
      · rw[if_neg (fun k=>k q3)]at h
        by_cases q4:(X2m r).2=0
        · rw[if_neg (fun k=>k q4)]at h
          by_cases q5:(XA 0 0 r.Entries).2=0
          · refine⟨by omega,by omega,fun d b=>?_,fun x c=>?_,X5J _ _ _ q5⟩
            · obtain⟨j,a,rfl⟩:=List.getElem_of_mem b
              have:=X4a _ _ 0 q3 j a;simp only[X5x]at this;split at this
              · rename_i k;exact absurd this k
              · split at this
                · exact absurd this (by simp)
                · rename_i k
                  simp only[Bool.or_eq_true,not_or,Bool.not_eq_true]at k;have k1:=X2E k.1;have k2:=X2E k.2;rw[w64 (by omega) (by omega)]at k2
                  omega
            · obtain⟨j,a,rfl⟩:=List.getElem_of_mem c
              exact X4a _ _ 0 q4 j a
          · rw[if_pos q5]at h;exact absurd h q5
        · rw[if_pos q4]at h;exact absurd h q4
      · rw[if_pos q3]at h;exact absurd h q3
theorem X6I {r:CoRecord} {x:Zt} (h:X2b r x.Device x.State x.At=0):X2c r x/\0<=x.At.Lo/\x.At.Lo<=x.At.Hi/\x.At.Hi<=9999:=by
  unfold X2b at h;cases q1:X1F 0 ((r.Devices.length:Int)-1) [x.Device]with
  | true=>rw[q1]at h;exact absurd h (by simp)
  | false =>
    rw[q1]at h;have k1:=X2E q1;cases q2:X1F 0 (IntKind.wrap .i64 ((r.Devices.getD x.Device.toNat (Zj.mk ByteArray.empty 0 0)).States-1)) [x.State]with
    | true=>rw[q2]at h;exact absurd h (by simp)
    | false =>
      rw[q2]at h;cases q3:X1F 0 9999 [x.At.Lo,x.At.Hi]with
      | true=>rw[q3]at h;exact absurd h (by simp)
      | false =>
        rw[q3]at h;have k3:=X6p q3
        by_cases q4:x.At.Lo>x.At.Hi
        · simp only[jg,if_false,q4,if_true]at h;exact absurd h (by simp)
        · exact⟨⟨by omega,by omega,by omega⟩,by omega,by omega,by omega⟩
theorem X73 {r:CoRecord} (h:X6Q r):X4U r:=⟨h.many,fun x a=>by
  have:=(X6I (x:=⟨x.Device,x.State,x.At⟩) (h.ent x a)).2;simp only at this;omega⟩
theorem X6Z {r:CoRecord} {l:List Zt} (h:(X28 r l).2=0):X6Q r/\l.length<=4/\∀x∈l,X2b r x.Device x.State x.At=0:=by
  unfold X28 at h
  by_cases q1:(X1M r).2.2=0
  · rw[if_neg (fun k=>k q1)]at h
    by_cases q2:(l.length:Int)>4
    · rw[if_pos q2]at h;exact absurd h (by simp)
    · rw[if_neg q2]at h
      refine⟨X5e q1,by omega,fun x b=>?_⟩
      obtain⟨j,a,rfl⟩:=List.getElem_of_mem b;exact X4a _ _ 0 h j a
  · rw[if_pos q1]at h;exact absurd h q1
theorem X5i {r:CoRecord} {l:List Zt} (h:(X28 r l).2=0):X67 r l:=by
  obtain⟨a,d,b⟩:=X6Z h;exact⟨X73 a,by omega,fun x c=>(X6I (b x c)).1⟩
theorem X1y (r:CoRecord) (l:List Zt):WW r l=some (X28 r l):=by
  rw[X3f];unfold X12;rw[X3D r];simp only[jS];unfold X28
  by_cases q1:(X1M r).2.2=0
  · have c1:((X1M r).2.2==0)=true:=by simp[q1]
    have c2:((X1M r).2.2 != 0)=false:=by simp[q1]
    have hr:=X5e q1;simp only[c1,c2,jB,jA,if_neg (fun h:(X1M r).2.2≠0=>h q1)]
    by_cases q2:(l.length:Int)>4
    · simp only[q2,decide_true,jB,if_true]
    · have f:l.length<=4:=by omega
      simp only[q2,decide_false,jA,if_false];unfold X1d;refine Eq.trans (X1u _ _ l.length (fun i (_:Unit)=>(i:Int)) (fun _ _=>True) (fun i _=>some (X1n (fun _ (x:Zt)=>X2b r x.Device x.State x.At) i (l.drop i))) ?_ ?_ 0 () (Nat.zero_le _) trivial) rfl
      · intro b _ R
        have e1:decide ((l.length:Int)<(l.length:Int))=false:=by simp
        simp only[WC,We,e1,jA,List.drop_length];rfl
      · intro i b hi _ R d
        have a:=d () trivial;have e1:decide ((i:Int)<(l.length:Int))=true:=by simp[hi]
        have w1:=wS i (by omega)
        have c:=hr.devs;rw[jb hi,X2e];simp only[WC,We,e1,z0S,kS,ju,jB,XI _ _ _ hi,X44 r _ _ _ (by omega:r.Devices.length<=1000000),jS,w1]
        generalize X2b r l[i].Device l[i].State l[i].At=e
        by_cases he:e=0
        · have c1:(e != 0)=false:=by simp[he]
          simp only[c1,jA,if_neg (fun h:e≠0=>h he)];exact a
        · have c1:(e != 0)=true:=X2Q he
          simp only[c1,jB,if_pos he];rfl
  · have c1:((X1M r).2.2==0)=false:=X3B q1
    have c2:((X1M r).2.2 != 0)=true:=X2Q q1;simp only[c1,c2,jB,jA,if_pos q1]
theorem X31 (r:CoRecord) (l:List Zt):X1U r l=some (X28 r l):=by
  rw[X38];unfold WY;rw[X3C r];simp only[jS];unfold X28
  by_cases q1:(X1M r).2.2=0
  · have c1:((X1M r).2.2 != 0)=false:=by simp[q1]
    have hr:=(X5e q1).devs;simp only[c1,jA,if_neg (fun h:(X1M r).2.2≠0=>h q1)]
    by_cases q2:(l.length:Int)>4
    · simp only[q2,decide_true,jB,if_true]
    · simp only[q2,decide_false,jA,if_false,X4P r l (by omega) (by omega),jS]
  · have c1:((X1M r).2.2 != 0)=true:=X2Q q1
    simp only[c1,jB,if_pos q1]
theorem X30 (r:CoRecord) (l:List Zt):X2B r l=some (⟨r,l⟩,(X28 r l).2):=by
  rw[X3Q];unfold X1W;rw[X31 r l];rfl
end Nore
open Go Go.Ab
namespace Nore
def X5O (r:CoRecord) (l:List Zt):Bool×Int:=if(X28 r l).2≠0 then(false,(X28 r l).2)else(!(X5P r l).isEmpty,0)
def X47 (r:CoRecord) (l:List Zt):List ZZ×Int:=if(X28 r l).2≠0 then([],(X28 r l).2)else X4S r l
theorem X53 (r:CoRecord) (l:List Zt):X3n r l=some (X5O r l):=by
  rw[X3L];unfold X1T;rw[X30 r l];simp only[jS];unfold X5O
  by_cases q:(X28 r l).2=0
  · have c:((X28 r l).2 != 0)=false:=by simp[q]
    simp only[c,jA,if_neg (fun h:(X28 r l).2≠0=>h q),X5g (X5i q),jS]
  · have c:((X28 r l).2 != 0)=true:=X2Q q
    simp only[c,jB,if_pos q]
theorem X57 (r:CoRecord) (l:List Zt):X3t r l=some (X5O r l):=by
  rw[X3Z];unfold X24;rw[X1y r l];simp only[jS];unfold X5O
  by_cases q:(X28 r l).2=0
  · have c:((X28 r l).2 != 0)=false:=by simp[q]
    simp only[c,jA,if_neg (fun h:(X28 r l).2≠0=>h q),X5o (X5i q),jS]
  · have c:((X28 r l).2 != 0)=true:=X2Q q
    simp only[c,jB,if_pos q]
theorem X54 (r:CoRecord) (l:List Zt):X2S r l=some (X47 r l):=by
  by_cases q:(X28 r l).2=0
  · rw[X4M (X5i q) (by rw[X30,q])]
    unfold X47;rw[if_neg (fun h=>h q)]
  · rw[X3a];unfold X1o
    rw[X30 r l];have c:((X28 r l).2 != 0)=true:=X2Q q;unfold X47;simp only[jS,c,jB,if_pos q]
theorem X58 (r:CoRecord) (l:List Zt):X2X r l=some (X47 r l):=by
  by_cases q:(X28 r l).2=0
  · rw[X4Q (X5i q) _ q (X1y r l)]
    unfold X47;rw[if_neg (fun h=>h q)]
  · rw[X3i];unfold X1p
    rw[X1y r l];have c:((X28 r l).2 != 0)=true:=X2Q q;unfold X47;simp only[jS,c,jB,if_pos q]
theorem X6P (r:CoRecord) (l:List Zt):(X47 r l).1.length<1000000:=by
  unfold X47
  by_cases q:(X28 r l).2=0
  · rw[if_neg (fun h=>h q)]
    unfold X4S;split
    · simp
    · have:=(X5i q).ent.1
      unfold X2M;simp only[List.length_map,List.length_range];omega
  · rw[if_pos q]
    simp
theorem X52 (r:CoRecord) (l:List Zt):X2i r l=some true:=by
  rw[X32];unfold WI;rw[X3C,X3D,X31,X1y,X53,X57,X54,X58];have b1:∀a:Int,(a != a)=false:=fun a=>by simp
  have b2:∀a:Bool,(!a==a)=false:=fun a=>by cases a<;>rfl
  have b3:∀a:Int,(a==a)=true:=fun a=>by simp
  simp only[jS,b1,jA,b2,X6t _ (X6P r l),jB,b3]
end Nore
