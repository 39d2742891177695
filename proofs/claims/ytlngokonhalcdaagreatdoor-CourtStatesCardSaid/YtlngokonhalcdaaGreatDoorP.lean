/- The plain functions of the program and of the document answer alike. -/
import Derived.Test.YtlngokonhalcdaaGreatDoorY
import Derived.Test.YtlngokonhalcdaaGreatDoorD
set_option linter.unusedSectionVars false
set_option linter.unusedVariables false
set_option linter.unusedSimpArgs false
open Go Go.Ab
namespace Nore
theorem w64 {x:Int} (a : -9223372036854775808<=x) (b:x<=9223372036854775807):IntKind.wrap .i64 x=x:=by
  simp only[IntKind.wrap,IntKind.signed,IntKind.bits];simp;omega
theorem jS {α β:Type} (a:α) (f:α->Option β):Option.bind (some a) f=f a:=rfl
theorem kS (n:Nat):Int.toNat (n:Int)=n:=rfl
theorem wS (i:Nat) (h:i<9223372036854775807):IntKind.wrap .i64 ((i:Int)+1)=((i+1:Nat):Int):=by rw[w64]<;>omega
theorem z0S (i:Nat):decide ((0:Int)<=↑i)=true:=by simp
theorem X6z {σ ω γ:Type} (st:σ->Option (σ⊕ω)) (k:ω->Option γ) (s:σ):Option.bind (Za6 st s) k=Option.bind (st s) (Sum.elim (fun s'=>Option.bind (Za6 st s') k) k):=by
  rw[ZjH];cases st s with
  | none=>rfl
  | some r=>cases r<;>rfl
theorem X1n {β σ ω γ:Type} (st:σ->Option (σ⊕ω)) (k:ω->Option γ) (n:Nat) (emb:Nat->β->σ) (P:Nat->β->Prop) (nice:Nat->β->Option γ)
    (d:∀b,P n b->∀R:σ->Option γ,Option.bind (st (emb n b)) (Sum.elim R k)=nice n b)
    (e:∀i b,i<n->P i b->∀R:σ->Option γ,(∀b',P (i+1) b'->R (emb (i+1) b')=nice (i+1) b')->Option.bind (st (emb i b)) (Sum.elim R k)=nice i b) :
    ∀i b,i<=n->P i b->Option.bind (Za6 st (emb i b)) k=nice i b:=by
  intro i b hi c
  induction hj:n-i generalizing i b with
  | zero =>
    have:i=n:=by omega
    subst this;rw[X6z];exact d b c _
  | succ j ih =>
    rw[X6z];exact e i b (by omega) c _ fun b' a=>ih (i+1) b' (by omega) a (by omega)
theorem X3Z {a b:Int} (h:¬a=b):(a==b)=false:=beq_eq_false_iff_ne.2 h
theorem X3m {a b:Int} (h:¬a=b):(a != b)=true:=bne_iff_ne.2 h
theorem Xw {α:Type} (l:List α) (i:Nat) (d:α) (h:i<l.length):l.getD i d=l[i]:=by simp[List.getD,h]
theorem WW {β σ ω:Type} (st:σ->Option (σ⊕ω)) (n:Nat) (emb:Nat->β->σ) (P:Nat->β->Prop) (Q:ω->Prop)
    (e:∀b,P n b->∃w,st (emb n b)=some (.inr w)/\Q w)
    (g:∀i b,i<n->P i b->(∃w,st (emb i b)=some (.inr w)/\Q w)\/∃b',st (emb i b)=some (.inl (emb (i+1) b'))/\P (i+1) b') :
    ∀i b,i<=n->P i b->∃w,Za6 st (emb i b)=some w/\Q w:=by
  intro i b hi d
  induction hj:n-i generalizing i b with
  | zero =>
    have:i=n:=by omega
    subst this;obtain⟨w,c,a⟩:=e b d;exact⟨w,by rw[ZjH,c];rfl,a⟩
  | succ j ih =>
    rcases g i b (by omega) d with⟨w,c,a⟩|⟨b',c,a⟩
    · exact⟨w,by rw[ZjH,c];rfl,a⟩
    · obtain⟨w,f,h⟩:=ih (i+1) b' (by omega) a (by omega)
      exact⟨w,by rw[ZjH,c];exact f,h⟩
end Nore
namespace Nore
structure Con where
  lo:Nat->Int
  hi:Nat->Int
  ap:List (Nat×Nat)
def X6M (n:Nat) (x:Nat->Int):Prop:=∀i,i+1<n->x i<=x (i+1)
def ApN (ap:List (Nat×Nat)) (x:Nat->Int):Prop:=∀p∈ap,x p.1+1<=x p.2
def UpN (n:Nat) (c:Con) (x:Nat->Int):Prop:=(∀i,i<n->c.lo i<=x i)/\X6M n x/\ApN c.ap x
def DnN (n:Nat) (c:Con) (x:Nat->Int):Prop:=(∀i,i<n->x i<=c.hi i)/\X6M n x/\ApN c.ap x
structure X6a (n:Nat) (c:Con) (L:Nat->Int):Prop where
  up:UpN n c L
  least:∀x,UpN n c x->∀i,i<n->L i<=x i
structure X69 (n:Nat) (c:Con) (H:Nat->Int):Prop where
  dn:DnN n c H
  great:∀x,DnN n c x->∀i,i<n->x i<=H i
def X4U (n:Nat) (ap:List (Nat×Nat)):Prop:=∀p∈ap,p.1<p.2/\p.2<n
theorem X79 {n:Nat} {c c':Con} {L L':Nat->Int} (h:X6a n c L) (h':X6a n c' L') (e:∀x,UpN n c x↔UpN n c' x):∀i,i<n->L i=L' i:=fun i hi =>
  Int.le_antisymm (h.least _ ((e _).2 h'.up) i hi) (h'.least _ ((e _).1 h.up) i hi)
theorem X78 {n:Nat} {c c':Con} {H H':Nat->Int} (h:X69 n c H) (h':X69 n c' H') (e:∀x,DnN n c x↔DnN n c' x):∀i,i<n->H i=H' i:=fun i hi =>
  Int.le_antisymm (h'.great _ ((e _).1 h.dn) i hi) (h.great _ ((e _).2 h'.dn) i hi)
def X4Y (L:Nat->Int):List (Nat×Nat)->Nat->Int->Int
  | [],_,a=>a
  | p::ps,i,a=>X4Y L ps i (if p.2=i then(if L p.1+1>a then L p.1+1 else a)else a)
def up1 (ap:List (Nat×Nat)) (L:Nat->Int) (i:Nat):Int:=X4Y L ap i (if 0<i then(if L (i-1)>L i then L (i-1)else L i)else L i)
def Wo (ap:List (Nat×Nat)):Nat->(Nat->Int)->Nat->Int
  | 0,L=>L
  | k+1,L=>fun j=>if j=k then up1 ap (Wo ap k L) k else Wo ap k L j
theorem X6f (L:Nat->Int) (i:Nat):∀(ap:List (Nat×Nat)) (a:Int),a<=X4Y L ap i a/\∀p∈ap,p.2=i->L p.1+1<=X4Y L ap i a
  | [],a=>⟨Int.le_refl _,by simp⟩
  | p::ps,a=>by
    unfold X4Y;have b:a<=(if p.2=i then(if L p.1+1>a then L p.1+1 else a)else a)/\(p.2=i->L p.1+1<=(if p.2=i then(if L p.1+1>a then L p.1+1 else a)else a)):=by
      by_cases e:p.2=i
      · by_cases e2:L p.1+1>a
        · simp only[e,e2,if_true];exact⟨by omega,fun _=>Int.le_refl _⟩
        · simp only[e,e2,if_true,if_false];exact⟨Int.le_refl _,fun _=>by omega⟩
      · simp only[e,if_false];exact⟨Int.le_refl _,fun h=>h.elim⟩
    generalize (if p.2=i then(if L p.1+1>a then L p.1+1 else a)else a)=a' at b⊢;obtain⟨d,f⟩:=X6f L i ps a';refine⟨Int.le_trans b.1 d,fun q c e=>?_⟩;rcases jv.1 c with rfl|c
    · exact Int.le_trans (b.2 e) d
    · exact f q c e
theorem X6g (L:Nat->Int) (i:Nat) (b:Int):∀(ap:List (Nat×Nat)) (a:Int),a<=b->(∀p∈ap,p.2=i->L p.1+1<=b)->X4Y L ap i a<=b
  | [],_,h,_=>h
  | p::ps,a,h,hp=>by
    unfold X4Y;refine X6g L i b ps _ ?_ fun q c=>hp q (by simp[c])
    have:=hp p (by simp)
    split
    · rename_i e
      have:=this e;split<;>omega
    · exact h
theorem X6s (ap:List (Nat×Nat)) (L:Nat->Int):∀(k j:Nat),k<=j->Wo ap k L j=L j
  | 0,_,_=>rfl
  | k+1,j,h=>by
    unfold Wo;rw[if_neg (by omega)]
    exact X6s ap L k j (by omega)
theorem X36 {n:Nat} {c:Con} (g:X4U n c.ap):X6a n c (Wo c.ap n c.lo):=by
  have main:∀k,k<=n->(∀i,i<k->c.lo i<=Wo c.ap k c.lo i)/\(∀i,i+1<k->Wo c.ap k c.lo i<=Wo c.ap k c.lo (i+1))/\(∀p∈c.ap,p.2<k->Wo c.ap k c.lo p.1+1<=Wo c.ap k c.lo p.2) ∧
      ∀x,UpN n c x->∀i,i<k->Wo c.ap k c.lo i<=x i:=by
    intro k
    induction k with
    | zero=>intro _;exact⟨fun i h=>by omega,fun i h=>by omega,fun p _ h=>by omega,fun x _ i h=>by omega⟩
    | succ k ih =>
      intro w;obtain⟨r,o,q,m⟩:=ih (by omega)
      have a:∀j,j≠k->Wo c.ap (k+1) c.lo j=Wo c.ap k c.lo j:=fun j v=>by show(if j=k then _ else _)=_;rw[if_neg v]
      have b:Wo c.ap (k+1) c.lo k=up1 c.ap (Wo c.ap k c.lo) k:=by show(if k=k then _ else _)=_;rw[if_pos rfl]
      have f:Wo c.ap k c.lo k=c.lo k:=X6s _ _ _ _ (Nat.le_refl _);obtain⟨g1,g2⟩:=X6f (Wo c.ap k c.lo) k c.ap (if 0<k then(if Wo c.ap k c.lo (k-1)>Wo c.ap k c.lo k then Wo c.ap k c.lo (k-1)else Wo c.ap k c.lo k)else Wo c.ap k c.lo k);have g0:Wo c.ap k c.lo k<=(if 0<k then(if Wo c.ap k c.lo (k-1)>Wo c.ap k c.lo k then Wo c.ap k c.lo (k-1)else Wo c.ap k c.lo k)else Wo c.ap k c.lo k):=by
        split
        · split<;>omega
        · exact Int.le_refl _
      refine⟨fun i hi=>?_,fun i hi=>?_,fun p d hi=>?_,fun x l i hi=>?_⟩
      · by_cases e:i=k
        · subst e;rw[b,<-f];exact Int.le_trans g0 g1
        · rw[a i e];exact r i (by omega)
      · by_cases e:i+1=k
        · subst e
          rw[b,a i (by omega)]
          refine Int.le_trans ?_ g1;rw[if_pos (by omega),Nat.add_sub_cancel]
          split<;>omega
        · rw[a i (by omega),a (i+1) e];exact o i (by omega)
      · have:=g p d
        by_cases e:p.2=k
        · rw[e,b,a p.1 (by omega)];exact g2 p d e
        · rw[a p.1 (by omega),a p.2 e];exact q p d (by omega)
      · by_cases e:i=k
        · subst e
          rw[b];refine X6g _ _ _ _ _ ?_ fun p d e=>?_
          · have s:=l.1 i (by omega)
            rw[f];split
            · have:=m x l (i-1) (by omega)
              have t:=l.2.1 (i-1) (by omega)
              rw[Nat.sub_add_cancel (by omega)]at t
              split<;>omega
            · exact s
          · have y:=g p d
            have:=m x l p.1 (by omega)
            have u:=l.2.2 p d;rw[e]at u;omega
        · rw[a i e];exact m x l i (by omega)
  obtain⟨r,o,q,m⟩:=main n (Nat.le_refl _);exact⟨⟨r,o,fun p d=>q p d (g p d).2⟩,m⟩
def X4Z (H:Nat->Int):List (Nat×Nat)->Nat->Int->Int
  | [],_,a=>a
  | p::ps,i,a=>X4Z H ps i (if p.1=i then(if H p.2-1<a then H p.2-1 else a)else a)
def dn1 (n:Nat) (ap:List (Nat×Nat)) (H:Nat->Int) (i:Nat):Int:=X4Z H ap i (if i+1<n then(if H (i+1)<H i then H (i+1)else H i)else H i)
def Wh (n:Nat) (ap:List (Nat×Nat)):Nat->(Nat->Int)->Nat->Int
  | 0,H=>H
  | k+1,H=>fun j=>if j=n-1-k then dn1 n ap (Wh n ap k H) (n-1-k)else Wh n ap k H j
theorem X6i (H:Nat->Int) (i:Nat):∀(ap:List (Nat×Nat)) (a:Int),X4Z H ap i a<=a/\∀p∈ap,p.1=i->X4Z H ap i a<=H p.2-1
  | [],a=>⟨Int.le_refl _,by simp⟩
  | p::ps,a=>by
    unfold X4Z;have b:(if p.1=i then(if H p.2-1<a then H p.2-1 else a)else a)<=a/\(p.1=i->(if p.1=i then(if H p.2-1<a then H p.2-1 else a)else a)<=H p.2-1):=by
      by_cases e:p.1=i
      · by_cases e2:H p.2-1<a
        · simp only[e,e2,if_true];exact⟨by omega,fun _=>Int.le_refl _⟩
        · simp only[e,e2,if_true,if_false];exact⟨Int.le_refl _,fun _=>by omega⟩
      · simp only[e,if_false];exact⟨Int.le_refl _,fun h=>h.elim⟩
    generalize (if p.1=i then(if H p.2-1<a then H p.2-1 else a)else a)=a' at b⊢;obtain⟨d,f⟩:=X6i H i ps a';refine⟨Int.le_trans d b.1,fun q c e=>?_⟩;rcases jv.1 c with rfl|c
    · exact Int.le_trans d (b.2 e)
    · exact f q c e
theorem X6h (H:Nat->Int) (i:Nat) (b:Int):∀(ap:List (Nat×Nat)) (a:Int),b<=a->(∀p∈ap,p.1=i->b<=H p.2-1)->b<=X4Z H ap i a
  | [],_,h,_=>h
  | p::ps,a,h,hp=>by
    unfold X4Z;refine X6h H i b ps _ ?_ fun q c=>hp q (by simp[c])
    have:=hp p (by simp)
    split
    · rename_i e
      have:=this e;split<;>omega
    · exact h
theorem X6O (n:Nat) (ap:List (Nat×Nat)) (H:Nat->Int):∀(k j:Nat),k<=n->j+k<n->Wh n ap k H j=H j
  | 0,_,_,_=>rfl
  | k+1,j,hk,h=>by
    unfold Wh;rw[if_neg (by omega)]
    exact X6O n ap H k j (by omega) (by omega)
theorem X33 {n:Nat} {c:Con} (l:X4U n c.ap):X69 n c (Wh n c.ap n c.hi):=by
  have main:∀k,k<=n->(∀i,i<n->n<=i+k->Wh n c.ap k c.hi i<=c.hi i)/\(∀i,i+1<n->n<=i+k->Wh n c.ap k c.hi i<=Wh n c.ap k c.hi (i+1))/\(∀p∈c.ap,n<=p.1+k->Wh n c.ap k c.hi p.1+1<=Wh n c.ap k c.hi p.2) ∧
      ∀x,DnN n c x->∀i,i<n->n<=i+k->x i<=Wh n c.ap k c.hi i:=by
    intro k
    induction k with
    | zero=>intro _;exact⟨fun i h h'=>by omega,fun i h h'=>by omega,fun p d h=>by have:=l p d;omega,fun x _ i h h'=>by omega⟩
    | succ k ih =>
      intro y;obtain⟨t,r,s,o⟩:=ih (by omega)
      have a:∀j,j≠n-1-k->Wh n c.ap (k+1) c.hi j=Wh n c.ap k c.hi j:=fun j v=>by show(if j=n-1-k then _ else _)=_;rw[if_neg v]
      have b:Wh n c.ap (k+1) c.hi (n-1-k)=dn1 n c.ap (Wh n c.ap k c.hi) (n-1-k):=by show(if n-1-k=n-1-k then _ else _)=_;rw[if_pos rfl]
      have f:Wh n c.ap k c.hi (n-1-k)=c.hi (n-1-k):=X6O _ _ _ _ _ (by omega) (by omega)
      obtain⟨g1,g2⟩:=X6i (Wh n c.ap k c.hi) (n-1-k) c.ap (if n-1-k+1<n then(if Wh n c.ap k c.hi (n-1-k+1)<Wh n c.ap k c.hi (n-1-k)then Wh n c.ap k c.hi (n-1-k+1)else Wh n c.ap k c.hi (n-1-k))else Wh n c.ap k c.hi (n-1-k));have g0:(if n-1-k+1<n then(if Wh n c.ap k c.hi (n-1-k+1)<Wh n c.ap k c.hi (n-1-k)then Wh n c.ap k c.hi (n-1-k+1)else Wh n c.ap k c.hi (n-1-k))else Wh n c.ap k c.hi (n-1-k))<=Wh n c.ap k c.hi (n-1-k):=by
        split
        · split<;>omega
        · exact Int.le_refl _
      refine⟨fun i hi m=>?_,fun i hi m=>?_,fun p d hi=>?_,fun x g i hi m=>?_⟩
      · by_cases e:i=n-1-k
        · rw[e,b,<-f];exact Int.le_trans g1 g0
        · rw[a i e];exact t i hi (by omega)
      · by_cases e:i=n-1-k
        · rw[e,b,a (n-1-k+1) (by omega)]
          refine Int.le_trans g1 ?_;rw[if_pos (by omega)]
          split<;>omega
        · rw[a i e,a (i+1) (by omega)];exact r i hi (by omega)
      · have:=l p d
        by_cases e:p.1=n-1-k
        · have:=g2 p d e
          rw[e,b,a p.2 (by omega)]
          unfold dn1;omega
        · rw[a p.1 e,a p.2 (by omega)];exact s p d (by omega)
      · by_cases e:i=n-1-k
        · rw[e,b]
          refine X6h _ _ _ _ _ ?_ fun p d e'=>?_
          · have q:=g.1 i hi
            rw[e]at q;rw[f];split
            · have:=o x g (n-1-k+1) (by omega) (by omega)
              have w:=g.2.1 (n-1-k) (by omega)
              split<;>omega
            · exact q
          · have z:=l p d
            have:=o x g p.2 (by omega) (by omega)
            have u:=g.2.2 p d;rw[e']at u;omega
        · rw[a i e];exact o x g i hi (by omega)
  obtain⟨t,r,s,o⟩:=main n (Nat.le_refl _);exact⟨⟨fun i hi=>t i hi (by omega),fun i hi=>r i hi (by omega),fun p d=>s p d (by omega)⟩,fun x g i hi=>o x g i hi (by omega)⟩
def X28 (n:Nat) (c:Con):Nat->Int:=Wo c.ap n c.lo
def X27 (n:Nat) (c:Con):Nat->Int:=Wh n c.ap n c.hi
def okN (n:Nat) (c:Con):Bool:=(List.range n).all fun i=>decide (X28 n c i<=X27 n c i)
theorem X4x {n:Nat} {c:Con}:okN n c=true↔∀i,i<n->X28 n c i<=X27 n c i:=by
  unfold okN;rw[List.all_eq_true];exact⟨fun h i hi=>by simpa using h i (List.mem_range.2 hi),fun h i hi=>by simpa using h i (List.mem_range.1 hi)⟩
abbrev Str:=Int×Nat
def Wq (n:Nat) (c:Con) (s:Str) (a b:Int):Con where
  hi:=fun i=>if 0<=s.1/\i=s.1.toNat then(if b<c.hi i then b else c.hi i)else c.hi i
  lo:=fun i=>if s.2<n/\i=s.2 then(if a+1>c.lo i then a+1 else c.lo i)else c.lo i
  ap:=if 0<=s.1/\s.2<n then c.ap++[(s.1.toNat,s.2)]else c.ap
def X3Y (n:Nat) (s:Str):Prop:=s.1<s.2/\s.2<=n /\ -1<=s.1
theorem X6P {n:Nat} {c:Con} (h:X4U n c.ap) {s:Str} (e:X3Y n s) (a b:Int):X4U n (Wq n c s a b).ap:=by
  unfold Wq;simp only;split
  · rename_i hc
    intro p d;rcases List.mem_append.1 d with d|d
    · exact h p d
    · simp only[List.mem_singleton]at d
      subst d;unfold X3Y at e;simp only;omega
  · exact h
theorem X5n {n:Nat} {c:Con} {s:Str} {a b:Int} {x:Nat->Int}:ApN (Wq n c s a b).ap x↔ApN c.ap x/\(0<=s.1->s.2<n->x s.1.toNat+1<=x s.2):=by
  unfold Wq ApN;simp only;split
  · rename_i hc
    constructor
    · intro h
      exact⟨fun p d=>h p (List.mem_append.2 (.inl d)),fun _ _=>h (s.1.toNat,s.2) (List.mem_append.2 (.inr (by simp)))⟩
    · rintro⟨f,e⟩ p d
      rcases List.mem_append.1 d with d|d
      · exact f p d
      · simp only[List.mem_singleton]at d
        subst d;exact e hc.1 hc.2
  · rename_i hc
    exact⟨fun h=>⟨h,fun f e=>absurd ⟨f,e⟩ hc⟩,fun h=>h.1⟩
theorem X6R {n:Nat} {c:Con} {s:Str} {a b:Int} {x:Nat->Int}:UpN n (Wq n c s a b) x↔UpN n c x/\(s.2<n->a+1<=x s.2)/\(0<=s.1->s.2<n->x s.1.toNat+1<=x s.2):=by
  unfold UpN;rw[X5n];have e:(∀i,i<n->(Wq n c s a b).lo i<=x i)↔(∀i,i<n->c.lo i<=x i)/\(s.2<n->a+1<=x s.2):=by
    unfold Wq;simp only;constructor
    · intro h
      refine⟨fun i hi=>?_,fun l=>?_⟩
      · have:=h i hi
        split at this
        · split at this<;>omega
        · exact this
      · have:=h s.2 l
        rw[if_pos ⟨l,rfl⟩]at this;split at this<;>omega
    · rintro⟨f,d⟩ i hi
      have:=f i hi;split
      · rename_i hc
        have g:=d hc.1;rw[<-hc.2]at g;split<;>omega
      · exact this
  rw[e];constructor
  · rintro⟨⟨f,d⟩,g,j,k⟩;exact⟨⟨f,g,j⟩,d,k⟩
  · rintro⟨⟨f,g,j⟩,d,k⟩;exact⟨⟨f,d⟩,g,j,k⟩
theorem X6Q {n:Nat} {c:Con} {s:Str} (m:X3Y n s) {a b:Int} {x:Nat->Int}:DnN n (Wq n c s a b) x↔DnN n c x/\(0<=s.1->x s.1.toNat<=b)/\(0<=s.1->s.2<n->x s.1.toNat+1<=x s.2):=by
  unfold DnN;rw[X5n];have e:(∀i,i<n->x i<=(Wq n c s a b).hi i)↔(∀i,i<n->x i<=c.hi i)/\(0<=s.1->x s.1.toNat<=b):=by
    unfold Wq;unfold X3Y at m;simp only;constructor
    · intro h
      refine⟨fun i hi=>?_,fun l=>?_⟩
      · have:=h i hi
        split at this
        · split at this<;>omega
        · exact this
      · have:=h s.1.toNat (by omega)
        rw[if_pos ⟨l,rfl⟩]at this;split at this<;>omega
    · rintro⟨g,d⟩ i hi
      have:=g i hi;split
      · rename_i hc
        have f:=d hc.1;rw[<-hc.2]at f;split<;>omega
      · exact this
  rw[e];constructor
  · rintro⟨⟨g,d⟩,f,j,k⟩;exact⟨⟨g,f,j⟩,d,k⟩
  · rintro⟨⟨g,f,j⟩,d,k⟩;exact⟨⟨g,d⟩,f,j,k⟩
def EqC (n:Nat) (c c':Con):Prop:=(∀x,UpN n c x↔UpN n c' x)/\∀x,DnN n c x↔DnN n c' x
theorem EqC.saw {n:Nat} {c c':Con} (h:EqC n c c') {s:Str} (d:X3Y n s) (a b:Int):EqC n (Wq n c s a b) (Wq n c' s a b) :=
  ⟨fun x=>by rw[X6R,X6R,h.1],fun x=>by rw[X6Q d,X6Q d,h.2]⟩
theorem EqC.lo {n:Nat} {c c':Con} (h:EqC n c c') (a:X4U n c.ap) (b:X4U n c'.ap) (i:Nat) (hi:i<n):X28 n c i=X28 n c' i:=X79 (X36 a) (X36 b) h.1 i hi
theorem EqC.hi {n:Nat} {c c':Con} (h:EqC n c c') (a:X4U n c.ap) (b:X4U n c'.ap) (i:Nat) (hi:i<n):X27 n c i=X27 n c' i:=X78 (X33 a) (X33 b) h.2 i hi
theorem EqC.ok {n:Nat} {c c':Con} (h:EqC n c c') (b:X4U n c.ap) (a:X4U n c'.ap):okN n c=okN n c':=by
  have:okN n c=true↔okN n c'=true:=by
    rw[X4x,X4x];exact⟨fun k i hi=>by rw[<-h.lo b a i hi,<-h.hi b a i hi];exact k i hi,fun k i hi=>by rw[h.lo b a i hi,h.hi b a i hi];exact k i hi⟩
  cases h3:okN n c<;>cases h4:okN n c'<;>simp_all
def X2T (n:Nat) (c:Con):Con:=⟨X28 n c,X27 n c,c.ap⟩
theorem X64 {n:Nat} {c:Con} (h:X4U n c.ap):EqC n c (X2T n c) :=
  ⟨fun x=>⟨fun a=>⟨fun i hi=>(X36 h).least x a i hi,a.2⟩,fun a=>⟨fun i hi=>Int.le_trans ((X36 h).up.1 i hi) (a.1 i hi),a.2⟩⟩,
   fun x=>⟨fun a=>⟨fun i hi=>(X33 h).great x a i hi,a.2⟩,fun a=>⟨fun i hi=>Int.le_trans (a.1 i hi) ((X33 h).dn.1 i hi),a.2⟩⟩⟩
structure Wit where
  strs:List Str
  a:Int
  b:Int
def X7i (n:Nat) (w:Wit):Prop:=∀s∈w.strs,X3Y n s
def W3 (n:Nat):List Wit->Con->List Con
  | [],c=>if okN n c then [X2T n c]else []
  | w::ws,c=>if okN n c then w.strs.flatMap fun s=>W3 n ws (Wq n c s w.a w.b)else []
def X1u (n:Nat):List Wit->Con->List Con
  | [],c=>if okN n c then [X2T n c]else []
  | w::ws,c=>if okN n c then w.strs.flatMap fun s=>X1u n ws (Wq n (X2T n c) s w.a w.b)else []
def X7h (n:Nat) (c c':Con):Prop:=(∀i,i<n->c.lo i=c'.lo i)/\∀i,i<n->c.hi i=c'.hi i
def X68 {α β:Type} (R:α->β->Prop):List α->List β->Prop
  | [],[]=>True
  | a::la,b::lb=>R a b/\X68 R la lb
  | _,_=>False
theorem X6u {α β:Type} {R:α->β->Prop}:∀{la:List α} {lb:List β} {la':List α} {lb':List β},X68 R la lb->X68 R la' lb'->X68 R (la++la') (lb++lb')
  | [],[],_,_,_,h=>h
  | _::_,_::_,_,_,h,h'=>⟨h.1,X6u h.2 h'⟩
  | [],_::_,_,_,h,_=>h.elim
  | _::_,[],_,_,h,_=>h.elim
theorem X62 {α β γ:Type} {R:β->γ->Prop} {f:α->List β} {g:α->List γ}:∀(l:List α),(∀a∈l,X68 R (f a) (g a))->X68 R (l.flatMap f) (l.flatMap g)
  | [],_=>trivial
  | a::l,h=>by
    rw[List.flatMap_cons,List.flatMap_cons];exact X6u (h a (by simp)) (X62 l fun b c=>h b (by simp[c]))
theorem X5k {n:Nat}:∀(ws:List Wit) (c c':Con),(∀w∈ws,X7i n w)->X4U n c.ap->X4U n c'.ap->EqC n c c'->X68 (X7h n) (W3 n ws c) (X1u n ws c')
  | [],c,c',_,h1,h2,h=>by
    unfold W3 X1u;rw[h.ok h1 h2];split
    · exact⟨⟨fun i hi=>h.lo h1 h2 i hi,fun i hi=>h.hi h1 h2 i hi⟩,trivial⟩
    · exact trivial
  | w::ws,c,c',hw,h1,h2,h=>by
    unfold W3 X1u;rw[h.ok h1 h2];split
    · refine X62 _ fun s a=>X5k ws _ _ (fun v hv=>hw v (by simp[hv])) (X6P h1 (hw w (by simp) s a) _ _) (X6P (c:=X2T n c') h2 (hw w (by simp) s a) _ _) ?_
      have:EqC n c (X2T n c'):=⟨fun x=>(h.1 x).trans ((X64 h2).1 x),fun x=>(h.2 x).trans ((X64 h2).2 x)⟩;exact this.saw (hw w (by simp) s a) _ _
    · exact trivial
end Nore
open Go Go.Ab
namespace Nore
def spN (L H:Nat->Int):Nat->Y2:=fun j=>⟨L j,H j⟩
def X2v (f:Nat->Y2) (k:Nat) (s:Y2):Nat->Y2:=fun j=>bif Nat.beq j k then s else f j
theorem X6D (f:Nat->Y2) (k:Nat) (s s':Y2):(fun j=>bif Nat.beq j k then s' else X2v f k s j)=X2v f k s':=by
  funext j;unfold X2v;cases Nat.beq j k<;>rfl
theorem X6C (f:Nat->Y2) (k:Nat) (s:Y2):X2v f k s k=s:=by unfold X2v;simp
theorem X5M (f:Nat->Y2) {k j:Nat} (s:Y2) (h:j≠k):X2v f k s j=f j:=by
  unfold X2v;cases e:Nat.beq j k with
  | false=>rfl
  | true=>exact absurd (je e) h
def X1 (ap:List Zb):List (Nat×Nat):=ap.map fun s=>(s.from_.toNat,s.to_.toNat)
def X6t (ap:List Zb):Prop:=ap.length<=1000/\∀s∈ap,0<=s.from_/\s.from_<s.to_/\s.to_<10
def BdN (L:Nat->Int):Prop:=∀i,-1000000<=L i/\L i<=1000000
theorem X6Z (L:Nat->Int) (p:Nat×Nat) (ps:List (Nat×Nat)) (i:Nat) (a:Int):X4Y L (p::ps) i a=X4Y L ps i (if p.2=i then(if L p.1+1>a then L p.1+1 else a)else a):=rfl
theorem X70 (H:Nat->Int) (p:Nat×Nat) (ps:List (Nat×Nat)) (i:Nat) (a:Int):X4Z H (p::ps) i a=X4Z H ps i (if p.1=i then(if H p.2-1<a then H p.2-1 else a)else a):=rfl
theorem X53 (ap:List Zb) (f:X6t ap) (L H:Nat->Int) (hL:BdN L) (k:Nat) (t:k<10) (a:Int) (s : -1000000<=a/\a<=1000001) (x1 x3:Int) (x6:List Zb) (x9:Zc) (x10:Nat->Y2) :
    Wb (ap.length:Int) x1 (k:Int) x3 (k:Int) x6 ap x9 x10 (0,X2v (spN L H) k ⟨a,H k⟩)=some (X2v (spN L H) k ⟨X4Y L (X1 ap) k a,H k⟩):=by
  obtain⟨w,o,n⟩:=WW (Xq (ap.length:Int) x1 (k:Int) x3 (k:Int) x6 ap x9 x10) ap.length (fun i (b:Nat->Y2)=>((i:Int),b))
    (fun i b=>∃a',(-1000000<=a'/\a'<=1000001)/\b=X2v (spN L H) k ⟨a',H k⟩/\X4Y L (X1 (ap.drop i)) k a'=X4Y L (X1 ap) k a) (fun w=>w=X2v (spN L H) k ⟨X4Y L (X1 ap) k a,H k⟩)
    (fun b ⟨a',_,e,h⟩=>⟨_,by simp[Xq,X6];rfl,by
      rw[e,<-h,List.drop_length];rfl⟩)
    (fun i b hi ⟨a',m,e,h⟩=>by
      right;have g:ap[i]∈ap:=jl hi;obtain⟨s1,s2,s3⟩:=f.2 _ g;have j:ap.getD i ⟨0,0⟩=ap[i]:=Xw _ _ _ hi;have e1:decide ((i:Int)<(ap.length:Int))=true:=by simp;omega
      have w1:=wS i (by have:=f.1;omega)
      have c:X1 (ap.drop i)=(ap[i].from_.toNat,ap[i].to_.toNat)::X1 (ap.drop (i+1)):=by
        rw[jb hi];rfl
      rw[c,X6Z]at h;simp only at h;simp only[Xq,X6,e1,z0S,ju,jB,kS,j,w1]
      by_cases ht:ap[i].to_=(k:Int)
      · have p:ap[i].from_.toNat≠k:=by omega
        have c1:(ap[i].to_==(k:Int))=true:=by simp[ht]
        have c2:decide ((k:Int)<(10:Int))=true:=by simp;omega
        have c3:Nat.blt k 10=true:=by simp[Nat.blt_eq];omega
        have c4:decide (0<=ap[i].from_)=true:=by simp[s1]
        have c5:decide (ap[i].from_<(10:Int))=true:=by simp;omega
        have c6:Nat.blt ap[i].from_.toNat 10=true:=by rw[Nat.blt_eq];omega
        have hv:=hL ap[i].from_.toNat;have r:(b ap[i].from_.toNat).Lo=L ap[i].from_.toNat:=by rw[e,X5M _ _ p];rfl
        have q:b k=⟨a',H k⟩:=by rw[e,X6C]
        have w2:IntKind.wrap .i64 (L ap[i].from_.toNat+1)=L ap[i].from_.toNat+1:=by rw[w64]<;>omega
        simp only[c1,c2,c3,c4,c5,c6,jB,ju,r,q,w2];have d:ap[i].to_.toNat=k:=by omega
        rw[if_pos d]at h;refine⟨_,rfl,(if L ap[i].from_.toNat+1>a' then L ap[i].from_.toNat+1 else a'),by split<;>omega,?_,h⟩
        rw[e,X6D]
        by_cases hc:L ap[i].from_.toNat+1>a'<;>simp[hc]
      · have c1:(ap[i].to_==(k:Int))=false:=X3Z ht
        simp only[c1,jA];have d:¬ap[i].to_.toNat=k:=by omega
        rw[if_neg d]at h;exact⟨_,rfl,a',m,e,h⟩) 0 _ (Nat.zero_le _) ⟨a,s,rfl,rfl⟩
  have l:Wb (ap.length:Int) x1 (k:Int) x3 (k:Int) x6 ap x9 x10 (0,X2v (spN L H) k ⟨a,H k⟩)=some w:=o;rw[l,n]
theorem X6n (ap:List Zb) (b:X6t ap) (L H:Nat->Int) (hL:BdN L) (k:Nat) (c:k<10) (a:Int) (d : -1000000<=a/\a<=1000001) (x1 x3:Int) (x6:List Zb) (x9:Zc) (x10:Nat->Y2) :
    WX (ap.length:Int) x1 (k:Int) x3 (k:Int) x6 ap x9 x10 (0,X2v (spN L H) k ⟨a,H k⟩)=some (X2v (spN L H) k ⟨X4Y L (X1 ap) k a,H k⟩) :=
  X53 ap b L H hL k c a d x1 x3 x6 x9 x10
theorem X54 (ap:List Zb) (f:X6t ap) (L H:Nat->Int) (r:BdN H) (k:Nat) (u:k<10) (a:Int) (t : -1000001<=a/\a<=1000000) (x2:Int) (x5:List Zb) (x7:Zc) (x8:Nat->Y2) :
    Wd ap x2 (ap.length:Int) (k:Int) x5 x7 x8 (0,X2v (spN L H) k ⟨L k,a⟩)=some (X2v (spN L H) k ⟨L k,X4Z H (X1 ap) k a⟩):=by
  obtain⟨w,o,n⟩:=WW (Xs ap x2 (ap.length:Int) (k:Int) x5 x7 x8) ap.length (fun i (b:Nat->Y2)=>((i:Int),b))
    (fun i b=>∃a',(-1000001<=a'/\a'<=1000000)/\b=X2v (spN L H) k ⟨L k,a'⟩/\X4Z H (X1 (ap.drop i)) k a'=X4Z H (X1 ap) k a) (fun w=>w=X2v (spN L H) k ⟨L k,X4Z H (X1 ap) k a⟩)
    (fun b ⟨a',_,e,h⟩=>⟨_,by simp[Xs,X7];rfl,by
      rw[e,<-h,List.drop_length];rfl⟩)
    (fun i b hi ⟨a',m,e,h⟩=>by
      right;have g:ap[i]∈ap:=jl hi;obtain⟨s1,s2,s3⟩:=f.2 _ g;have j:ap.getD i ⟨0,0⟩=ap[i]:=Xw _ _ _ hi;have e1:decide ((i:Int)<(ap.length:Int))=true:=by simp;omega
      have w1:=wS i (by have:=f.1;omega)
      have c:X1 (ap.drop i)=(ap[i].from_.toNat,ap[i].to_.toNat)::X1 (ap.drop (i+1)):=by
        rw[jb hi];rfl
      rw[c,X70]at h;simp only at h;simp only[Xs,X7,e1,z0S,ju,jB,kS,j,w1]
      by_cases ht:ap[i].from_=(k:Int)
      · have p:ap[i].to_.toNat≠k:=by omega
        have c1:(ap[i].from_==(k:Int))=true:=by simp[ht]
        have c2:decide ((k:Int)<(10:Int))=true:=by simp;omega
        have c3:Nat.blt k 10=true:=by simp[Nat.blt_eq];omega
        have c4:decide (0<=ap[i].to_)=true:=by simp;omega
        have c5:decide (ap[i].to_<(10:Int))=true:=by simp;omega
        have c6:Nat.blt ap[i].to_.toNat 10=true:=by rw[Nat.blt_eq];omega
        have hv:=r ap[i].to_.toNat;have s:(b ap[i].to_.toNat).Hi=H ap[i].to_.toNat:=by rw[e,X5M _ _ p];rfl
        have q:b k=⟨L k,a'⟩:=by rw[e,X6C]
        have w2:IntKind.wrap .i64 (H ap[i].to_.toNat-1)=H ap[i].to_.toNat-1:=by rw[w64]<;>omega
        simp only[c1,c2,c3,c4,c5,c6,jB,ju,s,q,w2];have d:ap[i].from_.toNat=k:=by omega
        rw[if_pos d]at h;refine⟨_,rfl,(if H ap[i].to_.toNat-1<a' then H ap[i].to_.toNat-1 else a'),by split<;>omega,?_,h⟩
        rw[e,X6D]
        by_cases hc:H ap[i].to_.toNat-1<a'<;>simp[hc]
      · have c1:(ap[i].from_==(k:Int))=false:=X3Z ht
        simp only[c1,jA];have d:¬ap[i].from_.toNat=k:=by omega
        rw[if_neg d]at h;exact⟨_,rfl,a',m,e,h⟩) 0 _ (Nat.zero_le _) ⟨a,t,rfl,rfl⟩
  have l:Wd ap x2 (ap.length:Int) (k:Int) x5 x7 x8 (0,X2v (spN L H) k ⟨L k,a⟩)=some w:=o;rw[l,n]
theorem X6p (ap:List Zb) (b:X6t ap) (L H:Nat->Int) (e:BdN H) (k:Nat) (c:k<10) (a:Int) (d : -1000001<=a/\a<=1000000) (x2:Int) (x5:List Zb) (x7:Zc) (x8:Nat->Y2) :
    WY ap x2 (ap.length:Int) (k:Int) x5 x7 x8 (0,X2v (spN L H) k ⟨L k,a⟩)=some (X2v (spN L H) k ⟨L k,X4Z H (X1 ap) k a⟩) :=
  X54 ap b L H e k c a d x2 x5 x7 x8
theorem X6r (ap:List (Nat×Nat)) (L:Nat->Int) (a b:Int) (hL:∀i,a<=L i/\L i<=b):∀(k j:Nat),a<=Wo ap k L j/\Wo ap k L j<=b+k
  | 0,j=>by
    have:=hL j;show a<=L j/\L j<=b+((0:Nat):Int);omega
  | k+1,j=>by
    have ih:=X6r ap L a b hL k;unfold Wo;split
    · unfold up1
      obtain⟨g,_⟩:=X6f (Wo ap k L) k ap (if 0<k then(if Wo ap k L (k-1)>Wo ap k L k then Wo ap k L (k-1)else Wo ap k L k)else Wo ap k L k);have i1:=ih k;have i2:=ih (k-1);refine⟨Int.le_trans ?_ g,X6g _ _ _ _ _ ?_ fun p _ _=>?_⟩
      · split
        · split<;>omega
        · omega
      · split
        · split<;>omega
        · omega
      · have:=ih p.1
        omega
    · have:=ih j
      omega
theorem X6b (n:Nat) (ap:List (Nat×Nat)) (H:Nat->Int) (a b:Int) (c:∀i,a<=H i/\H i<=b):∀(k j:Nat),a-k<=Wh n ap k H j/\Wh n ap k H j<=b
  | 0,j=>by
    have:=c j;show a-((0:Nat):Int)<=H j/\H j<=b;omega
  | k+1,j=>by
    have ih:=X6b n ap H a b c k;unfold Wh;split
    · unfold dn1
      obtain⟨g,_⟩:=X6i (Wh n ap k H) (n-1-k) ap (if n-1-k+1<n then(if Wh n ap k H (n-1-k+1)<Wh n ap k H (n-1-k)then Wh n ap k H (n-1-k+1)else Wh n ap k H (n-1-k))else Wh n ap k H (n-1-k));have i1:=ih (n-1-k);have i2:=ih (n-1-k+1);refine⟨X6h _ _ _ _ _ ?_ fun p _ _=>?_,Int.le_trans g ?_⟩
      · split
        · split<;>omega
        · omega
      · have:=ih p.2
        omega
      · split
        · split<;>omega
        · omega
    · have:=ih j
      omega
theorem X66 (f:Nat->Y2) (k:Nat):X2v f k (f k)=f:=by
  funext j;unfold X2v;cases e:Nat.beq j k with
  | false=>rfl
  | true=>rw[je e];rfl
theorem X6T (ap:List (Nat×Nat)) (L H:Nat->Int) (i:Nat):X2v (spN (Wo ap i L) H) i ⟨up1 ap (Wo ap i L) i,H i⟩=spN (Wo ap (i+1) L) H:=by
  funext j;unfold X2v spN;cases e:Nat.beq j i with
  | false =>
    have:j≠i:=fun h=>by subst h;simp at e
    show(⟨Wo ap i L j,H j⟩:Y2)=⟨if j=i then _ else _,H j⟩;rw[if_neg this]
  | true =>
    have:=je e;subst this;show(⟨_,_⟩:Y2)=⟨if j=j then _ else _,H j⟩;rw[if_pos rfl]
theorem X7g (n:Nat) (ap:List (Nat×Nat)) (L H:Nat->Int) (i:Nat):X2v (spN L (Wh n ap i H)) (n-1-i) ⟨L (n-1-i),dn1 n ap (Wh n ap i H) (n-1-i)⟩=spN L (Wh n ap (i+1) H):=by
  funext j;unfold X2v spN;cases e:Nat.beq j (n-1-i)with
  | false =>
    have:j≠n-1-i:=fun h=>by subst h;simp at e
    show(⟨L j,Wh n ap i H j⟩:Y2)=⟨L j,if j=n-1-i then _ else _⟩;rw[if_neg this]
  | true =>
    have:=je e;subst this;show(⟨_,_⟩:Y2)=⟨L (n-1-i),if n-1-i=n-1-i then _ else _⟩;rw[if_pos rfl]
theorem X6m (ap:List Zb) (c:X6t ap) (L H:Nat->Int) (hL:∀i,-900000<=L i/\L i<=900000) (n:Nat) (p:n<=10) (x1:Int) (x5:Zc) (x6:Nat->Y2) :
    Wa (n:Int) x1 ap x5 x6 (0,spN L H)=some (spN (Wo (X1 ap) n L) H):=by
  obtain⟨w,m,k⟩:=WW (Xp (n:Int) x1 ap x5 x6) n (fun i (b:Nat->Y2)=>((i:Int),b))
    (fun i b=>b=spN (Wo (X1 ap) i L) H) (fun w=>w=spN (Wo (X1 ap) n L) H)
    (fun b d=>⟨b,by simp[Xp,XE],d⟩)
    (fun i b hi d=>by
      right;have e1:decide ((i:Int)<(n:Int))=true:=by simp;omega
      have w1:=wS i (by omega)
      have f:=X6r (X1 ap) L _ _ hL i;have h:BdN (Wo (X1 ap) i L):=fun j=>by have:=f j;omega
      have o:=f i;simp only[Xp,XE,e1,jB,w1,kS]
      by_cases h0:0<i
      · have l:=f (i-1)
        have c1:decide ((i:Int)>0)=true:=by simp;omega
        have c2:decide ((i:Int)<(10:Int))=true:=by simp;omega
        have c3:Nat.blt i 10=true:=by rw[Nat.blt_eq];omega
        have w2:IntKind.wrap .i64 ((i:Int)-1)=((i-1:Nat):Int):=by rw[w64]<;>omega
        have c4:decide (((i-1:Nat):Int)<(10:Int))=true:=by simp;omega
        have c5:Nat.blt (i-1) 10=true:=by rw[Nat.blt_eq];omega
        simp only[c1,c2,c3,w2,c4,c5,z0S,kS,ju,jB];have a:(fun j=>bif Nat.beq j i then(⟨bif decide ((b (i-1)).Lo>(b i).Lo)then(b (i-1)).Lo else(b i).Lo,(b i).Hi⟩:Y2)else b j)=X2v (spN (Wo (X1 ap) i L) H) i ⟨if Wo (X1 ap) i L (i-1)>Wo (X1 ap) i L i then Wo (X1 ap) i L (i-1)else Wo (X1 ap) i L i,H i⟩:=by
          rw[d];funext j;unfold X2v spN
          by_cases hc:Wo (X1 ap) i L (i-1)>Wo (X1 ap) i L i<;>simp[hc]
        rw[a,X53 ap c _ H h i (by omega) _ (by split<;>omega)]
        refine⟨_,rfl,?_⟩;rw[<-X6T];unfold up1;rw[if_pos h0]
      · have g:i=0:=by omega
        subst g;have c1:decide (((0:Nat):Int)>0)=false:=rfl;simp only[c1,jA];have a:b=X2v (spN (Wo (X1 ap) 0 L) H) 0 ⟨Wo (X1 ap) 0 L 0,H 0⟩:=by
          rw[d];exact(X66 (spN (Wo (X1 ap) 0 L) H) 0).symm
        rw[a,X6n ap c _ H h 0 (by omega) _ (by omega)]
        refine⟨_,rfl,?_⟩;rw[<-X6T];rfl) 0 _ (Nat.zero_le _) rfl
  have e:Wa (n:Int) x1 ap x5 x6 (0,spN L H)=some w:=m;rw[e,k]
theorem X6o (ap:List Zb) (d:X6t ap) (L H:Nat->Int) (r:∀i,-900000<=H i/\H i<=900000) (n:Nat) (t:n<=10) (x4:Zc) (x5:Nat->Y2) :
    Wc (n:Int) ap x4 x5 ((n:Int)-1,spN L H)=some (spN L (Wh n (X1 ap) n H)):=by
  obtain⟨w,l,o⟩:=WW (Xr (n:Int) ap x4 x5) n (fun i (b:Nat->Y2)=>((n:Int)-1-i,b))
    (fun i b=>b=spN L (Wh n (X1 ap) i H)) (fun w=>w=spN L (Wh n (X1 ap) n H))
    (fun b e=>⟨b,by
      have e1:decide ((n:Int)-1-(n:Int)>=0)=false:=by simp;omega
      simp only[Xr,XF,e1,jA],e⟩)
    (fun i b hi e=>by
      right;obtain⟨k,q⟩:∃k:Nat,k=n-1-i:=⟨_,rfl⟩;have f:(n:Int)-1-i=(k:Int):=by omega
      have e1:decide ((k:Int)>=0)=true:=by simp
      have w1:=wS k (by omega)
      have w3:IntKind.wrap .i64 ((k:Int)-1)=(n:Int)-1-((i+1:Nat):Int):=by rw[w64]<;>omega
      have g:=X6b n (X1 ap) H _ _ r i;have m:BdN (Wh n (X1 ap) i H):=fun j=>by have:=g j;omega
      have p:=g k;have a:=X7g n (X1 ap) L H i;rw[<-q]at a;unfold dn1 at a;simp only[f,Xr,XF,e1,jB,w1,kS,w3]
      by_cases h0:k+1<n
      · have s:=g (k+1)
        have c1:decide (((k+1:Nat):Int)<(n:Int))=true:=by simp;omega
        have c2:decide ((k:Int)<(10:Int))=true:=by simp;omega
        have c3:Nat.blt k 10=true:=by rw[Nat.blt_eq];omega
        have c4:decide (((k+1:Nat):Int)<(10:Int))=true:=by simp;omega
        have c5:Nat.blt (k+1) 10=true:=by rw[Nat.blt_eq];omega
        simp only[c1,c2,c3,c4,c5,z0S,kS,ju,jB];have c:(fun j=>bif Nat.beq j k then(⟨(b k).Lo,bif decide ((b (k+1)).Hi<(b k).Hi)then(b (k+1)).Hi else(b k).Hi⟩:Y2)else b j)=X2v (spN L (Wh n (X1 ap) i H)) k ⟨L k,if Wh n (X1 ap) i H (k+1)<Wh n (X1 ap) i H k then Wh n (X1 ap) i H (k+1)else Wh n (X1 ap) i H k⟩:=by
          rw[e];funext j;unfold X2v spN
          by_cases hc:Wh n (X1 ap) i H (k+1)<Wh n (X1 ap) i H k<;>simp[hc]
        rw[c,X54 ap d L _ m k (by omega) _ (by split<;>omega)]
        refine⟨_,rfl,?_⟩;rw[if_pos h0]at a;exact a
      · have c1:decide (((k+1:Nat):Int)<(n:Int))=false:=by simp;omega
        simp only[c1,jA];have c:b=X2v (spN L (Wh n (X1 ap) i H)) k ⟨L k,Wh n (X1 ap) i H k⟩:=by
          rw[e];exact(X66 (spN L (Wh n (X1 ap) i H)) k).symm
        rw[c,X6p ap d L _ m k (by omega) _ (by omega)]
        refine⟨_,rfl,?_⟩;rw[if_neg h0]at a;exact a) 0 _ (Nat.zero_le _) rfl
  have e0:(n:Int)-1-((0:Nat):Int)=(n:Int)-1:=by omega
  rw[e0]at l;have h:Wc (n:Int) ap x4 x5 ((n:Int)-1,spN L H)=some w:=l;rw[h,o]
def X5T (L H:Nat->Int) (ap:List Zb):Con:=⟨L,H,X1 ap⟩
theorem X6L (q:Zc) (L H:Nat->Int) (ap:List Zb) (g:X6t ap) (hL:∀i,-900000<=L i/\L i<=900000) (s:∀i,-900000<=H i/\H i<=900000) (m:q.CoRecord.Entries.length<=10) :
    W7 q (spN L H) ap=some (spN (X28 q.CoRecord.Entries.length (X5T L H ap)) (X27 q.CoRecord.Entries.length (X5T L H ap)),okN q.CoRecord.Entries.length (X5T L H ap)):=by
  rw[X2K];unfold W0;generalize q.CoRecord.Entries.length=n at m;have w1:IntKind.wrap .i64 ((n:Int)-1)=(n:Int)-1:=by rw[w64]<;>omega
  rw[X6m ap g L H hL n m];simp only[jS,w1];rw[X6o ap g _ H s n m];have c1:decide ((n:Int)<=(10:Int))=true:=by simp;omega
  simp only[jS,z0S,c1,ju,jB,kS,List.drop_zero];have c:(List.map (spN (Wo (X1 ap) n L) (Wh n (X1 ap) n H)) (List.range 10)).take n=(List.range n).map (spN (X28 n (X5T L H ap)) (X27 n (X5T L H ap))):=by
    rw[<-List.map_take,List.take_range,Nat.min_eq_left m];rfl
  rw[c];generalize hA:X28 n (X5T L H ap)=A;generalize hB:X27 n (X5T L H ap)=B;have a:((List.range n).map (spN A B)).length=n:=by simp
  obtain⟨w,u,r⟩:=WW (Xt (n:Int) ((List.range n).map (spN A B))) n (fun i (_:Unit)=>(i:Int)) (fun i _=>∀j,j<i->A j<=B j)
    (fun w=>(∃j:Nat,w=.inl (j:Int)/\¬∀i,i<n->A i<=B i)\/(w=.inr ()/\∀i,i<n->A i<=B i))
    (fun _ h=>⟨.inr (),by simp[Xt,XG],.inr ⟨rfl,h⟩⟩)
    (fun i _ hi h=>by
      have e1:decide ((i:Int)<(n:Int))=true:=by simp;omega
      have l:((List.range n).map (spN A B)).getD i ⟨0,0⟩=⟨A i,B i⟩:=by
        rw[Xw _ _ _ (by rw[a];exact hi)]
        simp[spN]
      have w1:=wS i (by omega)
      simp only[Xt,XG,e1,a,z0S,ju,jB,kS,l,w1];rw[X2n];unfold XT;simp only[jS]
      by_cases hc:A i>B i
      · left
        exact⟨.inl (i:Int),by simp[hc],.inl ⟨i,rfl,fun k=>by have:=k i hi;omega⟩⟩
      · right
        refine⟨(),by simp[hc],fun j t=>?_⟩
        by_cases e:j=i
        · subst e;omega
        · exact h j (by omega)) 0 () (Nat.zero_le _) (fun j t=>by omega)
  have p:WZ (n:Int) ((List.range n).map (spN A B)) 0=some w:=u;have d:Wo (X1 ap) n L=A:=hA;have b:Wh n (X1 ap) n H=B:=hB;rw[a,p,d,b];rcases r with⟨k,rfl,o⟩|⟨rfl,f⟩
  · have:okN n (X5T L H ap)=false:=by
      rw[Bool.eq_false_iff];intro h;rw[X4x,hA,hB]at h;exact o h
    rw[this];simp
  · have:okN n (X5T L H ap)=true:=by
      rw[X4x,hA,hB];exact f
    rw[this];simp
def gtN (l:List Int) (i:Nat):Int:=l.getD i 0
theorem X4w (l:List Int) (i:Nat) (v:Int) (j:Nat) (hi:i<l.length):gtN (l.set i v) j=if j=i then v else gtN l j:=by
  unfold gtN;simp only[List.getD_eq_getElem?_getD,List.getElem?_set]
  by_cases e:i=j
  · subst e;simp[hi]
  · simp[e,Ne.symm e]
theorem X56:∀(l:List Int) (i:Nat) (v:Int),i<l.length->(l.set i v).sum=l.sum-gtN l i+v
  | a::l,0,v,_=>by simp[gtN];omega
  | a::l,i+1,v,h=>by
    have:=X56 l i v (by simpa using h)
    have e:gtN (a::l) (i+1)=gtN l i:=by simp[gtN]
    rw[e];simp only[List.set_cons_succ,List.sum_cons];omega
structure X2Q (n:Nat) (c:Con) (A B:Nat->Int) (lo hi:List Int):Prop where
  l1:lo.length=n
  l2:hi.length=n
  bd:∀i,i<n->c.lo i<=gtN lo i/\gtN lo i<=A i/\B i<=gtN hi i/\gtN hi i<=c.hi i
theorem X2Q.setLo {n:Nat} {c:Con} {A B:Nat->Int} {lo hi:List Int} (h:X2Q n c A B lo hi) {i:Nat} (a:i<n) {v:Int} (f:gtN lo i<=v) (d:v<=A i):X2Q n c A B (lo.set i v) hi:=by
  refine⟨by simp[h.l1],h.l2,fun j b=>?_⟩
  rw[X4w _ _ _ _ (by rw[h.l1];exact a)]
  have:=h.bd j b;split
  · rename_i e;subst e;omega
  · exact this
theorem X2Q.setHi {n:Nat} {c:Con} {A B:Nat->Int} {lo hi:List Int} (h:X2Q n c A B lo hi) {i:Nat} (a:i<n) {v:Int} (f:v<=gtN hi i) (d:B i<=v):X2Q n c A B lo (hi.set i v):=by
  refine⟨h.l1,by simp[h.l2],fun j b=>?_⟩
  rw[X4w _ _ _ _ (by rw[h.l2];exact a)]
  have:=h.bd j b;split
  · rename_i e;subst e;omega
  · exact this
theorem X6j {n:Nat} {c:Con} {A B:Nat->Int} (r:X6M n A) (u:X6M n B) (y:n<=1000000) {lo hi:List Int} (h:X2Q n c A B lo hi) :
    ∃(ag:Bool) (lo' a:List Int),X2r (0,false,lo,hi)=some (ag,lo',a)/\X2Q n c A B lo' a/\(ag=true->a.sum-lo'.sum<hi.sum-lo.sum) ∧
      (ag=false->lo'=lo/\a=hi/\∀i,i<n-1->gtN lo i<=gtN lo (i+1)/\gtN hi i<=gtN hi (i+1)):=by
  obtain⟨w,p,o⟩:=WW Wx (n-1) (fun i (b:Bool×List Int×List Int)=>((i:Int),b))
    (fun i b=>X2Q n c A B b.2.1 b.2.2/\(b.1=true->b.2.2.sum-b.2.1.sum<hi.sum-lo.sum)/\(b.1=false->b.2.1=lo/\b.2.2=hi/\∀j,j<i->gtN lo j<=gtN lo (j+1)/\gtN hi j<=gtN hi (j+1)))
    (fun w=>X2Q n c A B w.2.1 w.2.2/\(w.1=true->w.2.2.sum-w.2.1.sum<hi.sum-lo.sum)/\(w.1=false->w.2.1=lo/\w.2.2=hi/\∀j,j<n-1->gtN lo j<=gtN lo (j+1)/\gtN hi j<=gtN hi (j+1)))
    (fun b d=>⟨b,by
      obtain⟨ag,l,m⟩:=b;have f:=d.1.l1;simp only at f;have w1:=wS (n-1) (by omega)
      have e1:decide (((n-1+1:Nat):Int)<(n:Int))=false:=by simp;omega
      simp only[Wx,WD,w1,f,e1,jA],d⟩)
    (fun i b a d=>by
      right;obtain⟨ag,l,m⟩:=b;obtain⟨k,s1,s2⟩:=d;simp only at k s1 s2;have f:=k.l1;have s:=k.l2;have w1:=wS i (by omega)
      have e1:decide (((i+1:Nat):Int)<(n:Int))=true:=by simp;omega
      have e2:decide ((i:Int)<(n:Int))=true:=by simp;omega
      have e3:Nat.blt (i+1) n=true:=by rw[Nat.blt_eq];omega
      have e4:Nat.blt i n=true:=by rw[Nat.blt_eq];omega
      have b1:=k.bd i (by omega)
      have b2:=k.bd (i+1) (by omega)
      have m1:=r i (by omega)
      have m2:=u i (by omega)
      have g:∀(x:List Int) (j:Nat),x.getD j 0=gtN x j:=fun _ _=>rfl;simp only[Wx,WD,w1,f,s,e1,e2,e3,e4,z0S,kS,ju,jB,g];have kl:gtN l (i+1)<gtN l i->X2Q n c A B (l.set (i+1) (gtN l i)) m:=fun hc=>k.setLo (by omega) (by omega) (by omega)
      have sl:=X56 l (i+1) (gtN l i) (by omega)
      have sm:=X56 m i (gtN m (i+1)) (by omega)
      have v:m.sum-l.sum<=hi.sum-lo.sum:=by
        cases ag with
        | true=>have:=s1 rfl;omega
        | false=>obtain⟨q1,q2,_⟩:=s2 rfl;rw[q1,q2];omega
      by_cases d1:gtN l (i+1)<gtN l i
      · have c1:decide (gtN l (i+1)<gtN l i)=true:=by simp[d1]
        by_cases d2:gtN m i>gtN m (i+1)
        · have c2:decide (gtN m i>gtN m (i+1))=true:=by simp[d2]
          simp only[c1,c2,jB];exact⟨(true,_,_),rfl,(kl d1).setHi (by omega) (by omega) (by omega),fun _=>by simp only;omega,fun q=>by cases q⟩
        · have c2:decide (gtN m i>gtN m (i+1))=false:=by simp at d2;simp[d2]
          simp only[c1,c2,jB,jA];exact⟨(true,_,_),rfl,kl d1,fun _=>by simp only;omega,fun q=>by cases q⟩
      · have c1:decide (gtN l (i+1)<gtN l i)=false:=by simp at d1;simp[d1]
        by_cases d2:gtN m i>gtN m (i+1)
        · have c2:decide (gtN m i>gtN m (i+1))=true:=by simp[d2]
          simp only[c1,c2,jB,jA];exact⟨(true,_,_),rfl,k.setHi (by omega) (by omega) (by omega),fun _=>by simp only;omega,fun q=>by cases q⟩
        · have c2:decide (gtN m i>gtN m (i+1))=false:=by simp at d2;simp[d2]
          simp only[c1,c2,jB,jA];refine⟨(ag,l,m),rfl,k,s1,fun q=>?_⟩;obtain⟨q1,q2,q3⟩:=s2 q;refine⟨q1,q2,fun j t=>?_⟩
          by_cases e:j=i
          · subst e;rw[<-q1,<-q2];omega
          · exact q3 j (by omega)) 0 (false,lo,hi) (Nat.zero_le _) ⟨h,(fun q=>by cases q),fun _=>⟨rfl,rfl,fun j t=>by omega⟩⟩
  obtain⟨ag,lo',a⟩:=w;exact⟨ag,lo',a,p,o⟩
def X34 (ap:List Z6):List (Nat×Nat):=ap.map fun s=>(s.from_.toNat,s.to_.toNat)
def OkR (n:Nat) (ap:List Z6):Prop:=ap.length<=1000000/\∀s∈ap,0<=s.from_/\s.from_<s.to_/\s.to_<n
theorem X6k {n:Nat} {c:Con} {A B:Nat->Int} (ap:List Z6) (o:OkR n ap) (hA:ApN (X34 ap) A) (hB:ApN (X34 ap) B)
    (u:∀i,i<n -> -2000000<=c.lo i/\A i<=2000000 /\ -2000000<=B i/\c.hi i<=2000000) (ag0:Bool) {lo hi:List Int} (h:X2Q n c A B lo hi) :
    ∃(ag:Bool) (lo' d:List Int),X2s ap (ag0,0,hi,lo)=some (ag,d,lo')/\X2Q n c A B lo' d ∧
      ((ag=ag0/\lo'=lo/\d=hi/\∀s∈ap,gtN lo s.from_.toNat+1<=gtN lo s.to_.toNat/\gtN hi s.from_.toNat+1<=gtN hi s.to_.toNat)\/(ag=true/\d.sum-lo'.sum<hi.sum-lo.sum)):=by
  obtain⟨w,h1,y⟩:=WW (Wy ap) ap.length (fun i (b:Bool×List Int×List Int)=>(b.1,(i:Int),b.2.1,b.2.2))
    (fun i b=>X2Q n c A B b.2.2 b.2.1/\((b.1=ag0/\b.2.2=lo/\b.2.1=hi/\∀s∈ap.take i,gtN lo s.from_.toNat+1<=gtN lo s.to_.toNat/\gtN hi s.from_.toNat+1<=gtN hi s.to_.toNat)\/(b.1=true/\b.2.1.sum-b.2.2.sum<hi.sum-lo.sum)))
    (fun w=>X2Q n c A B w.2.2 w.2.1/\((w.1=ag0/\w.2.2=lo/\w.2.1=hi/\∀s∈ap,gtN lo s.from_.toNat+1<=gtN lo s.to_.toNat/\gtN hi s.from_.toNat+1<=gtN hi s.to_.toNat)\/(w.1=true/\w.2.1.sum-w.2.2.sum<hi.sum-lo.sum)))
    (fun b v=>⟨b,by simp[Wy,WE],by rw[List.take_length]at v;exact v⟩)
    (fun i b d v=>by
      right;obtain⟨ag,m,l⟩:=b;obtain⟨k,s⟩:=v;simp only at k s;have hl:=k.l1;have hm:=k.l2;have w1:=wS i (by have:=o.1;omega)
      have e:ap[i]∈ap:=jl d;obtain⟨f1,f2,f3⟩:=o.2 _ e;have r:ap.getD i ⟨0,0⟩=ap[i]:=Xw _ _ _ d;have pm:(ap[i].from_.toNat,ap[i].to_.toNat)∈X34 ap:=List.mem_map.2 ⟨_,e,rfl⟩;have m1:=hA _ pm;have m2:=hB _ pm;have p:∀t∈ap.take (i+1),t∈ap.take i\/t=ap[i]:=fun t ht=>by
        rw[List.take_succ_eq_append_getElem d]at ht;rcases List.mem_append.1 ht with q|q
        · exact .inl q
        · exact .inr (List.mem_singleton.1 q)
      generalize ap[i]=z at *;obtain⟨fr,to_⟩:=z;simp only at f1 f2 f3 m1 m2;obtain⟨a,rfl⟩:=Int.eq_ofNat_of_zero_le f1;obtain⟨b,rfl⟩:=Int.eq_ofNat_of_zero_le (show 0<=to_ by omega)
      simp only[kS]at m1 m2;have a0:a<b:=by omega
      have f:b<n:=by omega
      have e1:decide ((i:Int)<(ap.length:Int))=true:=by simp;omega
      have e2:decide ((a:Int)<(n:Int))=true:=by simp;omega
      have e3:decide ((b:Int)<(n:Int))=true:=by simp;omega
      have e4:Nat.blt a n=true:=by rw[Nat.blt_eq];omega
      have e5:Nat.blt b n=true:=by rw[Nat.blt_eq];omega
      have b1:=k.bd a (by omega)
      have b2:=k.bd b f;have d1:=u a (by omega)
      have d2:=u b f;have g:∀(x:List Int) (j:Nat),x.getD j 0=gtN x j:=fun _ _=>rfl;have w2:IntKind.wrap .i64 (gtN l a+1)=gtN l a+1:=by rw[w64]<;>omega
      have w3:IntKind.wrap .i64 (gtN m b-1)=gtN m b-1:=by rw[w64]<;>omega
      simp only[Wy,WE,w1,hl,hm,r,e1,e2,e3,e4,e5,z0S,kS,ju,jB,g,w2,w3];have sl:=X56 l b (gtN l a+1) (by omega)
      have sm:=X56 m a (gtN m b-1) (by omega)
      have hs:m.sum-l.sum<=hi.sum-lo.sum:=by
        rcases s with⟨_,q1,q2,_⟩|⟨_,q⟩
        · rw[q1,q2];omega
        · omega
      by_cases d1:gtN l b<gtN l a+1
      · have kl:X2Q n c A B (l.set b (gtN l a+1)) m:=k.setLo f (by omega) (by omega)
        have c1:decide (gtN l b<gtN l a+1)=true:=by simp[d1]
        by_cases d2:gtN m a>gtN m b-1
        · have c2:decide (gtN m a>gtN m b-1)=true:=by simp[d2]
          simp only[c1,c2,jB];exact⟨(true,_,_),rfl,kl.setHi (by omega) (by omega) (by omega),.inr ⟨rfl,by simp only;omega⟩⟩
        · have c2:decide (gtN m a>gtN m b-1)=false:=by simp at d2;simp[d2]
          simp only[c1,c2,jB,jA];exact⟨(true,_,_),rfl,kl,.inr ⟨rfl,by simp only;omega⟩⟩
      · have c1:decide (gtN l b<gtN l a+1)=false:=by simp at d1;simp[d1]
        by_cases d2:gtN m a>gtN m b-1
        · have c2:decide (gtN m a>gtN m b-1)=true:=by simp[d2]
          simp only[c1,c2,jB,jA];exact⟨(true,_,_),rfl,k.setHi (by omega) (by omega) (by omega),.inr ⟨rfl,by simp only;omega⟩⟩
        · have c2:decide (gtN m a>gtN m b-1)=false:=by simp at d2;simp[d2]
          simp only[c1,c2,jB,jA];refine⟨(ag,m,l),rfl,k,?_⟩;rcases s with⟨q0,q1,q2,q3⟩|q
          · refine .inl ⟨q0,q1,q2,fun t ht=>?_⟩
            rcases p t ht with q|rfl
            · exact q3 t q
            · rw[<-q1,<-q2];simp only[kS];omega
          · exact .inr q) 0 (ag0,hi,lo) (Nat.zero_le _) ⟨h,.inl ⟨rfl,rfl,rfl,fun t ht=>by simp at ht⟩⟩
  obtain⟨ag,d,lo'⟩:=w;exact⟨ag,lo',d,h1,y⟩
theorem X6l {n:Nat} (f:n<=1000000) {lo hi:List Int} (b:lo.length=n) (c:hi.length=n) :
    (∃u,X2t hi lo 0=some u/\((u=.inl false/\¬∀i,i<n->gtN lo i<=gtN hi i)\/(u=.inr ()/\∀i,i<n->gtN lo i<=gtN hi i))):=by
  obtain⟨w,g1,g2⟩:=WW (Wz hi lo) n (fun i (_:Unit)=>(i:Int)) (fun i _=>∀j,j<i->gtN lo j<=gtN hi j)
    (fun u=>(u=.inl false/\¬∀i,i<n->gtN lo i<=gtN hi i)\/(u=.inr ()/\∀i,i<n->gtN lo i<=gtN hi i))
    (fun _ h=>⟨.inr (),by simp[Wz,WF,b],.inr ⟨rfl,h⟩⟩)
    (fun i _ a h=>by
      have e1:decide ((i:Int)<(n:Int))=true:=by simp;omega
      have e4:Nat.blt i n=true:=by rw[Nat.blt_eq];omega
      have w1:=wS i (by omega)
      have g:∀(x:List Int) (j:Nat),x.getD j 0=gtN x j:=fun _ _=>rfl;simp only[Wz,WF,b,c,e1,e4,z0S,kS,ju,jB,g,w1]
      by_cases hc:gtN lo i>gtN hi i
      · left
        exact⟨.inl false,by simp[hc],.inl ⟨rfl,fun k=>by have:=k i a;omega⟩⟩
      · right
        refine⟨(),by simp[hc],fun j d=>?_⟩
        by_cases e:j=i
        · subst e;omega
        · exact h j (by omega)) 0 () (Nat.zero_le _) (fun j d=>by omega)
  exact⟨w,g1,g2⟩
theorem X6A {σ ω:Type} (st:σ->Option (σ⊕ω)) (P:σ->Prop) (Q:ω->Prop) (μ:σ->Nat)
    (h:∀s,P s->(∃w,st s=some (.inr w)/\Q w)\/∃s',st s=some (.inl s')/\P s'∧μ s'<μ s):∀(m:Nat) (s:σ),μ s<=m->P s->∃w,Za6 st s=some w/\Q w
  | m,s,hm,c=>by
    rcases h s c with⟨w,b,a⟩|⟨s',b,a,f⟩
    · exact⟨w,by rw[ZjH,b];rfl,a⟩
    · cases m with
      | zero=>omega
      | succ m =>
        obtain⟨w,d,e⟩:=X6A st P Q μ h m s' (by omega) a
        exact⟨w,by rw[ZjH,b];exact d,e⟩
theorem X7b:∀(l m:List Int),l.length=m.length->(∀i,i<l.length->gtN l i<=gtN m i)->l.sum<=m.sum
  | [],[],_,_=>Int.le_refl _
  | a::l,b::m,hl,h=>by
    have c:=h 0 (by simp)
    have:=X7b l m (by simpa using hl) fun i hi=>by
      have:=h (i+1) (by simpa using hi)
      simpa[gtN]using this
    simp only[gtN,List.getD_cons_zero]at c;simp only[List.sum_cons];omega
  | [],_::_,hl,_=>by simp at hl
  | _::_,[],hl,_=>by simp at hl
def Xz (x:Z8):Con:=⟨gtN x.lo,gtN x.hi,X34 x.later⟩
structure X5i (n:Nat) (x:Z8):Prop where
  l1:x.lo.length=n
  l2:x.hi.length=n
  ap:OkR n x.later
  bd:∀i,i<n -> -900000<=gtN x.lo i/\gtN x.lo i<=900000 /\ -900000<=gtN x.hi i/\gtN x.hi i<=900000
theorem X7a {n:Nat} {ap:List Z6} (h:OkR n ap):X4U n (X34 ap):=fun p a=>by
  obtain⟨s,b,rfl⟩:=List.mem_map.1 a;have:=h.2 s b;simp only;omega
theorem X4v (l:List Int) (i:Nat) (h:l.length<=i):gtN l i=0:=by
  unfold gtN;simp[List.getD_eq_getElem?_getD,List.getElem?_eq_none h]
theorem X5G {n:Nat} {x:Z8} (h:X5i n x) (hn:n<=100000) :
    ∃y,X3j x=some (y,okN n (Xz x))/\(okN n (Xz x)=true->y.later=x.later/\y.lo.length=n/\y.hi.length=n/\∀i,i<n->gtN y.lo i=X28 n (Xz x) i/\gtN y.hi i=X27 n (Xz x) i):=by
  have b:=X7a h.ap;have hL:X6a n (Xz x) (X28 n (Xz x)):=X36 (c:=Xz x) b;have g:X69 n (Xz x) (X27 n (Xz x)):=X33 (c:=Xz x) b;have hg:∀i,(-900000<=gtN x.lo i/\gtN x.lo i<=900000) /\ -900000<=gtN x.hi i/\gtN x.hi i<=900000:=fun i=>by
    by_cases e:i<n
    · have:=h.bd i e;omega
    · rw[X4v _ _ (by rw[h.l1];omega),X4v _ _ (by rw[h.l2];omega)];omega
  have o:=X6r (X34 x.later) (gtN x.lo) (-900000) 900000 (fun i=>(hg i).1) n;have r:=X6b n (X34 x.later) (gtN x.hi) (-900000) 900000 (fun i=>(hg i).2) n;have a4:∀i,i<n -> -2000000<=(Xz x).lo i/\X28 n (Xz x) i<=2000000 /\ -2000000<=X27 n (Xz x) i/\(Xz x).hi i<=2000000:=fun i hi=>by
    have h1:=h.bd i hi;have h2:X28 n (Xz x) i<=900000+n:=(o i).2;have h3 : -900000-(n:Int)<=X27 n (Xz x) i:=(r i).1;have h4:(Xz x).lo i=gtN x.lo i:=rfl;have h5:(Xz x).hi i=gtN x.hi i:=rfl;omega
  generalize hA:X28 n (Xz x)=A at *;generalize hB:X27 n (Xz x)=B at *;have t:X2Q n (Xz x) A B x.lo x.hi:=⟨h.l1,h.l2,fun i hi=>⟨Int.le_refl _,hL.up.1 i hi,g.dn.1 i hi,Int.le_refl _⟩⟩;rw[X47];unfold X1D;have a2:Nat.ble ((0+x.lo.length)*(8+1)) 200000000000000=true:=by rw[Nat.ble_eq,h.l1];omega
  have a0:Nat.ble ((0+x.hi.length)*(8+1)) 200000000000000=true:=by rw[Nat.ble_eq,h.l2];omega
  simp only[a2,a0,jB,List.nil_append]
  let full:List Int->List Int->Prop:=fun lo hi=>(∀i,i<n-1->gtN lo i<=gtN lo (i+1)/\gtN hi i<=gtN hi (i+1))/\(∀s∈x.later,gtN lo s.from_.toNat+1<=gtN lo s.to_.toNat/\gtN hi s.from_.toNat+1<=gtN hi s.to_.toNat)/\∀i,i<n->gtN lo i<=gtN hi i
  obtain⟨w,g1,g2⟩:=X6A (W5 x.later) (fun s=>X2Q n (Xz x) A B s.2.2 s.2.1/\(s.1=false->full s.2.2 s.2.1))
    (fun w=>(∃m l,w=.inl (false,m,l)/\¬∀i,i<n->A i<=B i)\/∃m l,w=.inr (m,l)/\X2Q n (Xz x) A B l m/\full l m)
    (fun s=>2*(s.2.1.sum-s.2.2.sum).toNat+(if s.1=true then 1 else 0))
    (fun s d=>by
      obtain⟨ag,m,l⟩:=s;obtain⟨k,hf⟩:=d;simp only at k hf;cases ag with
      | false=>exact .inl ⟨.inr (m,l),by simp[W5,WC],.inr ⟨m,l,rfl,k,hf rfl⟩⟩
      | true =>
        obtain⟨ag1,l1,m1,r1,k1,t1,u1⟩:=X6j hL.up.2.1 g.dn.2.1 (by omega) k
        obtain⟨ag2,l2,m2,r2,k2,v2⟩:=X6k x.later h.ap hL.up.2.2 g.dn.2.2 a4 ag1 k1;obtain⟨u,r3,v3⟩:=X6l (n:=n) (by omega) k2.l1 k2.l2
        have a:W5 x.later (true,m,l)=Sum.elim (fun y=>some (Sum.inr (Sum.inl (y,m2,l2)))) (fun _=>some (Sum.inl (ag2,m2,l2))) u:=by
          simp only[W5,WC,jB];rw[r1];simp only[jS];rw[r2];simp only[jS];rw[r3];simp only[jS]
        rcases v3 with⟨rfl,v3⟩|⟨rfl,v3⟩
        · left
          refine⟨_,a,.inl ⟨m2,l2,rfl,fun a3=>v3 fun i hi=>?_⟩⟩;have:=k2.bd i hi;have:=a3 i hi;omega
        · right
          have hnn:=X7b l2 m2 (by rw[k2.l1,k2.l2]) (fun i hi=>v3 i (by rw[k2.l1]at hi;exact hi))
          refine⟨_,a,⟨k2,fun e=>?_⟩,?_⟩
          · simp only at e
            rcases v2 with⟨e1,rfl,rfl,q⟩|⟨e1,_⟩
            · obtain⟨rfl,rfl,q2⟩:=u1 (by rw[<-e1];exact e)
              exact⟨q2,q,v3⟩
            · rw[e1]at e;cases e
          · simp only[if_true]
            rcases v2 with⟨e1,rfl,rfl,q⟩|⟨e1,q⟩
            · cases ag1 with
              | true=>have:=t1 rfl;rw[e1];simp only[if_true];omega
              | false=>obtain⟨rfl,rfl,_⟩:=u1 rfl;rw[e1];simp
            · have:m1.sum-l1.sum<=m.sum-l.sum:=by
                cases ag1 with
                | true=>have:=t1 rfl;omega
                | false=>obtain⟨rfl,rfl,_⟩:=u1 rfl;omega
              rw[e1];simp only[if_true];omega) _ (true,x.hi,x.lo) (Nat.le_refl _) ⟨t,fun e=>by cases e⟩
  have g1':X2q x.later (true,x.hi,x.lo)=some w:=g1;rw[g1'];have f:okN n (Xz x)=true↔∀i,i<n->A i<=B i:=by rw[X4x,hA,hB]
  rcases g2 with⟨m,l,rfl,j⟩|⟨m,l,rfl,k,f1,f2,f3⟩
  · have:okN n (Xz x)=false:=by
      rw[Bool.eq_false_iff];exact fun e=>j (f.1 e)
    rw[this];exact⟨_,rfl,fun e=>by cases e⟩
  · have a1:UpN n (Xz x) (gtN l):=⟨fun i hi=>(k.bd i hi).1,fun i hi=>(f1 i (by omega)).1,fun p z=>by
      obtain⟨s,d,rfl⟩:=List.mem_map.1 z;exact(f2 s d).1⟩
    have v:DnN n (Xz x) (gtN m):=⟨fun i hi=>(k.bd i hi).2.2.2,fun i hi=>(f1 i (by omega)).2,fun p z=>by
      obtain⟨s,d,rfl⟩:=List.mem_map.1 z;exact(f2 s d).2⟩
    have e1:∀i,i<n->gtN l i=A i:=fun i hi=>Int.le_antisymm (k.bd i hi).2.1 (hL.least _ a1 i hi);have e2:∀i,i<n->gtN m i=B i:=fun i hi=>Int.le_antisymm (g.great _ v i hi) (k.bd i hi).2.2.1;have:okN n (Xz x)=true:=f.2 fun i hi=>by rw[<-e1 i hi,<-e2 i hi];exact f3 i hi
    rw[this];exact⟨_,rfl,fun _=>⟨rfl,k.l1,k.l2,fun i hi=>⟨e1 i hi,e2 i hi⟩⟩⟩
def X4T (dev st:Int):List Zq->Nat->Int->Int->List Z6
  | [],i,now,fr=>if now=st then [⟨fr,i⟩]else []
  | x::xs,i,now,fr=>if x.Device=dev then(if now=st then [⟨fr,i⟩]else [])++X4T dev st xs (i+1) x.State i else X4T dev st xs (i+1) now fr
theorem X5P (dev st:Int) (i:Nat) (now fr:Int):X4T dev st [] i now fr=if now=st then [⟨fr,i⟩]else []:=rfl
theorem X5h (dev st:Int) (x:Zq) (xs:List Zq) (i:Nat) (now fr:Int):X4T dev st (x::xs) i now fr=if x.Device=dev then(if now=st then [⟨fr,i⟩]else [])++X4T dev st xs (i+1) x.State i else X4T dev st xs (i+1) now fr:=rfl
theorem X4E (r:CoRecord) (dev st:Int) (g:0<=dev/\dev<r.Devices.length) (m:r.Entries.length<=1000) :
    X25 r dev st=some (X4T dev st r.Entries 0 (r.Devices.getD dev.toNat ⟨ByteArray.empty,0,0⟩).First (-1)):=by
  rw[X3z];unfold WV;have c1:decide (0<=dev)=true:=by simp[g.1]
  have c2:decide (dev<(r.Devices.length:Int))=true:=by simp[g.2]
  simp only[c1,c2,ju,jB];generalize (r.Devices.getD dev.toNat ⟨ByteArray.empty,0,0⟩).First=f0;obtain⟨w,k,j⟩:=WW (XZ dev st r) (r.Entries.length+1) (fun i (b:Int×Int×List Z6)=>(b.1,b.2.1,(i:Int),b.2.2))
    (fun i b=>b.2.2.length<=i/\(i<=r.Entries.length->b.2.2++X4T dev st (r.Entries.drop i) i b.1 b.2.1=X4T dev st r.Entries 0 f0 (-1))/\(i=r.Entries.length+1->b.2.2=X4T dev st r.Entries 0 f0 (-1)))
    (fun w=>w=X4T dev st r.Entries 0 f0 (-1))
    (fun b f=>⟨b.2.2,by
      have e1:decide (((r.Entries.length+1:Nat):Int)<=(r.Entries.length:Int))=false:=by simp;omega
      simp only[XZ,W9,e1,jA],f.2.2 rfl⟩)
    (fun i b hi f=>by
      right;obtain⟨now,fr,acc⟩:=b;obtain⟨h,a,_⟩:=f;simp only at h a;have a:=a (by omega)
      have e1:decide ((i:Int)<=(r.Entries.length:Int))=true:=by simp;omega
      have w1:=wS i (by omega)
      have eb:Nat.ble ((acc.length+1)*(16+1)) 200000000000000=true:=by rw[Nat.ble_eq];omega
      simp only[XZ,W9,e1,jB,w1,z0S,kS,List.length_singleton,eb]
      by_cases hin:i<r.Entries.length
      · have e2:decide ((i:Int)<(r.Entries.length:Int))=true:=by simp;omega
        have c:r.Entries.getD i ⟨0,0,⟨0,0⟩⟩=r.Entries[i]:=Xw _ _ _ hin;simp only[e2,ju,jB,c];rw[jb hin,X5h]at a
        by_cases hdev:r.Entries[i].Device=dev
        · have c3:(r.Entries[i].Device != dev)=false:=by simp[hdev]
          simp only[c3,jA];rw[if_pos hdev]at a
          by_cases hnow:now=st
          · have c4:(now==st)=true:=by simp[hnow]
            simp only[c4,jB];rw[if_pos hnow,<-jj]at a;exact⟨(_,_,_),rfl,by simp only[List.length_append,List.length_singleton];omega,fun _=>a,fun e=>by omega⟩
          · have c4:(now==st)=false:=X3Z hnow
            simp only[c4,jA];rw[if_neg hnow,List.nil_append]at a;exact⟨(_,_,_),rfl,by simp only;omega,fun _=>a,fun e=>by omega⟩
        · have c3:(r.Entries[i].Device != dev)=true:=X3m hdev
          simp only[c3,jB];rw[if_neg hdev]at a;exact⟨(_,_,_),rfl,by simp only;omega,fun _=>a,fun e=>by omega⟩
      · have l:i=r.Entries.length:=by omega
        have e2:decide ((i:Int)<(r.Entries.length:Int))=false:=by simp;omega
        simp only[e2,jA];rw[jd (by omega),X5P]at a
        by_cases hnow:now=st
        · have c4:(now==st)=true:=by simp[hnow]
          simp only[c4,jB];rw[if_pos hnow]at a;exact⟨(_,_,_),rfl,by simp only[List.length_append,List.length_singleton];omega,fun e=>by omega,fun _=>a⟩
        · have c4:(now==st)=false:=X3Z hnow
          simp only[c4,jA];rw[if_neg hnow,jo]at a;exact⟨(_,_,_),rfl,by simp only;omega,fun e=>by omega,fun _=>a⟩) 0 (f0,-1,[]) (Nat.zero_le _) ⟨by simp,fun _=>by simp,fun e=>by omega⟩
  have d:X1W dev st r (f0,-1,0,[])=some w:=k;rw[d,j];rfl
theorem X3g {c d:Con} (g:∀i,c.lo i=d.lo i) (f:∀i,c.hi i=d.hi i) (h:c.ap=d.ap):c=d:=by
  obtain⟨a,b,e⟩:=c;obtain⟨a',b',e'⟩:=d;have g:a=a':=funext g;have f:b=b':=funext f;simp only at h;rw[g,f,h]
theorem X6K (ap:List Z6) (s:Z6):X34 (ap++[s])=X34 ap++[(s.from_.toNat,s.to_.toNat)]:=by
  unfold X34;rw[List.map_append];rfl
theorem X5Y {n:Nat} {b:Z8} (h:X5i n b) (m:n<=1000) (s:Z6) (k:0<=s.to_) (d:X3Y n (s.from_,s.to_.toNat)) (at_:Y2) (o : -900000<=at_.Lo/\at_.Lo<900000) :
    ∃y,X4z b s at_=some y/\Xz y=Wq n (Xz b) (s.from_,s.to_.toNat) at_.Lo at_.Hi/\y.lo.length=n/\y.hi.length=n/\y.later=(if 0<=s.from_/\s.to_.toNat<n then b.later++[s]else b.later):=by
  unfold X3Y at d;simp only at d;obtain⟨t,ht⟩:=Int.eq_ofNat_of_zero_le k;rw[X51];unfold X2w;have l:=h.ap.1;have b1:Nat.ble ((0+n)*(8+1)) 200000000000000=true:=by rw[Nat.ble_eq];omega
  have b2:Nat.ble ((0+b.later.length)*(16+1)) 200000000000000=true:=by rw[Nat.ble_eq];omega
  have b3:Nat.ble ((b.later.length+1)*(16+1)) 200000000000000=true:=by rw[Nat.ble_eq];omega
  have w1:IntKind.wrap .i64 (at_.Lo+1)=at_.Lo+1:=by rw[w64]<;>omega
  have g:∀(x:List Int) (j:Nat),x.getD j 0=gtN x j:=fun _ _=>rfl;rw[ht]at d⊢;simp only[kS]at d;simp only[List.nil_append,List.length_singleton,h.l1,h.l2,b1,b2,b3,jB,w1,g,kS,z0S]
  by_cases hf:0<=s.from_
  · obtain⟨f,a⟩:=Int.eq_ofNat_of_zero_le hf
    have c:f<n:=by omega
    have c1:decide (s.from_>=0)=true:=by simp[hf]
    have c2:decide ((f:Int)>=0)=true:=by simp
    have c3:decide ((f:Int)<(n:Int))=true:=by simp;omega
    have c4:Nat.blt f n=true:=by rw[Nat.blt_eq];omega
    simp only[a,c2,c3,c4,z0S,kS,ju,jB]
    by_cases htn:t<n
    · have d1:decide ((t:Int)<(n:Int))=true:=by simp;omega
      have d2:Nat.blt t n=true:=by rw[Nat.blt_eq];omega
      simp only[d1,d2,ju,jB];refine⟨_,rfl,X3g (fun i=>?_) (fun i=>?_) ?_,by simp[h.l1],by simp[h.l2],by simp[htn]⟩
      · show gtN (b.lo.set t _) i=_
        rw[X4w _ _ _ _ (by rw[h.l1];exact htn)]
        unfold Wq Xz;simp only[kS]
        by_cases e:i=t
        · subst e
          rw[if_pos rfl,if_pos ⟨htn,rfl⟩]
          by_cases q:at_.Lo+1>gtN b.lo i<;>simp[q]
        · rw[if_neg e,if_neg (fun q=>e q.2)]
      · show gtN (b.hi.set f _) i=_
        rw[X4w _ _ _ _ (by rw[h.l2];exact c)]
        unfold Wq Xz;simp only[kS]
        by_cases e:i=f
        · subst e
          rw[if_pos rfl,if_pos ⟨by omega,rfl⟩]
          by_cases q:at_.Hi<gtN b.hi i<;>simp[q]
        · rw[if_neg e,if_neg (fun q=>e q.2)]
      · show X34 (b.later++[s])=_
        unfold Wq Xz;simp only[kS];rw[if_pos ⟨by omega,htn⟩,X6K,a,ht]
        rfl
    · have d1:decide ((t:Int)<(n:Int))=false:=by simp;omega
      simp only[d1,jA];refine⟨_,rfl,X3g (fun i=>?_) (fun i=>?_) ?_,h.l1,by simp[h.l2],by simp[htn]⟩
      · unfold Wq Xz
        simp only[kS];rw[if_neg (fun q=>htn q.1)]
      · show gtN (b.hi.set f _) i=_
        rw[X4w _ _ _ _ (by rw[h.l2];exact c)]
        unfold Wq Xz;simp only[kS]
        by_cases e:i=f
        · subst e
          rw[if_pos rfl,if_pos ⟨by omega,rfl⟩]
          by_cases q:at_.Hi<gtN b.hi i<;>simp[q]
        · rw[if_neg e,if_neg (fun q=>e q.2)]
      · unfold Wq Xz
        simp only[kS];rw[if_neg (fun q=>htn q.2)]
  · have c1:decide (s.from_>=0)=false:=by simp;omega
    simp only[c1,jA]
    by_cases htn:t<n
    · have d1:decide ((t:Int)<(n:Int))=true:=by simp;omega
      have d2:Nat.blt t n=true:=by rw[Nat.blt_eq];omega
      simp only[d1,d2,ju,jB];refine⟨_,rfl,X3g (fun i=>?_) (fun i=>?_) ?_,by simp[h.l1],h.l2,by simp[hf]⟩
      · show gtN (b.lo.set t _) i=_
        rw[X4w _ _ _ _ (by rw[h.l1];exact htn)]
        unfold Wq Xz;simp only[kS]
        by_cases e:i=t
        · subst e
          rw[if_pos rfl,if_pos ⟨htn,rfl⟩]
          by_cases q:at_.Lo+1>gtN b.lo i<;>simp[q]
        · rw[if_neg e,if_neg (fun q=>e q.2)]
      · unfold Wq Xz
        simp only[kS];rw[if_neg (fun q=>hf q.1)]
      · unfold Wq Xz
        simp only[kS];rw[if_neg (fun q=>hf q.1)]
    · have d1:decide ((t:Int)<(n:Int))=false:=by simp;omega
      simp only[d1,jA];refine⟨_,rfl,X3g (fun i=>?_) (fun i=>?_) ?_,h.l1,h.l2,by simp[hf]⟩
      · unfold Wq Xz
        simp only[kS];rw[if_neg (fun q=>htn q.1)]
      · unfold Wq Xz
        simp only[kS];rw[if_neg (fun q=>hf q.1)]
      · unfold Wq Xz
        simp only[kS];rw[if_neg (fun q=>hf q.1)]
theorem X6B {σ ω:Type} {st st':σ->Option (σ⊕ω)} (h:∀s x,st s=some x->st' s=some x) {s:σ} {w:ω} (hr:Za6 st s=some w):Za6 st' s=some w:=by
  rw[Z29]at hr⊢
  induction hr with
  | done e=>exact .done (h _ _ e)
  | next e _ ih=>exact .next (h _ _ e) ih
theorem X63 {α β:Type} {t:(α->Option β)->α->Option β} (ht:∀f g:α->Option β,(∀x r,f x=some r->g x=some r)->∀x r,t f x=some r->t g x=some r) :
    ∀(n:Nat) (x:α) (r:β),Z9C t n x=some r->Z9C t (n+1) x=some r
  | 0,_,_,h=>by cases h
  | n+1,x,r,h=>ht _ _ (X63 ht n) x r h
theorem ZfI {α β:Type} {t:(α->Option β)->α->Option β} (ht:∀f g:α->Option β,(∀x r,f x=some r->g x=some r)->∀x r,t f x=some r->t g x=some r) (n:Nat) :
    ∀(k:Nat) (x:α) (r:β),Z9C t n x=some r->Z9C t (n+k) x=some r
  | 0,_,_,h=>h
  | k+1,x,r,h=>X63 ht (n+k) x r (ZfI ht n k x r h)
theorem X5H {α β:Type} {t:(α->Option β)->α->Option β} (ht:∀f g:α->Option β,(∀x r,f x=some r->g x=some r)->∀x r,t f x=some r->t g x=some r) {n:Nat} {x:α} {r:β} (h:Z9C t n x=some r):Zba t x=some r:=by
  refine Zk8 (fun m q b=>?_) ⟨n,r,h⟩;have c:=ZfI ht n m x r h;have a:=ZfI ht m n x q b;rw[Nat.add_comm]at a;rw[c]at a;exact(Option.some.inj a).symm
theorem X3s {α β:Type} {o o':Option α} {k k':α->Option β} {r:β} (h:o.bind k=some r) (b:∀a,o=some a->o'=some a) (c:∀a,k a=some r->k' a=some r):o'.bind k'=some r:=by
  cases o with
  | none=>cases h
  | some a=>rw[b a rfl];exact c a h
theorem X2J {β:Type} {c:Bool} {a a' b b':Option β} {r:β} (h:(bif c then a else b)=some r) (e:a=some r->a'=some r) (d:b=some r->b'=some r):(bif c then a' else b')=some r:=by
  cases c with
  | true=>exact e h
  | false=>exact d h
theorem X5K (f g:(CoRecord×(List Zr)×Z8×Unit)->Option (List Z8)) (h:∀x r,f x=some r->g x=some r) (x:CoRecord×(List Zr)×Z8×Unit) (r:List Z8) (hr:Wi f x=some r):Wi g x=some r:=by
  unfold Wi X1r at hr⊢;refine X3s hr (fun _ e=>e) fun a b=>X2J b (fun e=>e) fun b=>X2J b (fun e=>e) fun b=>X2J b (fun b=>X2J b (fun b=>?_) (fun e=>e)) (fun e=>e);refine X3s b (fun _ e=>e) fun q i=>X3s i (fun w c=>?_) fun _ e=>e;unfold X2m at c⊢;refine X6B (fun s y hy=>?_) c;unfold WN WJ at hy⊢;refine X2J hy (fun hy=>X2J hy (fun hy=>X2J hy (fun hy=>X2J hy (fun hy=>?_) fun e=>e) fun e=>e) fun e=>e) fun e=>e;exact X3s hy (fun _ e=>e) fun u d=>X3s d (fun v hv=>h _ _ hv) fun _ e=>e
theorem X6q (dev st:Int) (n:Nat):∀(e:List Zq) (i:Nat) (now fr:Int),i+e.length=n -> -1<=fr->fr<i->((X4T dev st e i now fr).length<=e.length+1)/\∀s∈X4T dev st e i now fr,-1<=s.from_/\s.from_<s.to_/\s.to_<=n
  | [],i,now,fr,h,h1,h2=>by
    simp only[List.length_nil,Nat.add_zero]at h;rw[X5P];split
    · refine⟨by simp,fun s a=>?_⟩
      rw[List.mem_singleton.1 a];simp only;omega
    · exact⟨by simp,fun s a=>by cases a⟩
  | x::xs,i,now,fr,h,h1,h2=>by
    simp only[List.length_cons]at h;rw[X5h];split
    · obtain⟨g1,g2⟩:=X6q dev st n xs (i+1) x.State i (by omega) (by omega) (by omega)
      split
      · refine⟨by simp only[List.length_append,List.length_cons,List.length_nil];omega,fun s a=>?_⟩
        rcases List.mem_append.1 a with q|q
        · rw[List.mem_singleton.1 q]
          simp only;omega
        · exact g2 s q
      · refine⟨by simp only[List.nil_append,List.length_cons];omega,fun s a=>g2 s (by simpa using a)⟩
    · obtain⟨g1,g2⟩:=X6q dev st n xs (i+1) now fr (by omega) h1 (by omega)
      exact⟨by simp only[List.length_cons];omega,g2⟩
def X2O (r:CoRecord) (x:Zr):List Z6:=X4T x.Device x.State r.Entries 0 (r.Devices.getD x.Device.toNat ⟨ByteArray.empty,0,0⟩).First (-1)
def X2Y (s:Z6):Str:=(s.from_,s.to_.toNat)
def X2Z (r:CoRecord) (x:Zr):Wit:=⟨(X2O r x).map X2Y,x.At.Lo,x.At.Hi⟩
structure X3l (r:CoRecord) (x:Zr):Prop where
  dev:0<=x.Device/\x.Device<r.Devices.length
  lo : -900000<=x.At.Lo/\x.At.Lo<900000
  hi : -900000<=x.At.Hi/\x.At.Hi<=900000
theorem X6w (n:Nat) (ap:List (Nat×Nat)) (H:Nat->Int):∀(k j:Nat),k<=n->n<=j->Wh n ap k H j=H j
  | 0,_,_,_=>rfl
  | k+1,j,hk,hj=>by
    unfold Wh;rw[if_neg (by omega)]
    exact X6w n ap H k j (by omega) hj
theorem X6F {r:CoRecord} (x:Zr) {n:Nat} (d:r.Entries.length=n):(X2O r x).length<=n+1/\∀s∈X2O r x,0<=s.to_/\X3Y n (X2Y s):=by
  obtain⟨a,c⟩:=X6q x.Device x.State n r.Entries 0 (r.Devices.getD x.Device.toNat ⟨ByteArray.empty,0,0⟩).First (-1) (by omega) (by omega) (by omega)
  rw[d]at a;refine⟨a,fun s b=>?_⟩;have:=c s b;unfold X3Y X2Y;simp only;omega
theorem X5F {n:Nat} {b y:Z8} (h:X5i n b) (d:okN n (Xz b)=true) (j:y.later=b.later) (k:y.lo.length=n) (l:y.hi.length=n)
    (f:∀i,i<n->gtN y.lo i=X28 n (Xz b) i/\gtN y.hi i=X27 n (Xz b) i):X5i n y/\Xz y=X2T n (Xz b):=by
  have a:=X7a h.ap;have g:=X4x.1 d;refine⟨⟨k,l,j▸h.ap,fun i hi=>?_⟩,X3g (fun i=>?_) (fun i=>?_) (by show X34 y.later=X34 b.later;rw[j])⟩
  · obtain⟨e1,e2⟩:=f i hi
    have g1:=(X36 (c:=Xz b) a).up.1 i hi;have g2:=(X33 (c:=Xz b) a).dn.1 i hi;have g3:=g i hi;have g4:=h.bd i hi;have g1':gtN b.lo i<=X28 n (Xz b) i:=g1;have g2':X27 n (Xz b) i<=gtN b.hi i:=g2;rw[e1,e2];omega
  · show gtN y.lo i=X28 n (Xz b) i
    by_cases e:i<n
    · exact(f i e).1
    · rw[X4v _ _ (by omega)]
      have:X28 n (Xz b) i=gtN b.lo i:=X6s _ _ _ _ (by omega)
      rw[this,X4v _ _ (by rw[h.l1];omega)]
  · show gtN y.hi i=X27 n (Xz b) i
    by_cases e:i<n
    · exact(f i e).2
    · rw[X4v _ _ (by omega)]
      have:X27 n (Xz b) i=gtN b.hi i:=X6w _ _ _ _ _ (Nat.le_refl _) (by omega)
      rw[this,X4v _ _ (by rw[h.l2];omega)]
theorem X7f {n:Nat} {b y:Z8} (h:X5i n b) {s:Z6} (m:0<=s.to_) (c:X3Y n (X2Y s)) (l:b.later.length<1000000) {a e:Int} (o : -900000<=a/\a<900000) (p : -900000<=e/\e<=900000)
    (d:Xz y=Wq n (Xz b) (X2Y s) a e) (f:y.lo.length=n) (j:y.hi.length=n) (k:y.later=(if 0<=s.from_/\s.to_.toNat<n then b.later++[s]else b.later)):X5i n y:=by
  unfold X3Y X2Y at c;simp only at c;refine⟨f,j,?_,fun i hi=>?_⟩
  · rw[k]
    split
    · rename_i hc
      refine⟨by simp only[List.length_append,List.length_cons,List.length_nil];omega,fun t ht=>?_⟩
      rcases List.mem_append.1 ht with q|q
      · exact h.ap.2 t q
      · rw[List.mem_singleton.1 q]
        omega
    · exact h.ap
  · have g:=h.bd i hi
    have e1:gtN y.lo i=(Wq n (Xz b) (X2Y s) a e).lo i:=congrFun (congrArg Con.lo d) i;have e2:gtN y.hi i=(Wq n (Xz b) (X2Y s) a e).hi i:=congrFun (congrArg Con.hi d) i;have f1:(Wq n (Xz b) (X2Y s) a e).lo i=gtN b.lo i\/(Wq n (Xz b) (X2Y s) a e).lo i=a+1:=by
      unfold Wq Xz;simp only;split
      · split
        · exact .inr rfl
        · exact .inl rfl
      · exact .inl rfl
    have f2:(Wq n (Xz b) (X2Y s) a e).hi i=gtN b.hi i\/(Wq n (Xz b) (X2Y s) a e).hi i=e:=by
      unfold Wq Xz;simp only;split
      · split
        · exact .inr rfl
        · exact .inl rfl
      · exact .inl rfl
    rw[e1,e2];rcases f1 with f1|f1<;>rcases f2 with f2|f2<;>rw[f1,f2]<;>omega
theorem X6e (n:Nat) (w:Wit) (ws:List Wit) (c:Con):X1u n (w::ws) c=if okN n c then w.strs.flatMap fun s=>X1u n ws (Wq n (X2T n c) s w.a w.b)else []:=rfl
theorem X75 (r:CoRecord) (n:Nat) (hn:r.Entries.length=n) (a1:n<=10):∀(l:List Zr) (b:Z8),(∀x∈l,X3l r x)->l.length<=8->X5i n b->b.later.length+l.length<=1000 →
    ∃out,Z9C Wi (l.length+1) (r,l,b,())=some out/\out.map Xz=X1u n (l.map (X2Z r)) (Xz b)/\(∀y∈out,y.lo.length=n/\y.hi.length=n)/\out.length<=11 ^ l.length:=by
  intro l
  induction l with
  | nil =>
    intro b _ _ f _;obtain⟨y,u,o⟩:=X5G f (by omega)
    show ∃out,X1r (Z9C Wi 0) r [] b=some out/\_;unfold X1r;simp only[u,jS];cases hok:okN n (Xz b)with
    | false =>
      refine⟨[],by simp,?_,(fun y hy=>by cases hy),by simp⟩
      simp only[List.map_nil];unfold X1u;rw[hok];rfl
    | true =>
      obtain⟨g1,g2,g3,g4⟩:=o hok;obtain⟨_,k2⟩:=X5F f hok g1 g2 g3 g4;refine⟨[y],by simp,?_,fun z hz=>?_,by simp⟩
      · simp only[jr,List.map_nil]
        unfold X1u;rw[hok,if_pos rfl,k2]
      · rw[List.mem_singleton.1 hz];exact⟨g2,g3⟩
  | cons x l ih =>
    intro b hx hl f k;simp only[List.length_cons]at hl k;have c:=hx x (by simp)
    obtain⟨y,u,o⟩:=X5G f (by omega)
    show ∃out,X1r (Z9C Wi (l.length+1)) r (x::l) b=some out/\_;unfold X1r;simp only[u,jS];cases hok:okN n (Xz b)with
    | false =>
      refine⟨[],by simp,?_,(fun y hy=>by cases hy),by simp⟩
      simp only[List.map_nil,jr];unfold X1u;rw[hok];rfl
    | true =>
      obtain⟨g1,g2,g3,g4⟩:=o hok;obtain⟨k1,k2⟩:=X5F f hok g1 g2 g3 g4;obtain⟨t1,t2⟩:=X6F x hn;have hM:11 ^ l.length<=11 ^ 8:=Nat.pow_le_pow_right (by omega) (by omega)
      have hM8:(11:Nat) ^ 8=214358881:=by decide
      have g:X25 r x.Device x.State=some (X2O r x):=X4E r x.Device x.State c.dev (by omega)
      have j:¬((x::l).length:Int)=0:=by simp only[List.length_cons];omega
      have c1:(((x::l).length:Int)==0)=false:=X3Z j;have c2:decide ((0:Int)<((x::l).length:Int))=true:=by rw[jk];simp only[List.length_cons];omega
      have c3:decide ((1:Int)<=((x::l).length:Int))=true:=by rw[jk];simp only[List.length_cons];omega
      have d:(x::l).getD (Int.toNat 0) ⟨0,0,⟨0,0⟩⟩=x:=rfl;obtain⟨w,r1,r2⟩:=WW (WN (Z9C Wi (l.length+1)) (x::l) (X2O r x) y r) (X2O r x).length (fun i (acc:List Z8)=>((i:Int),acc))
        (fun i acc=>acc.map Xz=((X2O r x).take i).flatMap (fun s=>X1u n (l.map (X2Z r)) (Wq n (X2T n (Xz b)) (X2Y s) x.At.Lo x.At.Hi))/\(∀z∈acc,z.lo.length=n/\z.hi.length=n)/\acc.length<=i*11 ^ l.length)
        (fun w=>w.map Xz=(X2O r x).flatMap (fun s=>X1u n (l.map (X2Z r)) (Wq n (X2T n (Xz b)) (X2Y s) x.At.Lo x.At.Hi))/\(∀z∈w,z.lo.length=n/\z.hi.length=n)/\w.length<=(X2O r x).length*11 ^ l.length)
        (fun acc h=>⟨acc,by simp[WN,WJ],by rw[List.take_length]at h;exact h⟩)
        (fun i acc hi h=>by
          right;obtain⟨q1,q2,q3⟩:=h;have m:(X2O r x)[i]∈X2O r x:=jl hi;obtain⟨s1,s2⟩:=t2 _ m;have v:(X2O r x).getD i ⟨0,0⟩=(X2O r x)[i]:=Xw _ _ _ hi;have e1:decide ((i:Int)<((X2O r x).length:Int))=true:=by simp;omega
          have w1:=wS i (by omega)
          obtain⟨z,v1,v2,v3,v4,v5⟩:=X5Y k1 (by omega) (X2O r x)[i] s1 s2 x.At c.lo
          have hz:=X7f k1 s1 s2 (by rw[g1];omega) c.lo c.hi v2 v3 v4 v5
          have p:z.later.length+l.length<=1000:=by
            rw[v5,g1];split
            · simp only[List.length_append,List.length_cons,List.length_nil];omega
            · omega
          obtain⟨out,o1,o2,o3,o4⟩:=ih z (fun a t=>hx a (by simp[t])) (by omega) hz p
          have e:List.drop (Int.toNat 1) (List.take (x::l).length (x::l))=l:=by rw[List.take_length];rfl
          have a0:i*11 ^ l.length<=11*11 ^ l.length:=Nat.mul_le_mul_right _ (by omega)
          have eb:Nat.ble ((acc.length+out.length)*(72+1)) 200000000000000=true:=by rw[Nat.ble_eq];omega
          simp only[WN,WJ,e1,c2,c3,z0S,kS,v,d,w1,jB,ju,v1,jS,e,o1,eb,Nat.zero_le,Nat.le_refl,decide_true];refine⟨acc++out,rfl,?_,fun a t=>?_,?_⟩
          · rw[List.map_append,q1,o2,List.take_succ_eq_append_getElem hi,List.flatMap_append,v2,k2]
            simp only[List.flatMap_cons,List.flatMap_nil,jo];rfl
          · rcases List.mem_append.1 t with q|q
            · exact q2 a q
            · exact o3 a q
          · rw[List.length_append,Nat.succ_mul];omega) 0 [] (Nat.zero_le _) ⟨by simp,(fun z hz=>by cases hz),by simp⟩
      have r1':X2m (Z9C Wi (l.length+1)) (x::l) (X2O r x) y r (0,[])=some w:=r1;obtain⟨w1,w2,w3⟩:=r2;refine⟨w,?_,?_,w2,?_⟩
      · simp only[Bool.not_true,jA,c1,c2,ju,jB,d,g,jS,r1',Nat.le_refl,decide_true]
      · rw[w1]
        simp only[jr];show _=X1u n (X2Z r x::l.map (X2Z r)) (Xz b);rw[X6e,hok,if_pos rfl];show _=((X2O r x).map X2Y).flatMap _;rw[List.flatMap_map];rfl
      · have h11:(X2O r x).length*11 ^ l.length<=11*11 ^ l.length:=Nat.mul_le_mul_right _ (by omega)
        rw[List.length_cons,Nat.pow_succ];omega
def X2I (r:CoRecord):Z8:=⟨r.Entries.map (·.At.Lo),r.Entries.map (·.At.Hi),[]⟩
theorem X5v (r:CoRecord) (j:r.Entries.length<=1000):X3M r=some (X2I r):=by
  rw[X4r];unfold X24;obtain⟨w,h,f⟩:=WW (WK r) r.Entries.length (fun i (b:List Int×List Int)=>((i:Int),b))
    (fun i b=>b.1=(r.Entries.take i).map (·.At.Hi)/\b.2=(r.Entries.take i).map (·.At.Lo)) (fun w=>w.1=r.Entries.map (·.At.Hi)/\w.2=r.Entries.map (·.At.Lo))
    (fun b c=>⟨b,by simp[WK,WU],by rw[List.take_length]at c;exact c⟩)
    (fun i b hi c=>by
      right;obtain⟨m,l⟩:=b;obtain⟨q1,q2⟩:=c;simp only at q1 q2;have g:m.length=i:=by rw[q1,List.length_map,List.length_take];omega
      have e:l.length=i:=by rw[q2,List.length_map,List.length_take];omega
      have e1:decide ((i:Int)<(r.Entries.length:Int))=true:=by simp;omega
      have w1:=wS i (by omega)
      have a:r.Entries.getD i ⟨0,0,⟨0,0⟩⟩=r.Entries[i]:=Xw _ _ _ hi;have eb:Nat.ble ((i+1)*(8+1)) 200000000000000=true:=by rw[Nat.ble_eq];omega
      simp only[WK,WU,e1,z0S,kS,ju,jB,a,w1,g,e,List.length_singleton,eb];refine⟨(_,_),rfl,?_,?_⟩
      · simp only[q1,List.take_succ_eq_append_getElem hi,List.map_append,jr,List.map_nil]
      · simp only[q2,List.take_succ_eq_append_getElem hi,List.map_append,jr,List.map_nil]) 0 ([],[]) (Nat.zero_le _) ⟨by simp,by simp⟩
  have d:X2F r (0,[],[])=some w:=h;obtain⟨q1,q2⟩:=f;rw[d];simp only[jS];rw[q1,q2];rfl
def X5x (r:CoRecord):Prop:=r.Entries.length<=10/\∀x∈r.Entries,-900000<=x.At.Lo/\x.At.Lo<=900000 /\ -900000<=x.At.Hi/\x.At.Hi<=900000
theorem X71 {r:CoRecord} (h:X5x r):X5i r.Entries.length (X2I r):=by
  refine⟨by simp[X2I],by simp[X2I],⟨by simp[X2I],fun s a=>by cases a⟩,fun i hi=>?_⟩
  have e1:gtN (X2I r).lo i=r.Entries[i].At.Lo:=by
    show(r.Entries.map (·.At.Lo)).getD i 0=_;rw[Xw _ _ _ (by simpa using hi)]
    simp
  have e2:gtN (X2I r).hi i=r.Entries[i].At.Hi:=by
    show(r.Entries.map (·.At.Hi)).getD i 0=_;rw[Xw _ _ _ (by simpa using hi)]
    simp
  rw[e1,e2];exact h.2 _ (jl hi)
theorem X5X {r:CoRecord} (h:X5x r) {l:List Zr} (c:∀x∈l,X3l r x) (b:l.length<=8) :
    ∃out,X5f r l (X2I r)=some out/\out.map Xz=X1u r.Entries.length (l.map (X2Z r)) (Xz (X2I r))/\(∀y∈out,y.lo.length=r.Entries.length/\y.hi.length=r.Entries.length)/\out.length<=11 ^ l.length:=by
  obtain⟨out,a,d⟩:=X75 r _ rfl h.1 l (X2I r) c b (X71 h) (by show 0+l.length<=1000;omega)
  exact⟨out,X5H X5K a,d⟩
theorem X5J {r:CoRecord} (h:X5x r) {l:List Zr} (a:∀x∈l,X3l r x) (c:l.length<=8) :
    X1q r l=some (!(X1u r.Entries.length (l.map (X2Z r)) (Xz (X2I r))).isEmpty):=by
  obtain⟨out,d,b,_⟩:=X5X h a c;rw[X4K];unfold X2f;rw[X5v r (by have:=h.1;omega)]
  simp only[jS,d,<-b];cases out with
  | nil=>rfl
  | cons y ys =>
    have:decide (((y::ys).length:Int)>0)=true:=by rw[jk];simp only[List.length_cons];omega
    simp only[this];rfl
def LeO {β:Type} (a b:Option β):Prop:=∀r,a=some r->b=some r
theorem LeO.same {β:Type} (a:Option β):LeO a a:=fun _ h=>h
theorem LeO.cond {β:Type} {c:Bool} {a a' b b':Option β} (d:LeO a a') (e:LeO b b'):LeO (bif c then a else b) (bif c then a' else b'):=by
  cases c
  · exact e
  · exact d
theorem LeO.bind {α β:Type} {o o':Option α} {k k':α->Option β} (b:LeO o o') (c:∀a,LeO (k a) (k' a)):LeO (o.bind k) (o'.bind k'):=fun r h=>by
  cases o with
  | none=>cases h
  | some a=>rw[b a rfl];exact c a r h
theorem LeO.run {σ ω:Type} {st st':σ->Option (σ⊕ω)} (h:∀s,LeO (st s) (st' s)) (s:σ):LeO (Za6 st s) (Za6 st' s):=fun _ hr=>X6B h hr
theorem X5R (f g:((Nat->Y2)×Int×(List Zb)×Zc×Bool×Zc×Zc)->Option ((Bool×Zc×Bool×Zc×Zc)⊕(Bool×Zc×Bool×Zc×Zc))) (h:∀x,LeO (f x) (g x)) (x):LeO (X2 f x) (X2 g x):=by
  unfold X2 X8;refine .bind (.same _) fun a=>.cond (.same _) (.cond (.same _) (.cond (.cond (.cond (.cond (.bind ?_ fun _=>.same _) (.same _)) (.same _)) (.same _)) (.same _)));unfold XC;refine LeO.run (fun s=>?_) _;unfold X5 X0;dsimp only
  repeat' (first|with_reducible exact LeO.same _|with_reducible exact LeO.bind (h _) fun _=>LeO.same _|with_reducible apply LeO.cond)
def X3B (u:Nat->Y2) (ap:List Zb):Con:=X5T (fun j=>(u j).Lo) (fun j=>(u j).Hi) ap
def UBd (u:Nat->Y2):Prop:=∀i,-900000<=(u i).Lo/\(u i).Lo<=900000 /\ -900000<=(u i).Hi/\(u i).Hi<=900000
def ApK (n k:Nat) (ap:List Zb):Prop:=ap.length<=k/\∀s∈ap,0<=s.from_/\s.from_<s.to_/\s.to_<n
theorem ApK.bd {n k:Nat} {ap:List Zb} (h:ApK n k ap) (c:n<=10) (a:k<=1000):X6t ap:=⟨Nat.le_trans h.1 a,fun s b=>by have:=h.2 s b;omega⟩
theorem ApK.keep {n k:Nat} {ap:List Zb} (h:ApK n k ap):ApK n (k+1) ap:=⟨Nat.le_succ_of_le h.1,h.2⟩
theorem ApK.add {n k:Nat} {ap:List Zb} (h:ApK n k ap) {f t:Nat} (c:f<t) (b:t<n):ApK n (k+1) (ap++[⟨(f:Int),(t:Int)⟩]) :=
  ⟨by rw[List.length_append,List.length_singleton];exact Nat.succ_le_succ h.1,fun s a=>by
    rcases List.mem_append.1 a with q|q
    · exact h.2 s q
    · rw[List.mem_singleton.1 q];simp only;omega⟩
theorem X5N (q:Zc) (u:Nat->Y2) (ap:List Zb) {k:Nat} (a:UBd u) (b:ApK q.CoRecord.Entries.length k ap) (d:k<=1000) (c:q.CoRecord.Entries.length<=10) :
    W7 q u ap=some (spN (X28 q.CoRecord.Entries.length (X3B u ap)) (X27 q.CoRecord.Entries.length (X3B u ap)),okN q.CoRecord.Entries.length (X3B u ap)) :=
  X6L q (fun j=>(u j).Lo) (fun j=>(u j).Hi) ap (b.bd c d) (fun i=>⟨(a i).1,(a i).2.1⟩) (fun i=>⟨(a i).2.2.1,(a i).2.2.2⟩) c
def X4b (u:Nat->Y2) (f:Nat) (b:Int):Nat->Y2:=fun j=>bif Nat.beq j f then Y2.mk (u f).Lo (bif decide (b<(u f).Hi)then b else(u f).Hi)else u j
def X4c (u:Nat->Y2) (t:Nat) (a:Int):Nat->Y2:=fun j=>bif Nat.beq j t then Y2.mk (bif decide (a>(u t).Lo)then a else(u t).Lo) (u t).Hi else u j
theorem X4V (u:Nat->Y2) (f:Nat) (b:Int) (j:Nat):(X4b u f b j).Lo=(u j).Lo:=by
  unfold X4b;cases e:Nat.beq j f with
  | true=>rw[je e];rfl
  | false=>rfl
theorem X5z (u:Nat->Y2) (f:Nat) (b:Int) (j:Nat):(X4b u f b j).Hi=if j=f then(if b<(u f).Hi then b else(u f).Hi)else(u j).Hi:=by
  unfold X4b;cases e:Nat.beq j f with
  | true =>
    rw[if_pos (je e)]
    by_cases c:b<(u f).Hi<;>simp[c]
  | false=>rw[if_neg (Nat.ne_of_beq_eq_false e)];rfl
theorem X5A (u:Nat->Y2) (f:Nat) (b:Int) (j:Nat):(X4c u f b j).Hi=(u j).Hi:=by
  unfold X4c;cases e:Nat.beq j f with
  | true=>rw[je e];rfl
  | false=>rfl
theorem X5B (u:Nat->Y2) (f:Nat) (b:Int) (j:Nat):(X4c u f b j).Lo=if j=f then(if b>(u f).Lo then b else(u f).Lo)else(u j).Lo:=by
  unfold X4c;cases e:Nat.beq j f with
  | true =>
    rw[if_pos (je e)]
    by_cases c:b>(u f).Lo<;>simp[c]
  | false=>rw[if_neg (Nat.ne_of_beq_eq_false e)];rfl
theorem UBd.hi {u:Nat->Y2} (h:UBd u) (f:Nat) {b:Int} (c : -900000<=b/\b<=900000):UBd (X4b u f b):=fun i=>by
  rw[X4V,X5z];have a:=h i;have d:=h f;refine⟨a.1,a.2.1,?_⟩;split
  · split<;>omega
  · exact a.2.2
theorem UBd.lo {u:Nat->Y2} (h:UBd u) (f:Nat) {b:Int} (c : -900000<=b/\b<=900000):UBd (X4c u f b):=fun i=>by
  rw[X5B,X5A];have a:=h i;have d:=h f;refine⟨?_,?_,a.2.2⟩
  · split
    · split<;>omega
    · exact a.1
  · split
    · split<;>omega
    · exact a.2.1
theorem X6J (ap:List Zb) (f t:Nat):X1 (ap++[⟨(f:Int),(t:Int)⟩])=X1 ap++[(f,t)]:=by
  unfold X1;rw[List.map_append];rfl
theorem X6W (u:Nat->Y2) (ap:List Zb) {n f t:Nat} (ht:t<n) (a b:Int):X3B (X4c (X4b u f b) t (a+1)) (ap++[⟨(f:Int),(t:Int)⟩])=Wq n (X3B u ap) ((f:Int),t) a b:=by
  refine X3g (fun i=>?_) (fun i=>?_) ?_
  · show(X4c (X4b u f b) t (a+1) i).Lo=if t<n/\i=t then(if a+1>(u i).Lo then a+1 else(u i).Lo)else(u i).Lo
    rw[X5B,X4V,X4V]
    by_cases e:i=t
    · subst e;simp[ht]
    · rw[if_neg e,if_neg fun h=>e h.2]
  · show(X4c (X4b u f b) t (a+1) i).Hi=if 0<=(f:Int)/\i=(f:Int).toNat then(if b<(u i).Hi then b else(u i).Hi)else(u i).Hi
    rw[X5A,X5z,kS]
    by_cases e:i=f
    · subst e;simp
    · rw[if_neg e,if_neg fun h=>e h.2]
  · show X1 (ap++[⟨(f:Int),(t:Int)⟩])=if 0<=(f:Int)/\t<n then X1 ap++[((f:Int).toNat,t)]else X1 ap
    rw[if_pos ⟨by omega,ht⟩,X6J,kS]
theorem X7c (u:Nat->Y2) (ap:List Zb) {n f t:Nat} (ht:¬t<n) (a b:Int):X3B (X4b u f b) ap=Wq n (X3B u ap) ((f:Int),t) a b:=by
  refine X3g (fun i=>?_) (fun i=>?_) ?_
  · show(X4b u f b i).Lo=if t<n/\i=t then(if a+1>(u i).Lo then a+1 else(u i).Lo)else(u i).Lo
    rw[X4V,if_neg fun h=>ht h.1]
  · show(X4b u f b i).Hi=if 0<=(f:Int)/\i=(f:Int).toNat then(if b<(u i).Hi then b else(u i).Hi)else(u i).Hi
    rw[X5z,kS]
    by_cases e:i=f
    · subst e;simp
    · rw[if_neg e,if_neg fun h=>e h.2]
  · show X1 ap=if 0<=(f:Int)/\t<n then X1 ap++[((f:Int).toNat,t)]else X1 ap
    rw[if_neg fun h=>ht h.2]
theorem X7d (u:Nat->Y2) (ap:List Zb) {n t:Nat} {fr:Int} (c:¬0<=fr) (ht:t<n) (a b:Int):X3B (X4c u t (a+1)) ap=Wq n (X3B u ap) (fr,t) a b:=by
  refine X3g (fun i=>?_) (fun i=>?_) ?_
  · show(X4c u t (a+1) i).Lo=if t<n/\i=t then(if a+1>(u i).Lo then a+1 else(u i).Lo)else(u i).Lo
    rw[X5B]
    by_cases e:i=t
    · subst e;simp[ht]
    · rw[if_neg e,if_neg fun h=>e h.2]
  · show(X4c u t (a+1) i).Hi=if 0<=fr/\i=fr.toNat then(if b<(u i).Hi then b else(u i).Hi)else(u i).Hi
    rw[X5A,if_neg fun h=>c h.1]
  · show X1 ap=if 0<=fr/\t<n then X1 ap++[(fr.toNat,t)]else X1 ap
    rw[if_neg fun h=>c h.1]
theorem X7e (u:Nat->Y2) (ap:List Zb) {n t:Nat} {fr:Int} (c:¬0<=fr) (ht:¬t<n) (a b:Int):X3B u ap=Wq n (X3B u ap) (fr,t) a b:=by
  refine X3g (fun i=>?_) (fun i=>?_) ?_
  · show(u i).Lo=if t<n/\i=t then(if a+1>(u i).Lo then a+1 else(u i).Lo)else(u i).Lo
    rw[if_neg fun h=>ht h.1]
  · show(u i).Hi=if 0<=fr/\i=fr.toNat then(if b<(u i).Hi then b else(u i).Hi)else(u i).Hi
    rw[if_neg fun h=>c h.1]
  · show X1 ap=if 0<=fr/\t<n then X1 ap++[(fr.toNat,t)]else X1 ap
    rw[if_neg fun h=>c h.1]
def X5Z (n:Nat) (dev st:Int) (E:List Zq) (i:Nat) (now fr:Int):List Z6:=if i<=n then X4T dev st (E.drop i) i now fr else []
theorem X5O (n:Nat) (dev st:Int) (E:List Zq) (now fr:Int):X5Z n dev st E (n+1) now fr=[]:=if_neg (by omega)
theorem X72 {n:Nat} {E:List Zq} (hE:E.length=n) (dev st:Int) {i:Nat} (hi:i<n+1) (now fr:Int) {X:Zq} (hX:(E++[Zq.mk dev (-1) (Y2.mk 0 0)]).getD i (Zq.mk 0 0 (Y2.mk 0 0))=X) :
    X5Z n dev st E i now fr=if X.Device=dev then(if now=st then [⟨fr,i⟩]else [])++X5Z n dev st E (i+1) X.State i else X5Z n dev st E (i+1) now fr:=by
  by_cases h:i<n
  · have b:X=E[i]:=by
      rw[<-hX,Xw _ _ _ (by rw[List.length_append,List.length_singleton];omega),List.getElem_append_left (by omega)]
    have d:i<=n:=by omega
    have c:i+1<=n:=by omega
    simp only[X5Z,d,c,if_true];rw[jb (by omega),X5h,<-b]
  · have a:i=n:=by omega
    subst a;have b:X=Zq.mk dev (-1) (Y2.mk 0 0):=by
      rw[<-hX,Xw _ _ _ (by rw[List.length_append,List.length_singleton];omega),List.getElem_append_right (by omega)]
      simp
    rw[X5O,X5O,b,if_pos rfl];unfold X5Z;rw[if_pos (Nat.le_refl _),jd (by omega),X5P,jo]
def X5L (q:Zc) (L:List Con):(Bool×Zc×Bool×Zc×Zc)⊕(Bool×Zc×Bool×Zc×Zc) :=
  if L.isEmpty then .inl (true,q,false,q,q)else .inr (false,q,true,q,q)
theorem X6x (n:Nat) (c:Con):W3 n [] c=if okN n c then [X2T n c]else []:=rfl
theorem X6d (n:Nat) (w:Wit) (ws:List Wit) (c:Con):W3 n (w::ws) c=if okN n c then w.strs.flatMap fun s=>W3 n ws (Wq n c s w.a w.b)else []:=rfl
theorem X3P (q:Zc) (n:Nat) (o:q.CoRecord.Entries.length=n) (h10:n<=10) (h8:q.seen.length<=8) (hs:∀x∈q.seen,X3l q.CoRecord x)
    (ih0:((Nat->Y2)×Int×(List Zb)×Zc×Bool×Zc×Zc)->Option ((Bool×Zc×Bool×Zc×Zc)⊕(Bool×Zc×Bool×Zc×Zc))) (l:List Zr) (k:Nat) (hk:k+l.length=q.seen.length) (hd:q.seen.drop k=l)
    (ih:∀x l',l=x::l'->k+1+l'.length=q.seen.length->q.seen.drop (k+1)=l'->∀(u:Nat->Y2) (ap:List Zb),UBd u->ApK n (k+1) ap->∀c,X3B u ap=c->ih0 (u,((k+1:Nat):Int),ap,q,false,q,q)=some (X5L q (W3 n (l'.map (X2Z q.CoRecord)) c)))
    (u:Nat->Y2) (ap:List Zb) (r:UBd u) (a:ApK n k ap) (c:Con) (hc:X3B u ap=c) :
    X8 ih0 u (k:Int) ap q false q q=some (X5L q (W3 n (l.map (X2Z q.CoRecord)) c)):=by
  cases l with
  | nil =>
    have h:=X5N q u ap r (o▸a) (by omega) (by omega)
    rw[o,hc]at h;unfold X8;simp only[h,jS,List.map_nil,X6x];have c1:((k:Int)==(q.seen.length:Int))=true:=by simp only[List.length_nil,Nat.add_zero]at hk;simp[hk]
    cases okN n c with
    | false=>rfl
    | true=>simp only[Bool.not_true,jA,c1,jB];rfl
  | cons x l =>
    simp only[List.length_cons]at hk;have h:=X5N q u ap r (o▸a) (by omega) (by omega)
    rw[o,hc]at h;have p:k<q.seen.length:=by omega
    have d:q.seen.drop k=q.seen[k]::q.seen.drop (k+1):=jb p;rw[hd]at d;injection d with hx hl
    have g:X3l q.CoRecord x:=hs x (hx▸jl p);have a0:q.seen.getD k (Zr.mk 0 0 (Y2.mk 0 0))=x:=by rw[Xw _ _ _ p,<-hx]
    have j:=ih x l rfl (by omega) hl.symm
    unfold X8;simp only[h,jS,jr];show _=some (X5L q (W3 n (X2Z q.CoRecord x::l.map (X2Z q.CoRecord)) c));rw[X6d];cases hok:okN n c with
    | false=>rfl
    | true =>
      have c1:((k:Int)==(q.seen.length:Int))=false:=X3Z (by omega)
      have c2:decide ((k:Int)<(q.seen.length:Int))=true:=by simp;omega
      have c3:decide (0<=x.Device)=true:=by simp[g.dev.1]
      have c4:decide (x.Device<(q.CoRecord.Devices.length:Int))=true:=by simp[g.dev.2]
      have c5:Nat.ble (n*(32+1)) 100000000000000=true:=by rw[Nat.ble_eq];omega
      have c6:Nat.ble ((n+1)*(32+1)) 200000000000000=true:=by rw[Nat.ble_eq];omega
      have c7:Nat.blt 0 4=true:=rfl;have t:(q.CoRecord.Entries++[Zq.mk x.Device (-1) (Y2.mk 0 0)]).length=n+1:=by rw[List.length_append,List.length_singleton,o]
      simp only[Bool.not_true,jA,c1,c2,c3,c4,o,c5,List.length_singleton,c6,c7,z0S,ju,jB,kS,a0,if_true,t];unfold XC;refine Eq.trans (X1n _ _ (n+1) (fun i (b:Int×Zb)=>((i:Int),b.1,b.2,q,false,q,q)) (fun i b => -1<=b.2.from_/\b.2.from_<i)
        (fun i b=>some (X5L q ((X5Z n x.Device x.State q.CoRecord.Entries i b.1 b.2.from_).flatMap fun s=>W3 n (l.map (X2Z q.CoRecord)) (Wq n c (X2Y s) x.At.Lo x.At.Hi)))) ?_ ?_ 0
        ((q.CoRecord.Devices.getD x.Device.toNat ⟨ByteArray.empty,0,0⟩).First,⟨-1,0⟩) (by omega) ⟨by simp,by simp⟩) ?_
      · intro b hP R
        have e1:decide (((n+1:Nat):Int)<((n+1:Nat):Int))=false:=by simp
        simp only[X5,X0,e1,jA,X5O];rfl
      · intro i b hi hP R hR
        obtain⟨now,s⟩:=b;obtain⟨v,hP2⟩:=hP;simp only at v hP2;generalize hX:(q.CoRecord.Entries++[Zq.mk x.Device (-1) (Y2.mk 0 0)]).getD i (Zq.mk 0 0 (Y2.mk 0 0))=X;simp only;rw[X72 o x.Device x.State hi now s.from_ hX];have e1:decide ((i:Int)<((n+1:Nat):Int))=true:=by simp;omega
        have e3:Nat.blt i (n+1)=true:=by rw[Nat.blt_eq];exact hi
        have w1:=wS i (by omega)
        have w2:=wS k (by omega)
        have w3:IntKind.wrap .i64 (x.At.Lo+1)=x.At.Lo+1:=by have:=g.lo;rw[w64]<;>omega
        have hl2:=a.1;have b1:Nat.ble (ap.length*(16+1)) 100000000000000=true:=by rw[Nat.ble_eq];omega
        have b2:Nat.ble ((ap.length+1)*(16+1)) 200000000000000=true:=by rw[Nat.ble_eq];omega
        have b3:Nat.blt 0 2=true:=rfl;have hxl:=g.lo;have w:=g.hi;simp only[X5,X0,t,e1,e3,z0S,ju,jB,kS,w1,w2,w3,hX,o,b1,b2,b3,List.length_singleton]
        by_cases hdv:X.Device=x.Device
        · have d1:(X.Device != x.Device)=false:=by simp[hdv]
          simp only[d1,jA];rw[if_pos hdv]
          by_cases hnow:now=x.State
          · have d2:(now==x.State)=true:=by simp[hnow]
            simp only[d2,jB];rw[if_pos hnow,List.singleton_append,List.flatMap_cons];generalize hrest:((X5Z n x.Device x.State q.CoRecord.Entries (i+1) X.State (i:Int)).flatMap fun s=>W3 n (l.map (X2Z q.CoRecord)) (Wq n c (X2Y s) x.At.Lo x.At.Hi))=rest;have m:R (((i+1:Nat):Int),X.State,Zb.mk (i:Int) (i:Int),q,false,q,q)=some (X5L q rest):=by
              rw[<-hrest];exact hR (X.State,⟨(i:Int),(i:Int)⟩) ⟨by simp only;omega,by simp only;omega⟩
            show _=some (X5L q (W3 n (l.map (X2Z q.CoRecord)) (Wq n c (s.from_,(i:Int).toNat) x.At.Lo x.At.Hi)++rest));rw[kS]
            by_cases hf:0<=s.from_
            · obtain⟨f,z⟩:=Int.eq_ofNat_of_zero_le hf
              have f1:decide ((f:Int)>=0)=true:=by simp
              have f2:decide ((f:Int)<(10:Int))=true:=by simp;omega
              have f3:Nat.blt f 10=true:=by rw[Nat.blt_eq];omega
              by_cases hin:i<n
              · have g1:decide ((i:Int)<(n:Int))=true:=by simp;omega
                have g2:decide ((i:Int)<(10:Int))=true:=by simp;omega
                have g3:Nat.blt i 10=true:=by rw[Nat.blt_eq];omega
                simp only[z,f1,f2,f3,g1,g2,g3,z0S,kS,ju,jB];rw[j _ _ ?b1h1 ?b1h2 (Wq n c ((f:Int),i) x.At.Lo x.At.Hi) ?b1h3]
                case b1h1=>exact(r.hi f w).lo i (by omega)
                case b1h2=>exact a.add (by omega) hin
                case b1h3=>rw[<-hc];exact X6W u ap hin x.At.Lo x.At.Hi
                generalize W3 n (l.map (X2Z q.CoRecord)) (Wq n c ((f:Int),i) x.At.Lo x.At.Hi)=L1;cases L1 with
                | nil=>exact m
                | cons y ys=>rfl
              · have g1:decide ((i:Int)<(n:Int))=false:=by simp;omega
                simp only[z,f1,f2,f3,g1,z0S,kS,ju,jB,jA];rw[j _ _ ?b2h1 ?b2h2 (Wq n c ((f:Int),i) x.At.Lo x.At.Hi) ?b2h3]
                case b2h1=>exact r.hi f w
                case b2h2=>exact a.keep
                case b2h3=>rw[<-hc];exact X7c u ap hin x.At.Lo x.At.Hi
                generalize W3 n (l.map (X2Z q.CoRecord)) (Wq n c ((f:Int),i) x.At.Lo x.At.Hi)=L1;cases L1 with
                | nil=>exact m
                | cons y ys=>rfl
            · have f1:decide (s.from_>=0)=false:=by simp;omega
              by_cases hin:i<n
              · have g1:decide ((i:Int)<(n:Int))=true:=by simp;omega
                have g2:decide ((i:Int)<(10:Int))=true:=by simp;omega
                have g3:Nat.blt i 10=true:=by rw[Nat.blt_eq];omega
                simp only[f1,g1,g2,g3,z0S,kS,ju,jB,jA];rw[j _ _ ?b3h1 ?b3h2 (Wq n c (s.from_,i) x.At.Lo x.At.Hi) ?b3h3]
                case b3h1=>exact r.lo i (by omega)
                case b3h2=>exact a.keep
                case b3h3=>rw[<-hc];exact X7d u ap hf hin x.At.Lo x.At.Hi
                generalize W3 n (l.map (X2Z q.CoRecord)) (Wq n c (s.from_,i) x.At.Lo x.At.Hi)=L1;cases L1 with
                | nil=>exact m
                | cons y ys=>rfl
              · have g1:decide ((i:Int)<(n:Int))=false:=by simp;omega
                simp only[f1,g1,z0S,kS,ju,jB,jA];rw[j _ _ ?b4h1 ?b4h2 (Wq n c (s.from_,i) x.At.Lo x.At.Hi) ?b4h3]
                case b4h1=>exact r
                case b4h2=>exact a.keep
                case b4h3=>rw[<-hc];exact X7e u ap hf hin x.At.Lo x.At.Hi
                generalize W3 n (l.map (X2Z q.CoRecord)) (Wq n c (s.from_,i) x.At.Lo x.At.Hi)=L1;cases L1 with
                | nil=>exact m
                | cons y ys=>rfl
          · have d2:(now==x.State)=false:=X3Z hnow
            simp only[d2,jA];rw[if_neg hnow,List.nil_append];exact hR (X.State,⟨(i:Int),(i:Int)⟩) ⟨by simp only;omega,by simp only;omega⟩
        · have d1:(X.Device != x.Device)=true:=X3m hdv
          simp only[d1,jB];rw[if_neg hdv];exact hR (now,s) ⟨v,by simp only;omega⟩
      · simp only[if_true]
        show some (X5L q ((X5Z n x.Device x.State q.CoRecord.Entries 0 (q.CoRecord.Devices.getD x.Device.toNat ⟨ByteArray.empty,0,0⟩).First (-1)).flatMap fun s=>W3 n (l.map (X2Z q.CoRecord)) (Wq n c (X2Y s) x.At.Lo x.At.Hi)))=_;have e:X5Z n x.Device x.State q.CoRecord.Entries 0 (q.CoRecord.Devices.getD x.Device.toNat ⟨ByteArray.empty,0,0⟩).First (-1)=X2O q.CoRecord x:=if_pos (Nat.zero_le _);rw[e];show _=some (X5L q (((X2O q.CoRecord x).map X2Y).flatMap fun s=>W3 n (l.map (X2Z q.CoRecord)) (Wq n c s x.At.Lo x.At.Hi)));rw[List.flatMap_map]
theorem X4t (q:Zc) (n:Nat) (e:q.CoRecord.Entries.length=n) (a:n<=10) (b:q.seen.length<=8) (d:∀x∈q.seen,X3l q.CoRecord x) :
    ∀(l:List Zr) (k:Nat),k+l.length=q.seen.length->q.seen.drop k=l->∀(u:Nat->Y2) (ap:List Zb),UBd u->ApK n k ap->∀c,X3B u ap=c →
      Z9C X2 (l.length+1) (u,(k:Int),ap,q,false,q,q)=some (X5L q (W3 n (l.map (X2Z q.CoRecord)) c))
  | [],k,hk,hd,u,ap,hu,hap,c,hc=>X3P q n e a b d (Z9C X2 0) [] k hk hd (fun _ _ h=>by cases h) u ap hu hap c hc
  | x::l,k,hk,hd,u,ap,hu,hap,c,hc=>X3P q n e a b d (Z9C X2 (l.length+1)) (x::l) k hk hd (fun x' l' h g f=>by
      injection h with _ h
      subst h;exact X4t q n e a b d l (k+1) g f) u ap hu hap c hc
theorem X61 (q:Zc) (n:Nat) (i:q.CoRecord.Entries.length=n) (a:n<=10) (c:q.seen.length<=8) (e:∀x∈q.seen,X3l q.CoRecord x) (k:Nat) (j:k<=q.seen.length) (u:Nat->Y2) (ap:List Zb) (d:UBd u) (b:ApK n k ap) :
    XN (u,(k:Int),ap,q,false,q,q)=some (X5L q (W3 n ((q.seen.drop k).map (X2Z q.CoRecord)) (X3B u ap))) :=
  X5H (fun f g h x r hr=>X5R f g h x r hr) (X4t q n i a c e (q.seen.drop k) k (by rw[List.length_drop];omega) rfl u ap d b _ rfl)
theorem X60 (q:Zc) (n:Nat) (g:q.CoRecord.Entries.length=n) (a:n<=10) (f:q.seen.length<=8) (b:∀x∈q.seen,X3l q.CoRecord x) (u:Nat->Y2) (d:UBd u) :
    XM (u,0,q,false,q,q)=some (X5L q (W3 n (q.seen.map (X2Z q.CoRecord)) (X3B u []))):=by
  rw[X1A];exact X3P q n g a f b XN q.seen 0 (by omega) rfl (fun x l' h j i u ap d e c hc=>by
    rw[X61 q n g a f b 1 (by omega) u ap d e,hc,i]) u [] d ⟨Nat.le_refl _,fun s b=>by cases b⟩ _ rfl
def X3e (r:CoRecord):Nat->Y2:=fun j=>(r.Entries.getD j (Zq.mk 0 0 (Y2.mk 0 0))).At
theorem X77 {r:CoRecord} (h:X5x r):UBd (X3e r):=fun i=>by
  unfold X3e
  by_cases hi:i<r.Entries.length
  · rw[Xw _ _ _ hi]
    exact h.2 _ (jl hi)
  · have:r.Entries.getD i (Zq.mk 0 0 (Y2.mk 0 0))=Zq.mk 0 0 (Y2.mk 0 0):=by simp[List.getD,List.getElem?_eq_none (by omega:r.Entries.length<=i)]
    rw[this];simp
theorem X76 (r:CoRecord) (g:r.Entries.length<=10) (x3 x4:Zc) (x6:Bool) (x7:Zc) :
    XO r.Entries (r.Entries.length:Int) x3 x4 x6 x7 (0,fun _=>Y2.mk 0 0)=some (X3e r):=by
  obtain⟨w,f,d⟩:=WW (X9 r.Entries (r.Entries.length:Int) x3 x4 x6 x7) r.Entries.length (fun i (b:Nat->Y2)=>((i:Int),b))
    (fun i b=>∀j,b j=if j<i then X3e r j else Y2.mk 0 0) (fun w=>w=X3e r)
    (fun b c=>⟨b,by simp[X9,Xi],funext fun j=>by
      rw[c j];split
      · rfl
      · rename_i h
        unfold X3e;rw[show r.Entries.getD j (Zq.mk 0 0 (Y2.mk 0 0))=Zq.mk 0 0 (Y2.mk 0 0) by simp[List.getD,List.getElem?_eq_none (by omega:r.Entries.length<=j)]]⟩)
    (fun i b hi c=>by
      right;have e1:decide ((i:Int)<(r.Entries.length:Int))=true:=by simp;omega
      have e2:decide ((i:Int)<(10:Int))=true:=by simp;omega
      have e3:Nat.blt i 10=true:=by rw[Nat.blt_eq];omega
      have w1:=wS i (by omega)
      simp only[X9,Xi,e1,e2,e3,z0S,kS,ju,jB,w1];refine⟨_,rfl,fun j=>?_⟩;cases e:Nat.beq j i with
      | true =>
        have:=je e;subst this;rw[if_pos (by omega)];rfl
      | false =>
        have:=Nat.ne_of_beq_eq_false e;simp only[jA];rw[c j]
        by_cases h:j<i
        · rw[if_pos h,if_pos (by omega)]
        · rw[if_neg h,if_neg (by omega)]) 0 (fun _=>Y2.mk 0 0) (Nat.zero_le _) (fun j=>by simp)
  have a:XO r.Entries (r.Entries.length:Int) x3 x4 x6 x7 (0,fun _=>Y2.mk 0 0)=some w:=f;rw[a,d]
theorem X5r (q:Zc) (h:X5x q.CoRecord) (a:q.seen.length<=8) (b:∀x∈q.seen,X3l q.CoRecord x) :
    XX q=some (!(W3 q.CoRecord.Entries.length (q.seen.map (X2Z q.CoRecord)) (X3B (X3e q.CoRecord) [])).isEmpty):=by
  rw[X2R];unfold W6;rw[X21];unfold XB;simp only[X76 q.CoRecord h.1,jS];rw[X60 q _ rfl h.1 a b _ (X77 h)];simp only[jS];generalize W3 q.CoRecord.Entries.length (q.seen.map (X2Z q.CoRecord)) (X3B (X3e q.CoRecord) [])=L;cases L with
  | nil=>rfl
  | cons y ys=>rfl
theorem X73 {α β:Type} {R:α->β->Prop}:∀{L:List α} {M:List β},X68 R L M->L.isEmpty=M.isEmpty
  | [],[],_=>rfl
  | _::_,_::_,_=>rfl
  | [],_::_,h=>h.elim
  | _::_,[],h=>h.elim
structure X5y (r:CoRecord) (l:List Zr):Prop where
  ent:X5x r
  many:l.length<=8
  seen:∀x∈l,X3l r x
theorem X7k (r:CoRecord) (l:List Zr):∀w∈l.map (X2Z r),X7i r.Entries.length w:=fun w a=>by
  obtain⟨x,_,rfl⟩:=List.mem_map.1 a;intro s b;obtain⟨t,ht,rfl⟩:=List.mem_map.1 b;exact((X6F x rfl).2 t ht).2
theorem X6v (r:CoRecord):EqC r.Entries.length (X3B (X3e r) []) (Xz (X2I r)):=by
  have e:∀i,i<r.Entries.length->(X3B (X3e r) []).lo i=(Xz (X2I r)).lo i/\(X3B (X3e r) []).hi i=(Xz (X2I r)).hi i:=fun i hi=>by
    show((r.Entries.getD i (Zq.mk 0 0 (Y2.mk 0 0))).At).Lo=(r.Entries.map (·.At.Lo)).getD i 0/\((r.Entries.getD i (Zq.mk 0 0 (Y2.mk 0 0))).At).Hi=(r.Entries.map (·.At.Hi)).getD i 0;rw[Xw _ _ _ hi,Xw _ _ _ (by simpa using hi),Xw _ _ _ (by simpa using hi)]
    simp
  constructor
  · intro x
    unfold UpN;constructor
    · rintro⟨b,a,c⟩;exact⟨fun i hi=>(e i hi).1▸b i hi,a,c⟩
    · rintro⟨b,a,c⟩;exact⟨fun i hi=>(e i hi).1.symm▸b i hi,a,c⟩
  · intro x
    unfold DnN;constructor
    · rintro⟨b,a,c⟩;exact⟨fun i hi=>(e i hi).2▸b i hi,a,c⟩
    · rintro⟨b,a,c⟩;exact⟨fun i hi=>(e i hi).2.symm▸b i hi,a,c⟩
def X6V (r:CoRecord) (l:List Zr):List Con:=W3 r.Entries.length (l.map (X2Z r)) (X3B (X3e r) [])
theorem X74 (r:CoRecord) (l:List Zr):X68 (X7h r.Entries.length) (X6V r l) (X1u r.Entries.length (l.map (X2Z r)) (Xz (X2I r))) :=
  X5k _ _ _ (X7k r l) (fun p a=>by cases a) (fun p a=>by cases a) (X6v r)
theorem X4i {r:CoRecord} {l:List Zr} (h:X5y r l):XX ⟨r,l⟩=some (!(X6V r l).isEmpty):=X5r ⟨r,l⟩ h.ent h.many h.seen
theorem X4q {r:CoRecord} {l:List Zr} (h:X5y r l):X1q r l=some (!(X6V r l).isEmpty):=by
  rw[X5J h.ent h.seen h.many,X73 (X74 r l)]
def X14 (lo hi:Int) (l:List Int):Bool:=l.any fun n=>decide (n<lo)||decide (n>hi)
theorem X50 (lo hi:Int):X14 lo hi []=false:=rfl
theorem X4y (lo hi n:Int) (l:List Int):X14 lo hi (n::l)=(decide (n<lo)||decide (n>hi)||X14 lo hi l):=rfl
def inN (n lo hi:Int):Bool:=decide (lo<=n)&&decide (n<=hi)
theorem X4m (n lo hi:Int):X3v n lo hi=some (inN n lo hi):=by
  unfold X3v inN
  by_cases h:lo<=n<;>simp[h]
def X4k:Int->List UInt8->Option Int
  | last,[]=>some last
  | last,c::l=>if 97<=(c.toNat:Int)/\(c.toNat:Int)<=122 then X4k c.toNat l else if(c.toNat:Int)≠45\/last=45 then none else X4k c.toNat l
def X3G:Option Int->Bool
  | none=>false
  | some last=>last != 45
def X4J (s:ByteArray):Bool:=decide (s.size<=14)&&X3G (X4k 45 s.toList)
theorem X6Y (s:ByteArray) (i:Nat) (h:(s.get! i).toNat<128):Utf8.decode s i=((s.get! i).toNat,1):=by
  unfold Utf8.decode;simp only[Nat.add_zero];rw[if_pos h]
theorem X6X (s:ByteArray) (i:Nat) (h:¬(s.get! i).toNat<128):128<=(Utf8.decode s i).1:=by
  unfold Utf8.decode;simp only[Nat.add_zero,Utf8.runeError];rw[if_neg h]
  repeat' split
  all_goals simp_all
  all_goals omega
theorem X1L (s:ByteArray):s.toList.length=s.size:=by rw[ByteArray.toList_eq];rfl
theorem X6G (s:ByteArray) (i:Nat) (h:i<s.toList.length):s.get! i=s.toList[i]:=by
  have a:i<s.size:=by rw[<-X1L];exact h
  simp only[ByteArray.toList_eq];show(s.data[i]!)=_;have b:i<s.data.size:=a;rw[getElem!_pos s.data i b];rfl
theorem X5S (s:ByteArray):X3U s=some (X4J s):=by
  have key:=X1n (X13 s s) (fun o0=>Sum.elim (fun y1:Bool×Nat=>some y1.fst) (fun y2:Int×Nat=>bif decide ((↑(ByteArray.size s):Int)<=14)then some (y2.fst != 45)else some false) o0) s.toList.length (fun i (b:Int)=>(b,i)) (fun _ _=>True) (fun i b=>some (decide (s.size<=14)&&X3G (X4k b (s.toList.drop i))))
    (by
      intro b _ R;have hh:(decide ((↑s.size:Int)<=14))=decide (s.size<=14):=by rw[decide_eq_decide];omega
      have j:s.toList.drop s.size=[]:=jd (by rw[X1L];exact Nat.le_refl _)
      simp only[j,X4k,X3G,X13,X18,X1L,hh,Nat.lt_irrefl,decide_false,jA,jS,jy];cases decide (s.size<=14)<;>simp)
    (by
      intro i b hi _ R k;have f:i<s.size:=by rw[<-X1L];exact hi
      have g:=X6G s i hi;simp only[X13,X18];rw[jb hi];simp only[X4k]
      by_cases h:(s.get! i).toNat<128
      · rw[X6Y s i h]
        have e:=k ((s.get! i).toNat:Int) trivial;rw[g]at *;generalize s.toList[i]=c at *;simp only[f,decide_true,jB]
        by_cases h1:97<=(c.toNat:Int)
        · have q1:decide ((c.toNat:Int)>=97)=true:=decide_eq_true h1
          by_cases h2:(c.toNat:Int)<=122
          · have q2:decide ((c.toNat:Int)<=122)=true:=decide_eq_true h2
            simp only[decide_true,decide_false,q1,q2,jB,jS,jw,h1,h2,and_self,if_true];exact e
          · have q2:decide ((c.toNat:Int)<=122)=false:=decide_eq_false h2
            have a:¬((c.toNat:Int)=45):=by omega
            have q3:((c.toNat:Int) != 45)=true:=bne_iff_ne.2 a;simp only[decide_true,decide_false,q1,q2,q3,jB,jA,jS,jw,jy,h2,and_false,if_false,ne_eq,a,not_false_iff,true_or,if_true,X3G,Bool.and_false]
        · have q1:decide ((c.toNat:Int)>=97)=false:=decide_eq_false h1
          by_cases a:(c.toNat:Int)=45
          · have q3:((c.toNat:Int) != 45)=false:=by rw[a];rfl
            by_cases h4:b=45
            · have q4:(b==45)=true:=by rw[h4];rfl
              rw[q1,q3,q4,if_neg (fun hc=>h1 hc.1),if_pos (Or.inr h4)];simp[X3G]
            · have q4:(b==45)=false:=beq_eq_false_iff_ne.2 h4
              simp only[decide_true,decide_false,q1,q3,q4,jB,jA,jS,jw,jy,h1,false_and,if_false,h4,ne_eq,a,not_true,or_self,if_true];rw[a]at e;exact e
          · have q3:((c.toNat:Int) != 45)=true:=bne_iff_ne.2 a
            simp only[decide_true,decide_false,q1,q3,jB,jA,jS,jw,jy,h1,false_and,if_false,ne_eq,a,not_false_iff,true_or,if_true,X3G,Bool.and_false]
      · have h':=X6X s i h
        rw[g]at h;generalize s.toList[i]=c at *;simp only[f,decide_true,jB];generalize (Utf8.decode s i)=d at *;have e1:((d.1:Nat):Int)>=97:=by omega
        have e2:¬((d.1:Nat):Int)<=122:=by omega
        have e3:¬((d.1:Nat):Int)=45:=by omega
        have e4:¬((c.toNat:Int)<=122):=by omega
        have e5:¬((c.toNat:Int)=45):=by omega
        have q1:decide (((d.1:Nat):Int)>=97)=true:=decide_eq_true e1;have q2:decide (((d.1:Nat):Int)<=122)=false:=decide_eq_false e2;have q3:(((d.1:Nat):Int) != 45)=true:=bne_iff_ne.2 e3;simp only[decide_true,decide_false,q1,q2,q3,jB,jA,jS,jw,jy,e4,and_false,if_false,ne_eq,e5,not_false_iff,true_or,if_true,X3G,Bool.and_false])
  exact(key 0 45 (by omega) trivial).trans (by simp[X4J])
theorem X5W (s:ByteArray):X3u s=some (X4J s):=by
  unfold X3u;rw[X4m];simp only[jS]
  by_cases hsz:1<=s.size/\s.size<=14
  · have e1:inN (↑s.size) 1 14=true:=by simp[inN];omega
    rw[e1];simp only[Bool.not_true,jA];have o:=X1L s;have key:=X1n (X17 s) (fun o0=>Sum.elim (fun y76:Bool=>some y76) (fun _:Unit=>some true) o0) s.toList.length (fun i (_:Int)=>(i:Int)) (fun i b=>b=if i=0 then 45 else((s.toList.getD (i-1) 0).toNat:Int)) (fun i b=>some (if i<s.toList.length then X3G (X4k b (s.toList.drop i))else true))
      (by
        intro b _ R;simp[X17,X1d,X1L])
      (by
        intro i b hi j R n;have m:i<s.size:=by rw[<-X1L];exact hi
        simp only[X17,X1d];rw[jb hi];have a:=n ((s.toList[i]).toNat:Int) (by simp[List.getD,hi])
        have l:=wS i (by omega)
        have f:IntKind.wrap .i64 ((i:Int)-1)=((i:Int)-1):=by rw[w64]<;>omega
        have e:IntKind.wrap .i64 ((s.size:Int)-1)=((s.size:Int)-1):=by rw[w64]<;>omega
        simp only[X4k,kS,Xw _ _ _ hi,l,f,e];have d1:decide ((i:Int)<↑s.size)=true:=by simp[m]
        have d2:=z0S i;simp only[d1,d2,ju,jB,hi,if_true];generalize hc:s.toList[i]=c at *
        by_cases h1:97<=(c.toNat:Int)/\(c.toNat:Int)<=122
        · have q1:decide ((c.toNat:Int)>=97)=true:=decide_eq_true h1.1
          have q2:decide ((c.toNat:Int)<=122)=true:=decide_eq_true h1.2;simp only[decide_true,decide_false,q1,q2,jB,jS,jw,h1,and_self,if_true];have d:¬((c.toNat:Int)=45):=by omega
          rw[a]
          by_cases hi2:i+1<s.toList.length
          · simp[hi2]
          · have:s.toList.drop (i+1)=[]:=jd (by omega)
            simp[hi2,this,X4k,X3G,d]
        · have g:(bif decide ((c.toNat:Int)>=97)then bif decide ((c.toNat:Int)<=122)then true else false else false)=false:=by
            by_cases a1:(c.toNat:Int)>=97
            · by_cases a2:(c.toNat:Int)<=122
              · exact absurd ⟨a1,a2⟩ h1
              · simp[a1,a2]
            · simp[a1]
          have g2:∀(Z:Type) (x y:Z),(bif decide ((c.toNat:Int)>=97)then bif decide ((c.toNat:Int)<=122)then x else y else y)=y:=by
            intro Z x y
            by_cases a1:(c.toNat:Int)>=97
            · by_cases a2:(c.toNat:Int)<=122
              · exact absurd ⟨a1,a2⟩ h1
              · simp[a1,a2]
            · simp[a1]
          rw[g2,if_neg h1]
          by_cases h2:(c.toNat:Int)=45
          · simp only[h2,bne_self_eq_false,jA]
            by_cases h3:i=0
            · subst h3
              simp[j,X3G]
            · by_cases h4:i+1=s.size
              · have:s.toList.drop (i+1)=[]:=jd (by omega)
                have e5:(i:Int)=(s.size:Int)-1:=by omega
                have e6:((s.size:Int)-1==0)=false:=by simp;omega
                simp only[e5,e6,this,X4k]
                by_cases h5:b=45<;>simp[h5,X3G]
              · have e5:((i:Int)==(s.size:Int)-1)=false:=by simp;omega
                have e6:((i:Int)==0)=false:=by simp;omega
                have e7:(0:Int)<=(i:Int)-1:=by omega
                have e8:(i:Int)-1<(s.size:Int):=by omega
                have e9:((i:Int)-1).toNat=i-1:=by omega
                simp only[e5,e6,e7,e8,e9,jA,decide_true,ju,jB];simp only[h3,if_false]at j;rw[<-j]
                by_cases h5:b=45
                · simp[h5,X3G]
                · have q5:(b==45)=false:=beq_eq_false_iff_ne.2 h5
                  rw[h2]at a;rw[q5];simp only[jA,jS,jw,ne_eq,not_true,false_or,h5,if_false];rw[a];simp[show i+1<s.toList.length by omega]
          · have:((c.toNat:Int) != 45)=true:=by simp[h2]
            simp[this,h2,X3G])
    have:=key 0 45 (by omega) (by simp)
    refine this.trans ?_;simp[X4J,show 0<s.toList.length by omega,hsz.2]
  · have e1:inN (↑s.size) 1 14=false:=by
      simp[inN];omega
    rw[e1];simp only[Bool.not_false,jB,X4J]
    by_cases h:s.size<=14
    · have k:s.toList=[]:=by
        apply List.eq_nil_of_length_eq_zero;rw[X1L];omega
      simp[k,X4k,X3G]
    · simp[h]
theorem X3V (n lo hi:Int):inN n lo hi = !X14 lo hi [n]:=by
  simp only[inN,X4y,X50,Bool.or_false,Bool.not_or];congr 1<;>rw[<-decide_not,decide_eq_decide]<;>omega
def X4A (lo hi:Int):Int->List Y2->Int
  | e,[]=>e
  | e,s::l=>if X14 lo hi [s.Lo,s.Hi]then 7 else X4A lo hi (if s.Lo>s.Hi then 2 else e) l
theorem X5t (l:List Y2) (lo hi:Int) (h:l.length<1000000):X2U l lo hi=some (X4A lo hi 0 l):=by
  unfold X2U;exact X1n (Ww lo l hi) _ l.length (fun i (b:Int)=>(b,(i:Int))) (fun _ _=>True) (fun i b=>some (X4A lo hi b (l.drop i)))
      (by
        intro b _ R;simp[Ww,WB,X4A])
      (by
        intro i b c _ R d;simp only[Ww,WB];rw[jb c];have e:=wS i (by omega)
        simp only[kS,Xw _ _ _ c,X4A,e];rw[X4m,X4m,X3V,X3V];have g:decide ((i:Int)<↑l.length)=true:=by simp[c]
        have f:=z0S i;simp only[g,f,ju,jB,jS];have a:X14 lo hi [l[i].Lo,l[i].Hi]=(X14 lo hi [l[i].Lo]||X14 lo hi [l[i].Hi]):=by simp[X14]
        rw[a];cases h3:X14 lo hi [l[i].Lo]
        · cases h4:X14 lo hi [l[i].Hi]
          · by_cases h5:l[i].Lo>l[i].Hi
            · have:=d 2 trivial
              simp only[h5];simp;simpa using this
            · have:=d b trivial
              simp only[h5];simp;simpa using this
          · simp
        · simp) 0 0 (by omega) trivial
theorem Z98 (a b:ByteArray):(a==b)=(a.data==b.data):=by cases a;cases b;rfl
instance:LawfulBEq ByteArray where
  rfl:=by intro a;rw[Z98];simp
  eq_of_beq:=by
    intro a b h;rw[Z98]at h;have:=eq_of_beq h;cases a;cases b;simp only at this;rw[this]
instance:DecidableEq ByteArray:=fun a b=>if h:(a==b)=true then isTrue (eq_of_beq h)else isFalse (fun e=>h (by rw[e];simp))
def X4j (s:ByteArray) (names:List ByteArray):Int:=if X4J s then(if s∈names then 5 else 0)else 6
theorem X5Q {a b:ByteArray} (h:a.toList=b.toList):a=b:=by
  cases a;cases b;simp only[ByteArray.toList_eq]at h;congr 1;exact Array.ext' h
theorem X5I (s:ByteArray) (names:List ByteArray) (j:names.length<1000000):X3b s names=some (X4j s names):=by
  unfold X3b X4j;rw[X5W];simp only[jS];cases X4J s
  · simp
  · simp only[Bool.not_true,jA,if_true]
    unfold X3J;have key:=X1n (Wl s names) (fun o78=>Option.bind (Sum.elim (fun y79:Int=>some y79) (fun _:Unit=>some (-1)) o78) fun r82=>bif decide (r82>=0)then some (5:Int)else some 0) names.length (fun i (_:Unit)=>(i:Int)) (fun _ _=>True) (fun i _=>some (if s∈names.drop i then 5 else 0))
      (by
        intro b _ R;simp[Wl,WP])
      (by
        intro i b hi _ R f;have c:=f () trivial;simp only[Wl,WP];rw[jb hi];have d:=wS i (by omega)
        simp only[kS,Xw _ _ _ hi,d];have g:decide ((i:Int)<↑names.length)=true:=by simp[hi]
        have e:=z0S i;simp only[g,e,ju,jB]
        by_cases h:names[i]=s
        · simp[h]
        · have h':(names[i].toList==s.toList)=false:=by
            simp only[beq_eq_false_iff_ne];intro hh;exact h (X5Q hh)
          have a:¬s=names[i]:=fun hh=>h hh.symm;simp only[h',jA,jS,jw,jv,a,false_or];exact c)
    have:=key 0 () (by omega) trivial
    simp only[List.drop_zero]at this;rw[<-this];show Option.bind (Option.bind _ _) _=Option.bind _ _;unfold X2D;simp only[Int.natCast_zero];cases Za6 (Wl s names) 0<;>rfl
theorem XY (lo up:Int) (l:List Int) (g:l.length<1000000):XJ lo up l=some (X14 lo up l):=by
  rw[X3Q];unfold X1j;have key:=X1n (Wn (↑l.length) l up lo) (fun o3=>Sum.elim (fun y4:Int=>some (decide (y4>=0))) (fun _=>some (decide ((-1:Int)>=0))) o3) l.length (fun i (_:Unit)=>(i:Int)) (fun _ _=>True) (fun i _=>some (X14 lo up (l.drop i)))
    (by
      intro b _ R;simp[Wn,Wt,X50])
    (by
      intro i b hi _ R e;have a:=e () trivial;simp only[Wn,Wt];rw[jb hi];simp only[kS,Xw _ _ _ hi,X4y];have c:=wS i (by omega)
      rw[c];have f:decide ((i:Int)<↑l.length)=true:=by simp[hi]
      have d:=z0S i;simp only[f,d,ju,jB]
      by_cases h3:l[i]<lo
      · simp[h3]
      · by_cases h4:l[i]>up
        · simp[h3,h4]
        · simp[h3,h4];exact a)
  exact(key 0 () (by omega) trivial).trans (by simp)
theorem X2W (n lo hi:Int):X2h n lo hi=some (inN n lo hi):=by
  rw[X5l];unfold X2V inN
  by_cases h:lo<=n<;>simp[h]
def X2b (r:CoRecord) (dev st:Int) (s:Y2):Int :=
  if X14 0 ((r.Devices.length:Int)-1) [dev]then 4 else
  if X14 0 (IntKind.wrap .i64 ((r.Devices.getD dev.toNat (Zm.mk ByteArray.empty 0 0)).States-1)) [st]then 7 else
  if X14 0 9999 [s.Lo,s.Hi]then 7 else if s.Lo>s.Hi then 2 else 0
theorem X15 {lo hi n:Int} (h:X14 lo hi [n]=false):lo<=n/\n<=hi:=by
  simp only[X4y,X50,Bool.or_false,Bool.or_eq_false_iff,decide_eq_false_iff_not]at h;omega
theorem X6I {lo hi n m:Int} (h:X14 lo hi [n,m]=false):lo<=n/\n<=hi/\lo<=m/\m<=hi:=by
  simp only[X4y,X50,Bool.or_false,Bool.or_eq_false_iff,decide_eq_false_iff_not]at h;omega
theorem X4h (r:CoRecord) (x:Zr) (hr:r.Devices.length<=1000000):X3p r x=some (X2b r x.Device x.State x.At):=by
  rw[X4G];unfold X2d;have w1:IntKind.wrap .i64 ((r.Devices.length:Int)-1)=(r.Devices.length:Int)-1:=by rw[w64]<;>omega
  rw[w1,XY _ _ _ (by simp)]
  simp only[jS];unfold X2b;cases h1:X14 0 ((r.Devices.length:Int)-1) [x.Device]with
  | true=>rfl
  | false =>
    have h:=X15 h1;have c1:decide (0<=x.Device)=true:=by simp[h.1]
    have c2:decide (x.Device<(r.Devices.length:Int))=true:=by simp;omega
    simp only[jA,c1,c2,ju,jB];rw[XY _ _ _ (by simp)]
    simp only[jS];cases h2:X14 0 (IntKind.wrap .i64 ((r.Devices.getD x.Device.toNat (Zm.mk ByteArray.empty 0 0)).States-1)) [x.State]with
    | true=>rfl
    | false =>
      simp only[jA];rw[XY _ _ _ (by simp)]
      simp only[jS];cases h3:X14 0 9999 [x.At.Lo,x.At.Hi]with
      | true=>rfl
      | false=>by_cases h4:x.At.Lo>x.At.Hi<;>simp[h4]
theorem X4p (r:CoRecord) (dev st:Int) (s:Y2) (hr:r.Devices.length<=1000000):X3y r dev st s=some (X2b r dev st s):=by
  rw[X4O];unfold X2i;have w1:IntKind.wrap .i64 ((r.Devices.length:Int)-1)=(r.Devices.length:Int)-1:=by rw[w64]<;>omega
  rw[w1,X2W,X3V];simp only[jS];unfold X2b;cases h1:X14 0 ((r.Devices.length:Int)-1) [dev]with
  | true=>rfl
  | false =>
    have h:=X15 h1;have c1:decide (0<=dev)=true:=by simp[h.1]
    have c2:decide (dev<(r.Devices.length:Int))=true:=by simp;omega
    simp only[Bool.not_false,Bool.not_true,jA,c1,c2,ju,jB];rw[X2W,X3V];simp only[jS];cases h2:X14 0 (IntKind.wrap .i64 ((r.Devices.getD dev.toNat (Zm.mk ByteArray.empty 0 0)).States-1)) [st]with
    | true=>rfl
    | false =>
      simp only[Bool.not_false,Bool.not_true,jA];unfold X3K;rw[X5t _ _ _ (by simp)]
      simp only[jS,X4A];cases h3:X14 0 9999 [s.Lo,s.Hi]with
      | true=>rfl
      | false=>by_cases h4:s.Lo>s.Hi<;>simp[h4]
def X1h {α:Type} (f:Nat->α->Int):Nat->List α->Int×Int
  | _,[]=>(0,0)
  | i,x::xs=>if f i x≠0 then((i:Int),f i x)else X1h f (i+1) xs
theorem X2e {α:Type} (f:Nat->α->Int) (i:Nat) (x:α) (xs:List α):X1h f i (x::xs)=if f i x≠0 then((i:Int),f i x)else X1h f (i+1) xs:=rfl
def Xv:Int->Nat->List Zq->Int×Int
  | _,_,[]=>(0,0)
  | least,i,x::xs=>if(if x.At.Lo>least then x.At.Lo else least)>x.At.Hi then((i:Int),9)else Xv (if x.At.Lo>least then x.At.Lo else least) (i+1) xs
theorem X4l (least:Int) (i:Nat) (x:Zq) (xs:List Zq):Xv least i (x::xs)=if(if x.At.Lo>least then x.At.Lo else least)>x.At.Hi then((i:Int),9)else Xv (if x.At.Lo>least then x.At.Lo else least) (i+1) xs:=rfl
def X5U (names:List ByteArray) (d:Zm):Int :=
  if X4j d.Name names≠0 then X4j d.Name names else if X14 2 4 [d.States]||X14 0 (IntKind.wrap .i64 (d.States-1)) [d.First]then 7 else 0
def X38 (r:CoRecord):Int×Int:=X1h (fun i d=>X5U ((r.Devices.take i).map (·.Name)) d) 0 r.Devices
def X2p (r:CoRecord):Int×Int:=X1h (fun _ x=>X2b r x.Device x.State x.At) 0 r.Entries
def X1R (r:CoRecord):Int×Int×Int :=
  if X14 1 4 [(r.Devices.length:Int)]||decide ((r.Entries.length:Int)>10)then(1,0,3)else
  if(X38 r).2≠0 then(2,(X38 r).1,(X38 r).2)else
  if(X2p r).2≠0 then(3,(X2p r).1,(X2p r).2)else
  if(Xv 0 0 r.Entries).2≠0 then(3,(Xv 0 0 r.Entries).1,(Xv 0 0 r.Entries).2)else(0,0,0)
def X2x (r:CoRecord) (l:List Zr):Int×Int :=
  if(X1R r).2.2≠0 then(0,(X1R r).2.2)else if(l.length:Int)>4 then(0,3)else X1h (fun _ x=>X2b r x.Device x.State x.At) 0 l
theorem X5a (r:CoRecord) (d:r.Devices.length<=1000000) (f:r.Entries.length<=1000000):XR (r.Entries,r)=some ((X2p r).1,(X2p r).2,r):=by
  rw[X1H];unfold Xn We;refine Eq.trans (X1n _ _ r.Entries.length (fun i (_:Unit)=>(i:Int)) (fun _ _=>True) (fun i _=>some ((X1h (fun _ x=>X2b r x.Device x.State x.At) i (r.Entries.drop i)).1,(X1h (fun _ x=>X2b r x.Device x.State x.At) i (r.Entries.drop i)).2,r)) ?_ ?_ 0 () (Nat.zero_le _) trivial) rfl
  · intro b _ R
    have e1:decide ((r.Entries.length:Int)<(r.Entries.length:Int))=false:=by simp
    simp only[Xj,Xe,e1,jA,List.drop_length];rfl
  · intro i b hi _ R c
    have a:=c () trivial;have e1:decide ((i:Int)<(r.Entries.length:Int))=true:=by simp[hi]
    have w1:=wS i (by omega)
    rw[jb hi,X2e];simp only[Xj,Xe,e1,z0S,kS,ju,jB,Xw _ _ _ hi,X4h r _ d,jS,w1];generalize X2b r r.Entries[i].Device r.Entries[i].State r.Entries[i].At=e
    by_cases he:e=0
    · have c1:(e != 0)=false:=by simp[he]
      simp only[c1,jA,if_neg (fun h:e≠0=>h he)];exact a
    · have c1:(e != 0)=true:=X3m he
      simp only[c1,jB,if_pos he];rfl
theorem X5b (r:CoRecord) (l:List Zr) (d:r.Devices.length<=1000000) (f:l.length<=1000000):XW (l,r)=some ((X1h (fun _ (x:Zr)=>X2b r x.Device x.State x.At) 0 l).1,(X1h (fun _ (x:Zr)=>X2b r x.Device x.State x.At) 0 l).2,r):=by
  rw[X1Z];unfold XA Wj;refine Eq.trans (X1n _ _ l.length (fun i (_:Unit)=>(i:Int)) (fun _ _=>True) (fun i _=>some ((X1h (fun _ (x:Zr)=>X2b r x.Device x.State x.At) i (l.drop i)).1,(X1h (fun _ (x:Zr)=>X2b r x.Device x.State x.At) i (l.drop i)).2,r)) ?_ ?_ 0 () (Nat.zero_le _) trivial) rfl
  · intro b _ R
    have e1:decide ((l.length:Int)<(l.length:Int))=false:=by simp
    simp only[Xl,Xh,e1,jA,List.drop_length];rfl
  · intro i b hi _ R c
    have a:=c () trivial;have e1:decide ((i:Int)<(l.length:Int))=true:=by simp[hi]
    have w1:=wS i (by omega)
    rw[jb hi,X2e];simp only[Xl,Xh,e1,z0S,kS,ju,jB,Xw _ _ _ hi,X4h r _ d,jS,w1];generalize X2b r l[i].Device l[i].State l[i].At=e
    by_cases he:e=0
    · have c1:(e != 0)=false:=by simp[he]
      simp only[c1,jA,if_neg (fun h:e≠0=>h he)];exact a
    · have c1:(e != 0)=true:=X3m he
      simp only[c1,jB,if_pos he];rfl
theorem X4X (l:List Zq) (g:l.length<=1000000):∃q,XS (l,0)=some ((Xv 0 0 l).1,(Xv 0 0 l).2,q):=by
  rw[X1J];unfold Xo Wf;simp only
  let k:((Int×Int×Int×Zq×Zq)⊕Int)->Option (Int×Int×Int):=fun o41=>Sum.elim (fun y42=>some (y42.snd.fst,y42.fst,y42.snd.snd.fst)) (fun y43=>some (0,0,y43)) o41
  obtain⟨w,e,d⟩:=WW (X3 l (l.length:Int)) l.length (fun i (b:Int)=>((i:Int),b)) (fun i b=>Xv b i (l.drop i)=Xv 0 0 l) (fun w=>∃q,k w=some ((Xv 0 0 l).1,(Xv 0 0 l).2,q))
    (fun b a=>by
      have e1:decide ((l.length:Int)<(l.length:Int))=false:=by simp
      simp only[X3,Xf,e1,jA];refine⟨_,rfl,b,?_⟩;rw[List.drop_length]at a;rw[<-a];rfl)
    (fun i b hi a=>by
      have e1:decide ((i:Int)<(l.length:Int))=true:=by simp[hi]
      have w1:=wS i (by omega)
      rw[jb hi,X4l]at a;have f:(bif decide (l[i].At.Lo>b)then l[i].At.Lo else b)=(if l[i].At.Lo>b then l[i].At.Lo else b):=by by_cases h:l[i].At.Lo>b<;>simp[h]
      simp only[X3,Xf,e1,z0S,kS,ju,jB,Xw _ _ _ hi,w1,f]
      by_cases hc:(if l[i].At.Lo>b then l[i].At.Lo else b)>l[i].At.Hi
      · left
        rw[if_pos hc]at a;simp only[hc,decide_true,jB];refine⟨_,rfl,(if l[i].At.Lo>b then l[i].At.Lo else b),?_⟩;rw[<-a];rfl
      · right
        rw[if_neg hc]at a;simp only[hc,decide_false,jA];exact⟨_,rfl,a⟩) 0 0 (Nat.zero_le _) rfl
  have c:Za6 (X3 l (l.length:Int)) (0,0)=some w:=e;rw[c];exact d
theorem X5D (l:List Zm) (j:l.length<=1000000) (d:Zm) :
    (∃(i:Nat) (y:Zm),Xd (l.length:Int) l d 0=some (.inl ((i:Int),y))/\d.Name∈l.map (·.Name))\/(Xd (l.length:Int) l d 0=some (.inr ())/\¬d.Name∈l.map (·.Name)):=by
  obtain⟨w,f,e⟩:=WW (X4 (l.length:Int) l d) l.length (fun i (_:Unit)=>(i:Int)) (fun i _=>∀x∈l.take i,x.Name≠d.Name)
    (fun w=>(∃(i:Nat) (y:Zm),w=.inl ((i:Int),y)/\d.Name∈l.map (·.Name))\/(w=.inr ()/\¬d.Name∈l.map (·.Name)))
    (fun _ c=>by
      have e1:decide ((l.length:Int)<(l.length:Int))=false:=by simp
      simp only[X4,Xc,e1,jA];refine⟨_,rfl,.inr ⟨rfl,fun h=>?_⟩⟩;obtain⟨x,a,g⟩:=List.mem_map.1 h;rw[List.take_length]at c;exact c x a g)
    (fun i _ hi c=>by
      have e1:decide ((i:Int)<(l.length:Int))=true:=by simp[hi]
      have w1:=wS i (by omega)
      simp only[X4,Xc,e1,z0S,kS,ju,jB,Xw _ _ _ hi,w1]
      by_cases hn:l[i].Name=d.Name
      · left
        have c1:(l[i].Name.toList==d.Name.toList)=true:=by rw[hn];simp
        simp only[c1,jB];exact⟨_,rfl,.inl ⟨i,_,rfl,List.mem_map.2 ⟨l[i],jl hi,hn⟩⟩⟩
      · right
        have c1:(l[i].Name.toList==d.Name.toList)=false:=beq_eq_false_iff_ne.2 fun h=>hn (X5Q h);simp only[c1,jA];refine⟨(),by first|rfl|trivial,fun x a=>?_⟩
        rw[List.take_succ_eq_append_getElem hi]at a;rcases List.mem_append.1 a with q|q
        · exact c x q
        · rw[List.mem_singleton.1 q];exact hn) 0 () (Nat.zero_le _) (fun x a=>by simp at a)
  have b:Xd (l.length:Int) l d 0=some w:=f;rcases e with⟨i,y,rfl,h⟩|⟨rfl,h⟩
  · exact .inl ⟨i,y,b,h⟩
  · exact .inr ⟨b,h⟩
theorem X59 (r:CoRecord) (k:r.Devices.length<=1000000):XK (r.Devices,r)=some ((X38 r).1,(X38 r).2,r):=by
  rw[X1y];unfold Xk W4;refine Eq.trans (X1n _ _ r.Devices.length (fun i (_:Unit)=>(i:Int)) (fun _ _=>True) (fun i _=>some ((X1h (fun i d=>X5U ((r.Devices.take i).map (·.Name)) d) i (r.Devices.drop i)).1,(X1h (fun i d=>X5U ((r.Devices.take i).map (·.Name)) d) i (r.Devices.drop i)).2,r)) ?_ ?_ 0 () (Nat.zero_le _) trivial) rfl
  · intro b _ R
    have e1:decide ((r.Devices.length:Int)<(r.Devices.length:Int))=false:=by simp
    simp only[Xg,Xb,e1,jA,List.drop_length];rfl
  · intro i b hi _ R h
    have g:=h () trivial;have e1:decide ((i:Int)<(r.Devices.length:Int))=true:=by simp[hi]
    have e2:decide ((i:Int)<=(r.Devices.length:Int))=true:=by simp;omega
    have w1:=wS i (by omega)
    rw[jb hi,X2e];simp only[Xg,Xb,e1,e2,z0S,kS,ju,jB,Xw _ _ _ hi,X5S,jS,w1,List.drop_zero];generalize r.Devices[i]=d;have c:X5U ((r.Devices.take i).map (·.Name)) d=if X4J d.Name then(if d.Name∈(r.Devices.take i).map (·.Name)then 5 else if X14 2 4 [d.States]||X14 0 (IntKind.wrap .i64 (d.States-1)) [d.First]then 7 else 0)else 6:=by
      unfold X5U X4j;generalize (r.Devices.take i).map (·.Name)=names;cases q1:X4J d.Name with
      | false=>rfl
      | true =>
        by_cases q2:d.Name∈names
        · simp only[q2,if_true];rfl
        · simp only[q2,if_true,if_false];rfl
    rw[c];cases hn:X4J d.Name with
    | false=>rfl
    | true =>
      simp only[Bool.not_true,jA,if_true];have a:(r.Devices.take i).length<=1000000:=by rw[List.length_take];omega
      rcases X5D (r.Devices.take i) a d with⟨j,y,f,e⟩|⟨f,e⟩
      · have c1:decide ((j:Int)>=0)=true:=by simp
        simp only[f,jS,jw,c1,jB,if_pos e];rfl
      · simp only[f,jS,jy,if_neg e]
        rw[XY _ _ _ (by simp),XY _ _ _ (by simp)]
        simp only[jS];cases q1:X14 2 4 [d.States]with
        | true=>rfl
        | false =>
          cases q2:X14 0 (IntKind.wrap .i64 (d.States-1)) [d.First]with
          | true=>rfl
          | false=>exact g
theorem X5q (r:CoRecord):X3E r=some (X1R r):=by
  rw[X4d];unfold X1X;rw[XY _ _ _ (by simp)]
  simp only[jS];unfold X1R;cases q1:X14 1 4 [(r.Devices.length:Int)]with
  | true=>rfl
  | false =>
    have d:=X15 q1;have b:r.Devices.length<=1000000:=by omega
    by_cases q2:(r.Entries.length:Int)>10
    · simp only[jA,q2,decide_true,jB,Bool.false_or,if_true]
    · have a:r.Entries.length<=1000000:=by omega
      simp only[jA,q2,decide_false,Bool.false_or,X59 r b,jS];simp only[jg,if_false]
      by_cases q3:(X38 r).2=0
      · have c3:((X38 r).2 != 0)=false:=by simp[q3]
        simp only[c3,jA,X5a r b a,jS,if_neg (fun h:(X38 r).2≠0=>h q3)]
        by_cases q4:(X2p r).2=0
        · have c4:((X2p r).2 != 0)=false:=by simp[q4]
          obtain⟨q,c⟩:=X4X r.Entries a;simp only[c4,jA,c,jS,if_neg (fun h:(X2p r).2≠0=>h q4)]
          by_cases q5:(Xv 0 0 r.Entries).2=0
          · have c5:((Xv 0 0 r.Entries).2 != 0)=false:=by simp[q5]
            simp only[c5,jA,if_neg (fun h:(Xv 0 0 r.Entries).2≠0=>h q5)]
          · have c5:((Xv 0 0 r.Entries).2 != 0)=true:=X3m q5
            simp only[c5,jB,if_pos q5]
        · have c4:((X2p r).2 != 0)=true:=X3m q4
          simp only[c4,jB,if_pos q4]
      · have c3:((X38 r).2 != 0)=true:=X3m q3
        simp only[c3,jB,if_pos q3]
theorem X5u (r:CoRecord):X3L r=some (X1R r):=by
  rw[X4n];unfold X23;rw[X2W,X3V];simp only[jS];unfold X1R;cases q1:X14 1 4 [(r.Devices.length:Int)]with
  | true=>rfl
  | false =>
    have n:=X15 q1;have q:r.Devices.length<=4:=by omega
    by_cases q2:(r.Entries.length:Int)>10
    · simp only[Bool.not_false,Bool.not_true,jA,q2,decide_true,jB,Bool.false_or,if_true]
    · have p:r.Entries.length<=10:=by omega
      simp only[Bool.not_false,Bool.not_true,jA,q2,decide_false,Bool.false_or,jg,if_false];unfold X2E;refine Eq.trans (X1n _ _ r.Devices.length (fun i (b:List ByteArray)=>((i:Int),b)) (fun i b=>b=(r.Devices.take i).map (·.Name))
        (fun i _=>if(X1h (fun i d=>X5U ((r.Devices.take i).map (·.Name)) d) i (r.Devices.drop i)).2≠0 then some (2,(X1h (fun i d=>X5U ((r.Devices.take i).map (·.Name)) d) i (r.Devices.drop i)).1,(X1h (fun i d=>X5U ((r.Devices.take i).map (·.Name)) d) i (r.Devices.drop i)).2)else
          some (if(X2p r).2≠0 then(3,(X2p r).1,(X2p r).2)else if(Xv 0 0 r.Entries).2≠0 then(3,(Xv 0 0 r.Entries).1,(Xv 0 0 r.Entries).2)else(0,0,0))) ?_ ?_ 0 [] (Nat.zero_le _) rfl) ?_
      · intro b _ R
        have e1:decide ((r.Devices.length:Int)<(r.Devices.length:Int))=false:=by simp
        simp only[X1k,WR,e1,jA,List.drop_length];show Option.bind (X1U r 0) _=some (if(X2p r).2≠0 then(3,(X2p r).1,(X2p r).2)else if(Xv 0 0 r.Entries).2≠0 then(3,(Xv 0 0 r.Entries).1,(Xv 0 0 r.Entries).2)else(0,0,0));unfold X1U;refine Eq.trans (X1n _ _ r.Entries.length (fun i (_:Unit)=>(i:Int)) (fun _ _=>True)
          (fun i _=>some (if(X1h (fun _ (x:Zq)=>X2b r x.Device x.State x.At) i (r.Entries.drop i)).2≠0 then(3,(X1h (fun _ (x:Zq)=>X2b r x.Device x.State x.At) i (r.Entries.drop i)).1,(X1h (fun _ (x:Zq)=>X2b r x.Device x.State x.At) i (r.Entries.drop i)).2)else if(Xv 0 0 r.Entries).2≠0 then(3,(Xv 0 0 r.Entries).1,(Xv 0 0 r.Entries).2)else(0,0,0))) ?_ ?_ 0 () (Nat.zero_le _) trivial) rfl
        · intro b _ R
          have e1:decide ((r.Entries.length:Int)<(r.Entries.length:Int))=false:=by simp
          simp only[X1l,WS,e1,jA,List.drop_length];show Option.bind (X1V r (0,0)) _=some (if(Xv 0 0 r.Entries).2≠0 then(3,(Xv 0 0 r.Entries).1,(Xv 0 0 r.Entries).2)else(0,0,0));unfold X1V;refine Eq.trans (X1n _ _ r.Entries.length (fun i (b:Int)=>((i:Int),b)) (fun _ _=>True)
            (fun i b=>some (if(Xv b i (r.Entries.drop i)).2≠0 then(3,(Xv b i (r.Entries.drop i)).1,(Xv b i (r.Entries.drop i)).2)else(0,0,0))) ?_ ?_ 0 0 (Nat.zero_le _) trivial) rfl
          · intro b _ R
            simp only[X1m,WT,e1,jA,List.drop_length];rfl
          · intro i b hi _ R c
            have e1:decide ((i:Int)<(r.Entries.length:Int))=true:=by simp[hi]
            have w1:=wS i (by omega)
            have o:(bif decide (r.Entries[i].At.Lo>b)then r.Entries[i].At.Lo else b)=(if r.Entries[i].At.Lo>b then r.Entries[i].At.Lo else b):=by by_cases h:r.Entries[i].At.Lo>b<;>simp[h]
            rw[jb hi,X4l];simp only[X1m,WT,e1,z0S,kS,ju,jB,Xw _ _ _ hi,w1,o]
            by_cases hc:(if r.Entries[i].At.Lo>b then r.Entries[i].At.Lo else b)>r.Entries[i].At.Hi
            · rw[if_pos hc]
              simp only[hc,decide_true,jB];rfl
            · rw[if_neg hc]
              simp only[hc,decide_false,jA];exact c _ trivial
        · intro i b hi _ R c
          have m:=c () trivial;have e1:decide ((i:Int)<(r.Entries.length:Int))=true:=by simp[hi]
          have w1:=wS i (by omega)
          rw[jb hi,X2e];simp only[X1l,WS,e1,z0S,kS,ju,jB,Xw _ _ _ hi,X4p r _ _ _ (by omega:r.Devices.length<=1000000),jS,w1]
          generalize X2b r r.Entries[i].Device r.Entries[i].State r.Entries[i].At=e
          by_cases he:e=0
          · have c1:(e != 0)=false:=by simp[he]
            simp only[c1,jA,if_neg (fun h:e≠0=>h he)];exact m
          · have c1:(e != 0)=true:=X3m he
            simp only[c1,jB,if_pos he];rfl
      · intro i b hi j R c
        have e1:decide ((i:Int)<(r.Devices.length:Int))=true:=by simp[hi]
        have w1:=wS i (by omega)
        have f:b.length=i:=by rw[j,List.length_map,List.length_take];omega
        have b1:Nat.ble ((i+1)*(16+1)) 200000000000000=true:=by rw[Nat.ble_eq];omega
        have g:=X5I r.Devices[i].Name b (by omega)
        have a:=c ((r.Devices.take (i+1)).map (·.Name)) rfl;rw[jb hi,X2e];simp only[X1k,WR,e1,z0S,kS,ju,jB,Xw _ _ _ hi,g,jS,w1,f,List.length_singleton,b1];have k:b++[r.Devices[i].Name]=(r.Devices.take (i+1)).map (·.Name):=by rw[j,List.take_succ_eq_append_getElem hi,List.map_append];rfl
        rw[<-j];have l:X5U b r.Devices[i]=if X4j r.Devices[i].Name b≠0 then X4j r.Devices[i].Name b else if X14 2 4 [r.Devices[i].States]||X14 0 (IntKind.wrap .i64 (r.Devices[i].States-1)) [r.Devices[i].First]then 7 else 0:=rfl;rw[l];generalize X4j r.Devices[i].Name b=e
        by_cases he:e=0
        · have c1:(e==0)=true:=by simp[he]
          have c2:(e != 0)=false:=by simp[he]
          simp only[c1,c2,jB,jA,if_neg (fun h:e≠0=>h he),X2W,X3V,jS,Bool.not_not];cases q5:X14 2 4 [r.Devices[i].States]with
          | true=>rfl
          | false =>
            simp only[jA,Bool.false_or];cases q6:X14 0 (IntKind.wrap .i64 (r.Devices[i].States-1)) [r.Devices[i].First]with
            | true=>rfl
            | false =>
              simp only[jA];rw[k];exact a
        · have c1:(e==0)=false:=X3Z he
          have c2:(e != 0)=true:=X3m he;simp only[c1,c2,jB,jA,if_pos he];rfl
      · simp only[List.drop_zero]
        show(if(X38 r).2≠0 then some (2,(X38 r).1,(X38 r).2)else some (if(X2p r).2≠0 then(3,(X2p r).1,(X2p r).2)else if(Xv 0 0 r.Entries).2≠0 then(3,(Xv 0 0 r.Entries).1,(Xv 0 0 r.Entries).2)else(0,0,0)))=some (if(X38 r).2≠0 then(2,(X38 r).1,(X38 r).2)else if(X2p r).2≠0 then(3,(X2p r).1,(X2p r).2)else if(Xv 0 0 r.Entries).2≠0 then(3,(Xv 0 0 r.Entries).1,(Xv 0 0 r.Entries).2)else(0,0,0))
        by_cases q3:(X38 r).2=0
        · simp only[ne_eq,q3,not_true_eq_false,if_false]
        · simp only[ne_eq,q3,not_false_eq_true,if_true]
structure X6N (r:CoRecord):Prop where
  devs:1<=r.Devices.length/\r.Devices.length<=4
  many:r.Entries.length<=10
  dev:∀d∈r.Devices,(2<=d.States/\d.States<=4)/\0<=d.First/\d.First<d.States
  ent:∀x∈r.Entries,X2b r x.Device x.State x.At=0
  order:Xv 0 0 r.Entries=(0,0)
theorem X4u {α:Type} (f:Nat->α->Int):∀(l:List α) (i:Nat),(X1h f i l).2=0->∀(j:Nat) (h:j<l.length),f (i+j) l[j]=0
  | x::xs,i,h,j,hj=>by
    rw[X2e]at h
    by_cases he:f i x=0
    · rw[if_neg (fun q=>q he)]at h
      cases j with
      | zero=>exact he
      | succ j =>
        have:=X4u f xs (i+1) h j (by simpa using hj)
        rw[show i+(j+1)=i+1+j by omega]
        exact this
    · rw[if_pos he]at h
      exact absurd h he
theorem X65:∀(l:List Zq) (a:Int) (i:Nat),(Xv a i l).2=0->Xv a i l=(0,0)
  | [],_,_,_=>rfl
  | x::xs,a,i,h=>by
    rw[X4l]at h⊢
    by_cases hc:(if x.At.Lo>a then x.At.Lo else a)>x.At.Hi
    · rw[if_pos hc]at h
      exact absurd h (by simp)
    · rw[if_neg hc]at h⊢
      exact X65 xs _ _ h
theorem X5C {r:CoRecord} (h:(X1R r).2.2=0):X6N r:=by
  unfold X1R at h;cases q1:X14 1 4 [(r.Devices.length:Int)]with
  | true=>rw[q1]at h;exact absurd h (by simp)
  | false =>
    have b:=X15 q1
    by_cases q2:(r.Entries.length:Int)>10
    · simp only[q1,q2,decide_true,Bool.or_true,if_true]at h;exact absurd h (by simp)
    · simp only[q1,q2,decide_false,Bool.or_self,jg,if_false]at h
      by_cases q3:(X38 r).2=0
      · rw[if_neg (fun k=>k q3)]at h
        by_cases q4:(X2p r).2=0
        · rw[if_neg (fun k=>k q4)]at h
          by_cases q5:(Xv 0 0 r.Entries).2=0
          · refine⟨by omega,by omega,fun d b=>?_,fun x c=>?_,X65 _ _ _ q5⟩
            · obtain⟨j,a,rfl⟩:=List.getElem_of_mem b
              have:=X4u _ _ 0 q3 j a;simp only[X5U]at this;split at this
              · rename_i k;exact absurd this k
              · split at this
                · exact absurd this (by simp)
                · rename_i k
                  simp only[Bool.or_eq_true,not_or,Bool.not_eq_true]at k;have k1:=X15 k.1;have k2:=X15 k.2;rw[w64 (by omega) (by omega)]at k2
                  omega
            · obtain⟨j,a,rfl⟩:=List.getElem_of_mem c
              exact X4u _ _ 0 q4 j a
          · rw[if_pos q5]at h;exact absurd h q5
        · rw[if_pos q4]at h;exact absurd h q4
      · rw[if_pos q3]at h;exact absurd h q3
theorem X6S {r:CoRecord} {x:Zr} (h:X2b r x.Device x.State x.At=0):X3l r x/\0<=x.At.Lo/\x.At.Lo<=x.At.Hi/\x.At.Hi<=9999:=by
  unfold X2b at h;cases q1:X14 0 ((r.Devices.length:Int)-1) [x.Device]with
  | true=>rw[q1]at h;exact absurd h (by simp)
  | false =>
    rw[q1]at h;have k1:=X15 q1;cases q2:X14 0 (IntKind.wrap .i64 ((r.Devices.getD x.Device.toNat (Zm.mk ByteArray.empty 0 0)).States-1)) [x.State]with
    | true=>rw[q2]at h;exact absurd h (by simp)
    | false =>
      rw[q2]at h;cases q3:X14 0 9999 [x.At.Lo,x.At.Hi]with
      | true=>rw[q3]at h;exact absurd h (by simp)
      | false =>
        rw[q3]at h;have k3:=X6I q3
        by_cases q4:x.At.Lo>x.At.Hi
        · simp only[jg,if_false,q4,if_true]at h;exact absurd h (by simp)
        · exact⟨⟨by omega,by omega,by omega⟩,by omega,by omega,by omega⟩
theorem X7j {r:CoRecord} (h:X6N r):X5x r:=⟨h.many,fun x a=>by
  have:=(X6S (x:=⟨x.Device,x.State,x.At⟩) (h.ent x a)).2;simp only at this;omega⟩
theorem X5w {r:CoRecord} {l:List Zr} (h:(X2x r l).2=0):X6N r/\l.length<=4/\∀x∈l,X2b r x.Device x.State x.At=0:=by
  unfold X2x at h
  by_cases q1:(X1R r).2.2=0
  · rw[if_neg (fun k=>k q1)]at h
    by_cases q2:(l.length:Int)>4
    · rw[if_pos q2]at h;exact absurd h (by simp)
    · rw[if_neg q2]at h
      refine⟨X5C q1,by omega,fun x b=>?_⟩
      obtain⟨j,a,rfl⟩:=List.getElem_of_mem b;exact X4u _ _ 0 h j a
  · rw[if_pos q1]at h;exact absurd h q1
theorem X6c {r:CoRecord} {l:List Zr} (h:(X2x r l).2=0):X5y r l:=by
  obtain⟨a,d,b⟩:=X5w h;exact⟨X7j a,by omega,fun x c=>(X6S (b x c)).1⟩
theorem X4D (r:CoRecord) (l:List Zr):X2C r l=some (X2x r l):=by
  rw[X3w];unfold WQ;rw[X5u r];simp only[jS];unfold X2x
  by_cases q1:(X1R r).2.2=0
  · have c1:((X1R r).2.2==0)=true:=by simp[q1]
    have c2:((X1R r).2.2 != 0)=false:=by simp[q1]
    have hr:=X5C q1;simp only[c1,c2,jB,jA,if_neg (fun h:(X1R r).2.2≠0=>h q1)]
    by_cases q2:(l.length:Int)>4
    · simp only[q2,decide_true,jB,if_true]
    · have f:l.length<=4:=by omega
      simp only[q2,decide_false,jA,if_false];unfold X11;refine Eq.trans (X1n _ _ l.length (fun i (_:Unit)=>(i:Int)) (fun _ _=>True) (fun i _=>some (X1h (fun _ (x:Zr)=>X2b r x.Device x.State x.At) i (l.drop i))) ?_ ?_ 0 () (Nat.zero_le _) trivial) rfl
      · intro b _ R
        have e1:decide ((l.length:Int)<(l.length:Int))=false:=by simp
        simp only[Wv,W8,e1,jA,List.drop_length];rfl
      · intro i b hi _ R d
        have a:=d () trivial;have e1:decide ((i:Int)<(l.length:Int))=true:=by simp[hi]
        have w1:=wS i (by omega)
        have c:=hr.devs;rw[jb hi,X2e];simp only[Wv,W8,e1,z0S,kS,ju,jB,Xw _ _ _ hi,X4p r _ _ _ (by omega:r.Devices.length<=1000000),jS,w1]
        generalize X2b r l[i].Device l[i].State l[i].At=e
        by_cases he:e=0
        · have c1:(e != 0)=false:=by simp[he]
          simp only[c1,jA,if_neg (fun h:e≠0=>h he)];exact a
        · have c1:(e != 0)=true:=X3m he
          simp only[c1,jB,if_pos he];rfl
  · have c1:((X1R r).2.2==0)=false:=X3Z q1
    have c2:((X1R r).2.2 != 0)=true:=X3m q1;simp only[c1,c2,jB,jA,if_pos q1]
theorem X4C (r:CoRecord) (l:List Zr):X2B r l=some (X2x r l):=by
  rw[X3n];unfold WO;rw[X5q r];simp only[jS];unfold X2x
  by_cases q1:(X1R r).2.2=0
  · have c1:((X1R r).2.2 != 0)=false:=by simp[q1]
    have hr:=(X5C q1).devs;simp only[c1,jA,if_neg (fun h:(X1R r).2.2≠0=>h q1)]
    by_cases q2:(l.length:Int)>4
    · simp only[q2,decide_true,jB,if_true]
    · simp only[q2,decide_false,jA,if_false,X5b r l (by omega) (by omega),jS]
  · have c1:((X1R r).2.2 != 0)=true:=X3m q1
    simp only[c1,jB,if_pos q1]
theorem X5s (r:CoRecord) (l:List Zr):X3F r l=some (⟨r,l⟩,(X2x r l).2):=by
  rw[X4f];unfold X1Y;rw[X4C r l];rfl
end Nore
open Go Go.Ab
namespace Nore
theorem X7l (i:Nat) (h:i<1000000):IntKind.wrap .i64 ((i:Int)+1)=((i+1:Nat):Int):=by rw[w64]<;>omega
theorem X5V (a b:List Int) (l:a.length<1000000):X3t a b=some (decide (a=b)):=by
  unfold X3t
  by_cases hl:a.length=b.length
  · have e:((a.length:Int) != (b.length:Int))=false:=by simp[hl]
    show(bif((a.length:Int) != (b.length:Int))then _ else _)=_;rw[e,jA];have key:=X1n (X16 b a) (fun o=>Sum.elim (fun y249:Bool=>some y249) (fun _:Unit=>some true) o) a.length (fun i (_:Unit)=>(i:Int)) (fun _ _=>True) (fun i _=>some (decide (a.drop i=b.drop i)))
      (by
        intro b' _ R;simp[X16,X1c,hl])
      (by
        intro i b' hi _ R j;have c:i<b.length:=by omega
        have d:=j () trivial;simp only[X16,X1c];rw[jb hi,jb c,kS,Xw _ _ _ hi,Xw _ _ _ c,X7l i (by omega)]
        have k:decide ((i:Int)<↑a.length)=true:=by simp[hi]
        have f:=z0S i;have g:decide ((i:Int)<↑b.length)=true:=by simp[c]
        simp only[k,f,g,ju,jB]
        by_cases hp:a[i]=b[i]
        · rw[hp]
          simp only[bne_self_eq_false,jA,jS,jw];rw[d];congr 1;rw[decide_eq_decide];exact⟨fun h=>by rw[h],fun h=>(List.cons.inj h).2⟩
        · rw[X3m hp]
          simp only[jB,jS,jy,jw];congr 1;symm;rw[decide_eq_false_iff_not];intro h;exact hp (List.cons.inj h).1)
    exact(key 0 () (by omega) trivial).trans (by simp)
  · have e:((a.length:Int) != (b.length:Int))=true:=by simp;omega
    show(bif((a.length:Int) != (b.length:Int))then _ else _)=_;rw[e,jB];have:a≠b:=fun h=>hl (by rw[h])
    simp[this]
end Nore
namespace Nore
def X3N (r:CoRecord) (l:List Zr):Bool := !(X6V r l).isEmpty
end Nore
open Go Go.Ab
namespace Nore
def X3T (l:List Zr) (dev s t:Int):List Zr:=l++[⟨dev,s,⟨t,t⟩⟩]
def WI (r:CoRecord) (l:List Zr) (dev t:Int) (k:Nat):List Int:=((List.range k).filter fun s:Nat=>X3N r (X3T l dev (s:Int) t)).map fun s:Nat=>(s:Int)
theorem X2A (r:CoRecord) (l:List Zr) (dev t:Int) (k:Nat):WI r l dev t (k+1)=WI r l dev t k++if X3N r (X3T l dev (k:Int) t)then [(k:Int)]else []:=by
  unfold WI;rw[List.range_succ,List.filter_append,List.map_append];congr 1;cases h:X3N r (X3T l dev (k:Int) t)<;>simp[h]
theorem X5o (r:CoRecord) (l:List Zr) (dev t:Int) (k:Nat):∀v∈WI r l dev t k,0<=v/\v<(k:Int):=fun v hv=>by
  obtain⟨s,a,rfl⟩:=List.mem_map.1 hv;have:=List.mem_range.1 (List.mem_filter.1 a).1;omega
theorem X3k (r:CoRecord) (l:List Zr) (dev t:Int) (k:Nat):(WI r l dev t k).length<=k:=by
  unfold WI;rw[List.length_map];exact Nat.le_trans (List.length_filter_le _ _) (by simp)
theorem X55 (r:CoRecord) (l:List Zr) (dev t:Int):∀k,(WI r l dev t k).Pairwise (· < ·)
  | 0=>List.Pairwise.nil
  | k+1=>by
    rw[X2A];refine List.pairwise_append.2 ⟨X55 r l dev t k,?_,fun a d b c=>?_⟩
    · split
      · exact List.pairwise_singleton _ _
      · exact List.Pairwise.nil
    · have:=X5o r l dev t k a d
      split at c
      · rw[List.mem_singleton.1 c];exact this.2
      · cases c
theorem X6H (n:Int):∀(l:List Int),(∀v∈l,n<v)->ZeB n l=n::l
  | [],_=>rfl
  | v::l,h=>by
    have:=h v (by simp)
    unfold ZeB;simp[Int.le_of_lt this]
theorem X67:∀(l:List Int),l.Pairwise (· < ·)->Z3r l=l
  | [],_=>rfl
  | n::l,h=>by
    obtain⟨a,b⟩:=List.pairwise_cons.1 h;show ZeB n (Z3r l)=n::l;rw[X67 l b];exact X6H n l a
theorem X5E (k:Int):∀(m:List (Int×Int)),(∀v∈m.map Prod.fst,v≠k)->Z9M (fun a b=>a==b) k m=none
  | [],_=>rfl
  | (a,b)::m,h=>by
    have c:(k==a)=false:=X3Z fun e=>h a (by simp) e.symm
    unfold Z9M;simp only[c,jA];exact X5E k m fun v hv=>h v (by simp only[jr,jv];exact .inr hv)
theorem X6y (k v:Int):∀(m:List (Int×Int)),(∀w∈m.map Prod.fst,w≠k)->ZiY (fun a b=>a==b) k v m=m++[(k,v)]
  | [],_=>rfl
  | (a,b)::m,h=>by
    have d:(k==a)=false:=X3Z fun e=>h a (by simp) e.symm
    unfold ZiY;simp only[d,jA];rw[X6y k v m fun w c=>h w (by simp only[jr,jv];exact .inr c)]
    rfl
theorem X6U {r:CoRecord} {l:List Zr} (h:X5y r l) (c:l.length<=4) {dev t s:Int} (a:0<=dev/\dev<r.Devices.length) (ht:0<=t/\t<=9999):X5y r (X3T l dev s t) :=
  ⟨h.ent,by unfold X3T;rw[List.length_append,List.length_singleton];omega,fun x b=>by
    rcases List.mem_append.1 b with q|q
    · exact h.seen x q
    · rw[List.mem_singleton.1 q]
      exact⟨a,by simp only;omega,by simp only;omega⟩⟩
theorem X5c {r:CoRecord} {l:List Zr} (h:X5y r l) (q:l.length<=4) {dev t:Int} (g:0<=dev/\dev<r.Devices.length) (ht:0<=t/\t<=9999) {S:Nat} (u:(r.Devices.getD dev.toNat (Zm.mk ByteArray.empty 0 0)).States=(S:Int)) (m:S<=1000) :
    X1i ⟨r,l⟩ dev t=some (WI r l dev t S):=by
  rw[X2M];unfold W1;have c1:decide (0<=dev)=true:=by simp[g.1]
  have c2:decide (dev<(r.Devices.length:Int))=true:=by simp[g.2]
  simp only[c1,c2,ju,jB,u];obtain⟨w,o,f⟩:=WW (Xu dev (S:Int) t ⟨r,l⟩) S (fun i (b:List (Int×Int))=>((i:Int),b)) (fun i b=>b.map Prod.fst=WI r l dev t i) (fun w=>w.map Prod.fst=WI r l dev t S)
    (fun b d=>⟨b,by simp[Xu,XH],d⟩)
    (fun i b hi d=>by
      right;have e1:decide ((i:Int)<(S:Int))=true:=by simp;omega
      have w1:=wS i (by omega)
      have b1:Nat.ble (l.length*(32+1)) 100000000000000=true:=by rw[Nat.ble_eq];omega
      have b2:Nat.ble ((l.length+1)*(32+1)) 200000000000000=true:=by rw[Nat.ble_eq];omega
      have b3:Nat.blt 0 4=true:=rfl;have e:X1T ⟨r,l⟩ [⟨dev,(i:Int),⟨t,t⟩⟩]=some ⟨r,X3T l dev (i:Int) t⟩:=by
        rw[X30];unfold Wk;simp only[b1,b3,ju,jB,List.length_singleton,b2];rfl
      have s:XX ⟨r,X3T l dev (i:Int) t⟩=some (X3N r (X3T l dev (i:Int) t)):=X4i (X6U h q g ht);have a:∀v∈b.map Prod.fst,v≠(i:Int):=fun v hv=>by
        rw[d]at hv;have:=X5o r l dev t i v hv;omega
      simp only[Xu,XH,e1,jB,e,s,jS,w1,X5E _ b a,X6y _ _ b a];cases hag:X3N r (X3T l dev (i:Int) t)with
      | true=>exact⟨_,rfl,by rw[List.map_append,d,X2A,hag];rfl⟩
      | false=>exact⟨b,rfl,by rw[d,X2A,hag];simp⟩) 0 [] (Nat.zero_le _) rfl
  have k:X10 dev (S:Int) t ⟨r,l⟩ (0,[])=some w:=o;have n:w.length<=S:=by
    have:=X3k r l dev t S;rw[<-f,List.length_map]at this;exact this
  have b1:Nat.ble w.length 100000=true:=by rw[Nat.ble_eq];omega
  have b2:Nat.ble (w.map fun p=>p.fst).length 1000000=true:=by rw[Nat.ble_eq,List.length_map];omega
  have b2':Nat.ble (WI r l dev t S).length 1000000=true:=by have:=X3k r l dev t S;rw[Nat.ble_eq];omega
  have b4:Nat.beq w.length w.length=true:=Nat.beq_refl _;have b5:(Nat.beq 3 3&&Nat.beq 2 2)=true:=rfl;have b6:(Nat.beq 3 3&&Nat.beq 0 0)=true:=rfl;have j:(w.map fun p=>p.fst)=WI r l dev t S:=f;rw[k];simp only[jS,b5,b4,b1,ju,Bool.true_and,jB];cases e:w with
  | nil =>
    rw[e]at f;rw[<-f];rfl
  | cons p ps =>
    rw[<-e];have c:Nat.beq w.length 0=false:=by rw[e];rfl
    have b7:(Nat.beq 3 3&&Nat.beq 0 0&&Nat.ble (w.map fun p=>p.fst).length 1000000)=true:=by rw[b2];rfl
    have b8:(Nat.beq 1 1&&Nat.ble 8 1000&&Nat.testBit 688269427663 6)=true:=by decide +kernel
    simp only[c,jA,b2',b6,ju,Bool.true_and,jB,j,X67 _ (X55 r l dev t S)]
    first
    | rfl
    | (have b9:Nat.testBit 688269427663 6=true:=by decide +kernel
       have b10:Nat.beq 1 1=true:=rfl;have b11:Nat.ble 8 1000=true:=rfl;simp only[b9,b10,b11,b2',ju,jB])
theorem X5g {r:CoRecord} {l:List Zr} (h:X5y r l) (j:l.length<=4) {dev t:Int} (a:0<=dev/\dev<r.Devices.length) (ht:0<=t/\t<=9999) {S:Nat} (e:(r.Devices.getD dev.toNat (Zm.mk ByteArray.empty 0 0)).States=(S:Int)) (m:S<=1000) :
    Wm r l dev t=some (WI r l dev t S):=by
  rw[X49];unfold X1E;obtain⟨w,o,k⟩:=WW (WA t l dev r) S (fun i (b:List Int)=>((i:Int),b)) (fun i b=>b=WI r l dev t i) (fun w=>w=WI r l dev t S)
    (fun b c=>⟨b,by
      have c1:decide (0<=dev)=true:=by simp[a.1]
      have c2:decide (dev<(r.Devices.length:Int))=true:=by simp[a.2]
      have e1:decide ((S:Int)<(S:Int))=false:=by simp
      simp only[WA,WG,c1,c2,ju,jB,e,e1,jA],c⟩)
    (fun i b hi c=>by
      right;have c1:decide (0<=dev)=true:=by simp[a.1]
      have c2:decide (dev<(r.Devices.length:Int))=true:=by simp[a.2]
      have e1:decide ((i:Int)<(S:Int))=true:=by simp;omega
      have w1:=wS i (by omega)
      have b1:Nat.ble ((0+l.length)*(32+1)) 200000000000000=true:=by rw[Nat.ble_eq];omega
      have b2:Nat.ble ((l.length+1)*(32+1)) 200000000000000=true:=by rw[Nat.ble_eq];omega
      have f:X3X l dev (i:Int) t=some (X3T l dev (i:Int) t):=by
        rw[X4M];unfold X2g;simp only[b1,jB,List.nil_append,List.length_singleton,b2];rfl
      have n:X1q r (X3T l dev (i:Int) t)=some (X3N r (X3T l dev (i:Int) t)):=X4q (X6U h j a ht);have g:b.length<=i:=by rw[c];exact X3k r l dev t i
      have b3:Nat.ble ((b.length+1)*(8+1)) 200000000000000=true:=by rw[Nat.ble_eq];omega
      simp only[WA,WG,c1,c2,ju,jB,e,e1,f,n,jS,w1,List.length_singleton,b3];cases hag:X3N r (X3T l dev (i:Int) t)with
      | true=>exact⟨_,rfl,by rw[c,X2A,hag];rfl⟩
      | false=>exact⟨b,rfl,by rw[c,X2A,hag];simp⟩) 0 [] (Nat.zero_le _) rfl
  have d:X2u t l dev r (0,[])=some w:=o;rw[d,k];rfl
def X4B (r:CoRecord) (l:List Zr) (dev t:Int):List Int×Int :=
  if(X2x r l).2≠0 then([],(X2x r l).2)else if X14 0 ((r.Devices.length:Int)-1) [dev]then([],4)else if X14 0 9999 [t]then([],7)else
  if X3N r l then(WI r l dev t (r.Devices.getD dev.toNat (Zm.mk ByteArray.empty 0 0)).States.toNat,0)else([],9)
theorem X4Q {r:CoRecord} (h:X6N r) {dev:Int} (a:0<=dev/\dev<r.Devices.length):∃S:Nat,(r.Devices.getD dev.toNat (Zm.mk ByteArray.empty 0 0)).States=(S:Int)/\2<=S/\S<=4:=by
  rw[Xw _ _ _ (by omega)]
  have:=(h.dev _ (jl (by omega:dev.toNat<r.Devices.length))).1
  exact⟨r.Devices[dev.toNat].States.toNat,by omega,by omega,by omega⟩
theorem X58 (r:CoRecord) (l:List Zr) (dev t:Int):X3h r l dev t=some (X4B r l dev t):=by
  rw[X41];unfold X1x;rw[X5s r l];simp only[jS];unfold X4B
  by_cases q:(X2x r l).2=0
  · obtain⟨hr,e,_⟩:=X5w q
    have g:=hr.devs;have c:((X2x r l).2 != 0)=false:=by simp[q]
    have w1:IntKind.wrap .i64 ((r.Devices.length:Int)-1)=(r.Devices.length:Int)-1:=by rw[w64]<;>omega
    simp only[c,jA,if_neg (fun h:(X2x r l).2≠0=>h q),w1,XY _ _ [dev] (by simp),XY _ _ [t] (by simp),jS,X4i (X6c q)]
    cases q1:X14 0 ((r.Devices.length:Int)-1) [dev]with
    | true=>rfl
    | false =>
      cases q2:X14 0 9999 [t]with
      | true=>rfl
      | false =>
        have i:=X15 q1;have ht:=X15 q2;have a:0<=dev/\dev<(r.Devices.length:Int):=by omega
        obtain⟨S,d,_,f⟩:=X4Q hr a;have b:=X5c (X6c q) e a ht d (by omega)
        simp only[jA,jg,if_false,b,jS,d,kS];unfold X3N;cases(X6V r l).isEmpty with
        | true=>rfl
        | false=>rfl
  · have c:((X2x r l).2 != 0)=true:=X3m q
    simp only[c,jB,if_pos q]
theorem X5e (r:CoRecord) (l:List Zr) (dev t:Int):X3i r l dev t=some (X4B r l dev t):=by
  rw[X45];unfold X1C;rw[X4D r l];simp only[jS];unfold X4B
  by_cases q:(X2x r l).2=0
  · obtain⟨hr,e,_⟩:=X5w q
    have g:=hr.devs;have c:((X2x r l).2 != 0)=false:=by simp[q]
    have c':((X2x r l).2==0)=true:=by simp[q]
    have w1:IntKind.wrap .i64 ((r.Devices.length:Int)-1)=(r.Devices.length:Int)-1:=by rw[w64]<;>omega
    simp only[c,c',jB,jA,if_neg (fun h:(X2x r l).2≠0=>h q),w1,X2W,X3V,Bool.not_not,jS,X4q (X6c q)];cases q1:X14 0 ((r.Devices.length:Int)-1) [dev]with
    | true=>rfl
    | false =>
      cases q2:X14 0 9999 [t]with
      | true=>rfl
      | false =>
        have i:=X15 q1;have ht:=X15 q2;have a:0<=dev/\dev<(r.Devices.length:Int):=by omega
        obtain⟨S,d,_,f⟩:=X4Q hr a;have b:=X5g (X6c q) e a ht d (by omega)
        simp only[jA,jg,if_false,b,jS,d,kS];unfold X3N;cases(X6V r l).isEmpty with
        | true=>rfl
        | false=>rfl
  · have c:((X2x r l).2 != 0)=true:=X3m q
    have c':((X2x r l).2==0)=false:=X3Z q;simp only[c,c',jB,jA,if_pos q]
theorem X6E (r:CoRecord) (l:List Zr) (dev t:Int):(X4B r l dev t).1.length<1000000:=by
  unfold X4B
  by_cases q:(X2x r l).2=0
  · rw[if_neg (fun h=>h q)]
    split
    · simp
    · rename_i q1
      split
      · simp
      · split
        · obtain⟨hr,e,_⟩:=X5w q
          have b:=hr.devs;have d:=X15 (by simpa using q1:X14 0 ((r.Devices.length:Int)-1) [dev]=false)
          obtain⟨S,c,_,a⟩:=X4Q hr (by omega:0<=dev/\dev<(r.Devices.length:Int))
          rw[c,kS];have:=X3k r l dev t S;show(WI r l dev t S).length<1000000;omega
        · simp
  · rw[if_pos q];simp
theorem X57 (r:CoRecord) (l:List Zr) (x:Nat->Int):X29 r l x=some true:=by
  rw[X39];unfold Wu;rw[X58,X5e];have b3:∀a:Int,(a==a)=true:=fun a=>by simp
  simp only[jS,X5V _ _ (X6E r l _ _),decide_true,jB,b3]
end Nore
