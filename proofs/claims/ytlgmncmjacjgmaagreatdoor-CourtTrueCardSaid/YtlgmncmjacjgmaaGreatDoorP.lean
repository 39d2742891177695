/- The plain functions of the program and of the document answer alike. -/
import Derived.Test.YtlgmncmjacjgmaaGreatDoorY
import Derived.Test.YtlgmncmjacjgmaaGreatDoorD
set_option linter.unusedSectionVars false
set_option linter.unusedVariables false
set_option linter.unusedSimpArgs false
open Go Go.Ab
namespace Nore
theorem w64 {x:Int} (a : -9223372036854775808<=x) (b:x<=9223372036854775807):IntKind.wrap .i64 x=x:=by
  simp only[IntKind.wrap,IntKind.signed,IntKind.bits];simp;omega
theorem jS {α β:Type} (a:α) (f:α->Option β):Option.bind (some a) f=f a:=rfl
theorem kS (n:Nat):Int.toNat (n:Int)=n:=rfl
theorem wS (i:Nat) (h:i<9223372036854775807):IntKind.wrap .i64 ((i:Int)+1)=((i+1:Nat):Int):=by rw[w64]<;>omega
theorem z0S (i:Nat):decide ((0:Int)<=↑i)=true:=by simp
theorem X8n {σ ω γ:Type} (st:σ->Option (σ⊕ω)) (k:ω->Option γ) (s:σ):Option.bind (Z8I st s) k=Option.bind (st s) (Sum.elim (fun s'=>Option.bind (Z8I st s') k) k):=by
  rw[ZjJ];cases st s with
  | none=>rfl
  | some r=>cases r<;>rfl
theorem X23 {β σ ω γ:Type} (st:σ->Option (σ⊕ω)) (k:ω->Option γ) (n:Nat) (emb:Nat->β->σ) (P:Nat->β->Prop) (nice:Nat->β->Option γ)
    (d:∀b,P n b->∀R:σ->Option γ,Option.bind (st (emb n b)) (Sum.elim R k)=nice n b)
    (e:∀i b,i<n->P i b->∀R:σ->Option γ,(∀b',P (i+1) b'->R (emb (i+1) b')=nice (i+1) b')->Option.bind (st (emb i b)) (Sum.elim R k)=nice i b) :
    ∀i b,i<=n->P i b->Option.bind (Z8I st (emb i b)) k=nice i b:=by
  intro i b hi c
  induction hj:n-i generalizing i b with
  | zero =>
    have:i=n:=by omega
    subst this;rw[X8n];exact d b c _
  | succ j ih =>
    rw[X8n];exact e i b (by omega) c _ fun b' a=>ih (i+1) b' (by omega) a (by omega)
theorem X3k {a b:Int} (h:¬a=b):(a==b)=false:=beq_eq_false_iff_ne.2 h
theorem X3M {a b:Int} (h:¬a=b):(a != b)=true:=bne_iff_ne.2 h
theorem Xg {α:Type} (l:List α) (i:Nat) (d:α) (h:i<l.length):l.getD i d=l[i]:=by simp[List.getD,h]
theorem WU {β σ ω:Type} (st:σ->Option (σ⊕ω)) (n:Nat) (emb:Nat->β->σ) (P:Nat->β->Prop) (Q:ω->Prop)
    (e:∀b,P n b->∃w,st (emb n b)=some (.inr w)/\Q w)
    (g:∀i b,i<n->P i b->(∃w,st (emb i b)=some (.inr w)/\Q w)\/∃b',st (emb i b)=some (.inl (emb (i+1) b'))/\P (i+1) b') :
    ∀i b,i<=n->P i b->∃w,Z8I st (emb i b)=some w/\Q w:=by
  intro i b hi d
  induction hj:n-i generalizing i b with
  | zero =>
    have:i=n:=by omega
    subst this;obtain⟨w,c,a⟩:=e b d;exact⟨w,by rw[ZjJ,c];rfl,a⟩
  | succ j ih =>
    rcases g i b (by omega) d with⟨w,c,a⟩|⟨b',c,a⟩
    · exact⟨w,by rw[ZjJ,c];rfl,a⟩
    · obtain⟨w,f,h⟩:=ih (i+1) b' (by omega) a (by omega)
      exact⟨w,by rw[ZjJ,c];exact f,h⟩
end Nore
namespace Nore
structure Con where
  lo:Nat->Int
  hi:Nat->Int
  ap:List (Nat×Nat)
def X7K (n:Nat) (x:Nat->Int):Prop:=∀i,i+1<n->x i<=x (i+1)
def ApN (ap:List (Nat×Nat)) (x:Nat->Int):Prop:=∀p∈ap,x p.1+1<=x p.2
def UpN (n:Nat) (c:Con) (x:Nat->Int):Prop:=(∀i,i<n->c.lo i<=x i)/\X7K n x/\ApN c.ap x
def DnN (n:Nat) (c:Con) (x:Nat->Int):Prop:=(∀i,i<n->x i<=c.hi i)/\X7K n x/\ApN c.ap x
def Sol (n:Nat) (c:Con) (x:Nat->Int):Prop:=UpN n c x/\DnN n c x
structure X6u (n:Nat) (c:Con) (L:Nat->Int):Prop where
  up:UpN n c L
  least:∀x,UpN n c x->∀i,i<n->L i<=x i
structure X6t (n:Nat) (c:Con) (H:Nat->Int):Prop where
  dn:DnN n c H
  great:∀x,DnN n c x->∀i,i<n->x i<=H i
def X6W (n:Nat) (ap:List (Nat×Nat)):Prop:=∀p∈ap,p.1<p.2/\p.2<n
theorem X99 {n:Nat} {c c':Con} {L L':Nat->Int} (h:X6u n c L) (h':X6u n c' L') (e:∀x,UpN n c x↔UpN n c' x):∀i,i<n->L i=L' i:=fun i hi =>
  Int.le_antisymm (h.least _ ((e _).2 h'.up) i hi) (h'.least _ ((e _).1 h.up) i hi)
theorem X97 {n:Nat} {c c':Con} {H H':Nat->Int} (h:X6t n c H) (h':X6t n c' H') (e:∀x,DnN n c x↔DnN n c' x):∀i,i<n->H i=H' i:=fun i hi =>
  Int.le_antisymm (h'.great _ ((e _).1 h.dn) i hi) (h.great _ ((e _).2 h'.dn) i hi)
theorem X7U {n:Nat} {c:Con} {L H:Nat->Int} (hL:X6u n c L) (a:X6t n c H) (h:∀i,i<n->L i<=H i):Sol n c L :=
  ⟨hL.up,fun i hi=>Int.le_trans (h i hi) (a.dn.1 i hi),hL.up.2.1,hL.up.2.2⟩
theorem X92 {n:Nat} {c:Con} {L H:Nat->Int} (hL:X6u n c L) (a:X6t n c H) (h:∀i,i<n->L i<=H i):Sol n c H :=
  ⟨⟨fun i hi=>Int.le_trans (hL.up.1 i hi) (h i hi),a.dn.2.1,a.dn.2.2⟩,a.dn⟩
theorem X8S {n:Nat} {c:Con} {L H:Nat->Int} (hL:X6u n c L) (a:X6t n c H):(∃x,Sol n c x)↔∀i,i<n->L i<=H i :=
  ⟨fun⟨x,h1,h2⟩ i hi=>Int.le_trans (hL.least x h1 i hi) (a.great x h2 i hi),fun h=>⟨L,X7U hL a h⟩⟩
def X6h (L:Nat->Int):List (Nat×Nat)->Nat->Int->Int
  | [],_,a=>a
  | p::ps,i,a=>X6h L ps i (if p.2=i then(if L p.1+1>a then L p.1+1 else a)else a)
def up1 (ap:List (Nat×Nat)) (L:Nat->Int) (i:Nat):Int:=X6h L ap i (if 0<i then(if L (i-1)>L i then L (i-1)else L i)else L i)
def X11 (ap:List (Nat×Nat)):Nat->(Nat->Int)->Nat->Int
  | 0,L=>L
  | k+1,L=>fun j=>if j=k then up1 ap (X11 ap k L) k else X11 ap k L j
theorem X82 (L:Nat->Int) (i:Nat):∀(ap:List (Nat×Nat)) (a:Int),a<=X6h L ap i a/\∀p∈ap,p.2=i->L p.1+1<=X6h L ap i a
  | [],a=>⟨Int.le_refl _,by simp⟩
  | p::ps,a=>by
    unfold X6h;have b:a<=(if p.2=i then(if L p.1+1>a then L p.1+1 else a)else a)/\(p.2=i->L p.1+1<=(if p.2=i then(if L p.1+1>a then L p.1+1 else a)else a)):=by
      by_cases e:p.2=i
      · by_cases e2:L p.1+1>a
        · simp only[e,e2,if_true];exact⟨by omega,fun _=>Int.le_refl _⟩
        · simp only[e,e2,if_true,if_false];exact⟨Int.le_refl _,fun _=>by omega⟩
      · simp only[e,if_false];exact⟨Int.le_refl _,fun h=>h.elim⟩
    generalize (if p.2=i then(if L p.1+1>a then L p.1+1 else a)else a)=a' at b⊢;obtain⟨d,f⟩:=X82 L i ps a';refine⟨Int.le_trans b.1 d,fun q c e=>?_⟩;rcases jv.1 c with rfl|c
    · exact Int.le_trans (b.2 e) d
    · exact f q c e
theorem X83 (L:Nat->Int) (i:Nat) (b:Int):∀(ap:List (Nat×Nat)) (a:Int),a<=b->(∀p∈ap,p.2=i->L p.1+1<=b)->X6h L ap i a<=b
  | [],_,h,_=>h
  | p::ps,a,h,hp=>by
    unfold X6h;refine X83 L i b ps _ ?_ fun q c=>hp q (by simp[c])
    have:=hp p (by simp)
    split
    · rename_i e
      have:=this e;split<;>omega
    · exact h
theorem X8U (ap:List (Nat×Nat)) (L:Nat->Int):∀(k j:Nat),k<=j->X11 ap k L j=L j
  | 0,_,_=>rfl
  | k+1,j,h=>by
    unfold X11;rw[if_neg (by omega)]
    exact X8U ap L k j (by omega)
theorem X3B {n:Nat} {c:Con} (g:X6W n c.ap):X6u n c (X11 c.ap n c.lo):=by
  have main:∀k,k<=n->(∀i,i<k->c.lo i<=X11 c.ap k c.lo i)/\(∀i,i+1<k->X11 c.ap k c.lo i<=X11 c.ap k c.lo (i+1))/\(∀p∈c.ap,p.2<k->X11 c.ap k c.lo p.1+1<=X11 c.ap k c.lo p.2) ∧
      ∀x,UpN n c x->∀i,i<k->X11 c.ap k c.lo i<=x i:=by
    intro k
    induction k with
    | zero=>intro _;exact⟨fun i h=>by omega,fun i h=>by omega,fun p _ h=>by omega,fun x _ i h=>by omega⟩
    | succ k ih =>
      intro w;obtain⟨r,o,q,m⟩:=ih (by omega)
      have a:∀j,j≠k->X11 c.ap (k+1) c.lo j=X11 c.ap k c.lo j:=fun j v=>by show(if j=k then _ else _)=_;rw[if_neg v]
      have b:X11 c.ap (k+1) c.lo k=up1 c.ap (X11 c.ap k c.lo) k:=by show(if k=k then _ else _)=_;rw[if_pos rfl]
      have f:X11 c.ap k c.lo k=c.lo k:=X8U _ _ _ _ (Nat.le_refl _);obtain⟨g1,g2⟩:=X82 (X11 c.ap k c.lo) k c.ap (if 0<k then(if X11 c.ap k c.lo (k-1)>X11 c.ap k c.lo k then X11 c.ap k c.lo (k-1)else X11 c.ap k c.lo k)else X11 c.ap k c.lo k);have g0:X11 c.ap k c.lo k<=(if 0<k then(if X11 c.ap k c.lo (k-1)>X11 c.ap k c.lo k then X11 c.ap k c.lo (k-1)else X11 c.ap k c.lo k)else X11 c.ap k c.lo k):=by
        split
        · split<;>omega
        · exact Int.le_refl _
      refine⟨fun i hi=>?_,fun i hi=>?_,fun p d hi=>?_,fun x l i hi=>?_⟩
      · by_cases e:i=k
        · subst e;rw[b,<-f];exact Int.le_trans g0 g1
        · rw[a i e];exact r i (by omega)
      · by_cases e:i+1=k
        · subst e
          rw[b,a i (by omega)]
          refine Int.le_trans ?_ g1;rw[if_pos (by omega),Nat.add_sub_cancel]
          split<;>omega
        · rw[a i (by omega),a (i+1) e];exact o i (by omega)
      · have:=g p d
        by_cases e:p.2=k
        · rw[e,b,a p.1 (by omega)];exact g2 p d e
        · rw[a p.1 (by omega),a p.2 e];exact q p d (by omega)
      · by_cases e:i=k
        · subst e
          rw[b];refine X83 _ _ _ _ _ ?_ fun p d e=>?_
          · have s:=l.1 i (by omega)
            rw[f];split
            · have:=m x l (i-1) (by omega)
              have t:=l.2.1 (i-1) (by omega)
              rw[Nat.sub_add_cancel (by omega)]at t
              split<;>omega
            · exact s
          · have y:=g p d
            have:=m x l p.1 (by omega)
            have u:=l.2.2 p d;rw[e]at u;omega
        · rw[a i e];exact m x l i (by omega)
  obtain⟨r,o,q,m⟩:=main n (Nat.le_refl _);exact⟨⟨r,o,fun p d=>q p d (g p d).2⟩,m⟩
def X6i (H:Nat->Int):List (Nat×Nat)->Nat->Int->Int
  | [],_,a=>a
  | p::ps,i,a=>X6i H ps i (if p.1=i then(if H p.2-1<a then H p.2-1 else a)else a)
def dn1 (n:Nat) (ap:List (Nat×Nat)) (H:Nat->Int) (i:Nat):Int:=X6i H ap i (if i+1<n then(if H (i+1)<H i then H (i+1)else H i)else H i)
def X10 (n:Nat) (ap:List (Nat×Nat)):Nat->(Nat->Int)->Nat->Int
  | 0,H=>H
  | k+1,H=>fun j=>if j=n-1-k then dn1 n ap (X10 n ap k H) (n-1-k)else X10 n ap k H j
theorem X85 (H:Nat->Int) (i:Nat):∀(ap:List (Nat×Nat)) (a:Int),X6i H ap i a<=a/\∀p∈ap,p.1=i->X6i H ap i a<=H p.2-1
  | [],a=>⟨Int.le_refl _,by simp⟩
  | p::ps,a=>by
    unfold X6i;have b:(if p.1=i then(if H p.2-1<a then H p.2-1 else a)else a)<=a/\(p.1=i->(if p.1=i then(if H p.2-1<a then H p.2-1 else a)else a)<=H p.2-1):=by
      by_cases e:p.1=i
      · by_cases e2:H p.2-1<a
        · simp only[e,e2,if_true];exact⟨by omega,fun _=>Int.le_refl _⟩
        · simp only[e,e2,if_true,if_false];exact⟨Int.le_refl _,fun _=>by omega⟩
      · simp only[e,if_false];exact⟨Int.le_refl _,fun h=>h.elim⟩
    generalize (if p.1=i then(if H p.2-1<a then H p.2-1 else a)else a)=a' at b⊢;obtain⟨d,f⟩:=X85 H i ps a';refine⟨Int.le_trans d b.1,fun q c e=>?_⟩;rcases jv.1 c with rfl|c
    · exact Int.le_trans d (b.2 e)
    · exact f q c e
theorem X84 (H:Nat->Int) (i:Nat) (b:Int):∀(ap:List (Nat×Nat)) (a:Int),b<=a->(∀p∈ap,p.1=i->b<=H p.2-1)->b<=X6i H ap i a
  | [],_,h,_=>h
  | p::ps,a,h,hp=>by
    unfold X6i;refine X84 H i b ps _ ?_ fun q c=>hp q (by simp[c])
    have:=hp p (by simp)
    split
    · rename_i e
      have:=this e;split<;>omega
    · exact h
theorem X8O (n:Nat) (ap:List (Nat×Nat)) (H:Nat->Int):∀(k j:Nat),k<=n->j+k<n->X10 n ap k H j=H j
  | 0,_,_,_=>rfl
  | k+1,j,hk,h=>by
    unfold X10;rw[if_neg (by omega)]
    exact X8O n ap H k j (by omega) (by omega)
theorem X3u {n:Nat} {c:Con} (l:X6W n c.ap):X6t n c (X10 n c.ap n c.hi):=by
  have main:∀k,k<=n->(∀i,i<n->n<=i+k->X10 n c.ap k c.hi i<=c.hi i)/\(∀i,i+1<n->n<=i+k->X10 n c.ap k c.hi i<=X10 n c.ap k c.hi (i+1))/\(∀p∈c.ap,n<=p.1+k->X10 n c.ap k c.hi p.1+1<=X10 n c.ap k c.hi p.2) ∧
      ∀x,DnN n c x->∀i,i<n->n<=i+k->x i<=X10 n c.ap k c.hi i:=by
    intro k
    induction k with
    | zero=>intro _;exact⟨fun i h h'=>by omega,fun i h h'=>by omega,fun p d h=>by have:=l p d;omega,fun x _ i h h'=>by omega⟩
    | succ k ih =>
      intro y;obtain⟨t,r,s,o⟩:=ih (by omega)
      have a:∀j,j≠n-1-k->X10 n c.ap (k+1) c.hi j=X10 n c.ap k c.hi j:=fun j v=>by show(if j=n-1-k then _ else _)=_;rw[if_neg v]
      have b:X10 n c.ap (k+1) c.hi (n-1-k)=dn1 n c.ap (X10 n c.ap k c.hi) (n-1-k):=by show(if n-1-k=n-1-k then _ else _)=_;rw[if_pos rfl]
      have f:X10 n c.ap k c.hi (n-1-k)=c.hi (n-1-k):=X8O _ _ _ _ _ (by omega) (by omega)
      obtain⟨g1,g2⟩:=X85 (X10 n c.ap k c.hi) (n-1-k) c.ap (if n-1-k+1<n then(if X10 n c.ap k c.hi (n-1-k+1)<X10 n c.ap k c.hi (n-1-k)then X10 n c.ap k c.hi (n-1-k+1)else X10 n c.ap k c.hi (n-1-k))else X10 n c.ap k c.hi (n-1-k));have g0:(if n-1-k+1<n then(if X10 n c.ap k c.hi (n-1-k+1)<X10 n c.ap k c.hi (n-1-k)then X10 n c.ap k c.hi (n-1-k+1)else X10 n c.ap k c.hi (n-1-k))else X10 n c.ap k c.hi (n-1-k))<=X10 n c.ap k c.hi (n-1-k):=by
        split
        · split<;>omega
        · exact Int.le_refl _
      refine⟨fun i hi m=>?_,fun i hi m=>?_,fun p d hi=>?_,fun x g i hi m=>?_⟩
      · by_cases e:i=n-1-k
        · rw[e,b,<-f];exact Int.le_trans g1 g0
        · rw[a i e];exact t i hi (by omega)
      · by_cases e:i=n-1-k
        · rw[e,b,a (n-1-k+1) (by omega)]
          refine Int.le_trans g1 ?_;rw[if_pos (by omega)]
          split<;>omega
        · rw[a i e,a (i+1) (by omega)];exact r i hi (by omega)
      · have:=l p d
        by_cases e:p.1=n-1-k
        · have:=g2 p d e
          rw[e,b,a p.2 (by omega)]
          unfold dn1;omega
        · rw[a p.1 e,a p.2 (by omega)];exact s p d (by omega)
      · by_cases e:i=n-1-k
        · rw[e,b]
          refine X84 _ _ _ _ _ ?_ fun p d e'=>?_
          · have q:=g.1 i hi
            rw[e]at q;rw[f];split
            · have:=o x g (n-1-k+1) (by omega) (by omega)
              have w:=g.2.1 (n-1-k) (by omega)
              split<;>omega
            · exact q
          · have z:=l p d
            have:=o x g p.2 (by omega) (by omega)
            have u:=g.2.2 p d;rw[e']at u;omega
        · rw[a i e];exact o x g i hi (by omega)
  obtain⟨t,r,s,o⟩:=main n (Nat.le_refl _);exact⟨⟨fun i hi=>t i hi (by omega),fun i hi=>r i hi (by omega),fun p d=>s p d (by omega)⟩,fun x g i hi=>o x g i hi (by omega)⟩
def X50 (n:Nat) (c:Con):Nat->Int:=X11 c.ap n c.lo
def X4Z (n:Nat) (c:Con):Nat->Int:=X10 n c.ap n c.hi
def okN (n:Nat) (c:Con):Bool:=(List.range n).all fun i=>decide (X50 n c i<=X4Z n c i)
theorem X6k {n:Nat} {c:Con}:okN n c=true↔∀i,i<n->X50 n c i<=X4Z n c i:=by
  unfold okN;rw[List.all_eq_true];exact⟨fun h i hi=>by simpa using h i (List.mem_range.2 hi),fun h i hi=>by simpa using h i (List.mem_range.1 hi)⟩
abbrev Str:=Int×Nat
def X2o (n:Nat) (c:Con) (s:Str) (a b:Int):Con where
  hi:=fun i=>if 0<=s.1/\i=s.1.toNat then(if b<c.hi i then b else c.hi i)else c.hi i
  lo:=fun i=>if s.2<n/\i=s.2 then(if a+1>c.lo i then a+1 else c.lo i)else c.lo i
  ap:=if 0<=s.1/\s.2<n then c.ap++[(s.1.toNat,s.2)]else c.ap
def X6K (n:Nat) (s:Str):Prop:=s.1<s.2/\s.2<=n /\ -1<=s.1
theorem X8P {n:Nat} {c:Con} (h:X6W n c.ap) {s:Str} (e:X6K n s) (a b:Int):X6W n (X2o n c s a b).ap:=by
  unfold X2o;simp only;split
  · rename_i hc
    intro p d;rcases List.mem_append.1 d with d|d
    · exact h p d
    · simp only[List.mem_singleton]at d
      subst d;unfold X6K at e;simp only;omega
  · exact h
def X7L (n:Nat) (x:Nat->Int) (s:Str) (a b:Int):Prop:=(0<=s.1->x s.1.toNat<=b)/\(s.2<n->a+1<=x s.2)/\(0<=s.1->s.2<n->x s.1.toNat+1<=x s.2)
theorem X6S {n:Nat} {c:Con} {s:Str} {a b:Int} {x:Nat->Int}:ApN (X2o n c s a b).ap x↔ApN c.ap x/\(0<=s.1->s.2<n->x s.1.toNat+1<=x s.2):=by
  unfold X2o ApN;simp only;split
  · rename_i hc
    constructor
    · intro h
      exact⟨fun p d=>h p (List.mem_append.2 (.inl d)),fun _ _=>h (s.1.toNat,s.2) (List.mem_append.2 (.inr (by simp)))⟩
    · rintro⟨f,e⟩ p d
      rcases List.mem_append.1 d with d|d
      · exact f p d
      · simp only[List.mem_singleton]at d
        subst d;exact e hc.1 hc.2
  · rename_i hc
    exact⟨fun h=>⟨h,fun f e=>absurd ⟨f,e⟩ hc⟩,fun h=>h.1⟩
theorem X9h {n:Nat} {c:Con} {s:Str} {a b:Int} {x:Nat->Int}:UpN n (X2o n c s a b) x↔UpN n c x/\(s.2<n->a+1<=x s.2)/\(0<=s.1->s.2<n->x s.1.toNat+1<=x s.2):=by
  unfold UpN;rw[X6S];have e:(∀i,i<n->(X2o n c s a b).lo i<=x i)↔(∀i,i<n->c.lo i<=x i)/\(s.2<n->a+1<=x s.2):=by
    unfold X2o;simp only;constructor
    · intro h
      refine⟨fun i hi=>?_,fun l=>?_⟩
      · have:=h i hi
        split at this
        · split at this<;>omega
        · exact this
      · have:=h s.2 l
        rw[if_pos ⟨l,rfl⟩]at this;split at this<;>omega
    · rintro⟨f,d⟩ i hi
      have:=f i hi;split
      · rename_i hc
        have g:=d hc.1;rw[<-hc.2]at g;split<;>omega
      · exact this
  rw[e];constructor
  · rintro⟨⟨f,d⟩,g,j,k⟩;exact⟨⟨f,g,j⟩,d,k⟩
  · rintro⟨⟨f,g,j⟩,d,k⟩;exact⟨⟨f,d⟩,g,j,k⟩
theorem X9g {n:Nat} {c:Con} {s:Str} (m:X6K n s) {a b:Int} {x:Nat->Int}:DnN n (X2o n c s a b) x↔DnN n c x/\(0<=s.1->x s.1.toNat<=b)/\(0<=s.1->s.2<n->x s.1.toNat+1<=x s.2):=by
  unfold DnN;rw[X6S];have e:(∀i,i<n->x i<=(X2o n c s a b).hi i)↔(∀i,i<n->x i<=c.hi i)/\(0<=s.1->x s.1.toNat<=b):=by
    unfold X2o;unfold X6K at m;simp only;constructor
    · intro h
      refine⟨fun i hi=>?_,fun l=>?_⟩
      · have:=h i hi
        split at this
        · split at this<;>omega
        · exact this
      · have:=h s.1.toNat (by omega)
        rw[if_pos ⟨l,rfl⟩]at this;split at this<;>omega
    · rintro⟨g,d⟩ i hi
      have:=g i hi;split
      · rename_i hc
        have f:=d hc.1;rw[<-hc.2]at f;split<;>omega
      · exact this
  rw[e];constructor
  · rintro⟨⟨g,d⟩,f,j,k⟩;exact⟨⟨g,f,j⟩,d,k⟩
  · rintro⟨⟨g,f,j⟩,d,k⟩;exact⟨⟨g,d⟩,f,j,k⟩
theorem X8o {n:Nat} {c:Con} {s:Str} (i:X6K n s) {a b:Int} {x:Nat->Int}:Sol n (X2o n c s a b) x↔Sol n c x/\X7L n x s a b:=by
  unfold Sol X7L;rw[X9h,X9g i];constructor
  · rintro⟨⟨g,e,d⟩,f,h,_⟩;exact⟨⟨g,f⟩,h,e,d⟩
  · rintro⟨⟨g,f⟩,h,e,d⟩;exact⟨⟨g,e,d⟩,f,h,d⟩
def EqC (n:Nat) (c c':Con):Prop:=(∀x,UpN n c x↔UpN n c' x)/\∀x,DnN n c x↔DnN n c' x
theorem EqC.lo {n:Nat} {c c':Con} (h:EqC n c c') (a:X6W n c.ap) (b:X6W n c'.ap) (i:Nat) (hi:i<n):X50 n c i=X50 n c' i:=X99 (X3B a) (X3B b) h.1 i hi
theorem EqC.hi {n:Nat} {c c':Con} (h:EqC n c c') (a:X6W n c.ap) (b:X6W n c'.ap) (i:Nat) (hi:i<n):X4Z n c i=X4Z n c' i:=X97 (X3u a) (X3u b) h.2 i hi
def X86 (n:Nat) (c:Con):Con:=⟨X50 n c,X4Z n c,c.ap⟩
structure Wit where
  strs:List Str
  a:Int
  b:Int
def X8J (n:Nat) (w:Wit):Prop:=∀s∈w.strs,X6K n s
def X8 (n:Nat):List Wit->Con->List Con
  | [],c=>if okN n c then [X86 n c]else []
  | w::ws,c=>if okN n c then w.strs.flatMap fun s=>X8 n ws (X2o n c s w.a w.b)else []
def X95 (n:Nat) (c:Con) (ws:List Wit) (x:Nat->Int):Prop:=Sol n c x/\∀w∈ws,∃s∈w.strs,X7L n x s w.a w.b
theorem X4Y {n:Nat}:∀(ws:List Wit) (c:Con),(∀w∈ws,X8J n w)->X6W n c.ap->∀d∈X8 n ws c,X95 n c ws d.lo/\X95 n c ws d.hi/\∀i,i<n->d.lo i<=d.hi i
  | [],c,_,h1,d,a=>by
    unfold X8 at a;split at a
    · rename_i g
      simp only[List.mem_singleton]at a;subst a;have b:=X6k.1 g;exact⟨⟨X7U (X3B h1) (X3u h1) b,by simp⟩,⟨X92 (X3B h1) (X3u h1) b,by simp⟩,b⟩
    · cases a
  | w::ws,c,hw,h1,d,a=>by
    unfold X8 at a;split at a
    · obtain⟨s,f,a⟩:=List.mem_flatMap.1 a
      have e:=hw w (by simp) s f
      obtain⟨⟨k1,k2⟩,⟨k3,k4⟩,k5⟩:=X4Y ws _ (fun v hv=>hw v (by simp[hv])) (X8P h1 e _ _) d a
      rw[X8o e]at k1 k3;refine⟨⟨k1.1,fun v hv=>?_⟩,⟨k3.1,fun v hv=>?_⟩,k5⟩
      · rcases jv.1 hv with rfl|hv
        · exact⟨s,f,k1.2⟩
        · exact k2 v hv
      · rcases jv.1 hv with rfl|hv
        · exact⟨s,f,k3.2⟩
        · exact k4 v hv
    · cases a
theorem X5v {n:Nat}:∀(ws:List Wit) (c:Con),(∀w∈ws,X8J n w)->X6W n c.ap->∀x,X95 n c ws x->∃d∈X8 n ws c,∀i,i<n->d.lo i<=x i/\x i<=d.hi i
  | [],c,_,h1,x,hx=>by
    have g:okN n c=true:=X6k.2 ((X8S (X3B h1) (X3u h1)).1 ⟨x,hx.1⟩);unfold X8;rw[if_pos g];exact⟨X86 n c,List.mem_singleton.2 rfl,fun i hi=>⟨(X3B h1).least x hx.1.1 i hi,(X3u h1).great x hx.1.2 i hi⟩⟩
  | w::ws,c,hw,h1,x,hx=>by
    have g:okN n c=true:=X6k.2 ((X8S (X3B h1) (X3u h1)).1 ⟨x,hx.1⟩);unfold X8;rw[if_pos g];obtain⟨s,j,e⟩:=hx.2 w (by simp)
    have f:=hw w (by simp) s j
    obtain⟨d,k,h⟩:=X5v ws (X2o n c s w.a w.b) (fun v hv=>hw v (by simp[hv])) (X8P h1 f _ _) x ⟨(X8o f).2 ⟨hx.1,e⟩,fun v hv=>hx.2 v (by simp[hv])⟩
    exact⟨d,List.mem_flatMap.2 ⟨s,j,k⟩,h⟩
theorem X5w {n:Nat} {ws:List Wit} {c:Con} (b:∀w∈ws,X8J n w) (e:X6W n c.ap):X8 n ws c≠[]↔∃x,X95 n c ws x:=by
  constructor
  · intro h
    obtain⟨d,a⟩:=List.exists_mem_of_ne_nil _ h;exact⟨_,(X4Y ws c b e d a).1⟩
  · rintro⟨x,f⟩ h
    obtain⟨d,a,_⟩:=X5v ws c b e x f;rw[h]at a;cases a
end Nore
open Go Go.Ab
namespace Nore
def X1b (lo hi:Int) (l:List Int):Bool:=l.any fun n=>decide (n<lo)||decide (n>hi)
theorem X3Q (lo hi:Int):X1b lo hi []=false:=rfl
theorem X3c (lo hi n:Int) (l:List Int):X1b lo hi (n::l)=(decide (n<lo)||decide (n>hi)||X1b lo hi l):=rfl
def inN (n lo hi:Int):Bool:=decide (lo<=n)&&decide (n<=hi)
theorem X5y (n lo hi:Int):X4u n lo hi=some (inN n lo hi):=by
  unfold X4u inN
  by_cases h:lo<=n<;>simp[h]
def X5x:Int->List UInt8->Option Int
  | last,[]=>some last
  | last,c::l=>if 97<=(c.toNat:Int)/\(c.toNat:Int)<=122 then X5x c.toNat l else if(c.toNat:Int)≠45\/last=45 then none else X5x c.toNat l
def X4B:Option Int->Bool
  | none=>false
  | some last=>last != 45
def X5X (s:ByteArray):Bool:=decide (s.size<=14)&&X4B (X5x 45 s.toList)
theorem X8X (s:ByteArray) (i:Nat) (h:(s.get! i).toNat<128):Utf8.decode s i=((s.get! i).toNat,1):=by
  unfold Utf8.decode;simp only[Nat.add_zero];rw[if_pos h]
theorem X8W (s:ByteArray) (i:Nat) (h:¬(s.get! i).toNat<128):128<=(Utf8.decode s i).1:=by
  unfold Utf8.decode;simp only[Nat.add_zero,Utf8.runeError];rw[if_neg h]
  repeat' split
  all_goals simp_all
  all_goals omega
theorem X2t (s:ByteArray):s.toList.length=s.size:=by rw[ByteArray.toList_eq];rfl
theorem X8B (s:ByteArray) (i:Nat) (h:i<s.toList.length):s.get! i=s.toList[i]:=by
  have a:i<s.size:=by rw[<-X2t];exact h
  simp only[ByteArray.toList_eq];show(s.data[i]!)=_;have b:i<s.data.size:=a;rw[getElem!_pos s.data i b];rfl
theorem X7C (s:ByteArray):X4V s=some (X5X s):=by
  have key:=X23 (X1C s s) (fun o0=>Sum.elim (fun y1:Bool×Nat=>some y1.fst) (fun y2:Int×Nat=>bif decide ((↑(ByteArray.size s):Int)<=14)then some (y2.fst != 45)else some false) o0) s.toList.length (fun i (b:Int)=>(b,i)) (fun _ _=>True) (fun i b=>some (decide (s.size<=14)&&X4B (X5x b (s.toList.drop i))))
    (by
      intro b _ R;have hh:(decide ((↑s.size:Int)<=14))=decide (s.size<=14):=by rw[decide_eq_decide];omega
      have j:s.toList.drop s.size=[]:=jd (by rw[X2t];exact Nat.le_refl _)
      simp only[j,X5x,X4B,X1C,X1E,X2t,hh,Nat.lt_irrefl,decide_false,jA,jS,jy];cases decide (s.size<=14)<;>simp)
    (by
      intro i b hi _ R k;have f:i<s.size:=by rw[<-X2t];exact hi
      have g:=X8B s i hi;simp only[X1C,X1E];rw[jb hi];simp only[X5x]
      by_cases h:(s.get! i).toNat<128
      · rw[X8X s i h]
        have e:=k ((s.get! i).toNat:Int) trivial;rw[g]at *;generalize s.toList[i]=c at *;simp only[f,decide_true,jB]
        by_cases h1:97<=(c.toNat:Int)
        · have q1:decide ((c.toNat:Int)>=97)=true:=decide_eq_true h1
          by_cases h2:(c.toNat:Int)<=122
          · have q2:decide ((c.toNat:Int)<=122)=true:=decide_eq_true h2
            simp only[decide_true,decide_false,q1,q2,jB,jS,jw,h1,h2,and_self,if_true];exact e
          · have q2:decide ((c.toNat:Int)<=122)=false:=decide_eq_false h2
            have a:¬((c.toNat:Int)=45):=by omega
            have q3:((c.toNat:Int) != 45)=true:=bne_iff_ne.2 a;simp only[decide_true,decide_false,q1,q2,q3,jB,jA,jS,jw,jy,h2,and_false,if_false,ne_eq,a,not_false_iff,true_or,if_true,X4B,Bool.and_false]
        · have q1:decide ((c.toNat:Int)>=97)=false:=decide_eq_false h1
          by_cases a:(c.toNat:Int)=45
          · have q3:((c.toNat:Int) != 45)=false:=by rw[a];rfl
            by_cases h4:b=45
            · have q4:(b==45)=true:=by rw[h4];rfl
              rw[q1,q3,q4,if_neg (fun hc=>h1 hc.1),if_pos (Or.inr h4)];simp[X4B]
            · have q4:(b==45)=false:=beq_eq_false_iff_ne.2 h4
              simp only[decide_true,decide_false,q1,q3,q4,jB,jA,jS,jw,jy,h1,false_and,if_false,h4,ne_eq,a,not_true,or_self,if_true];rw[a]at e;exact e
          · have q3:((c.toNat:Int) != 45)=true:=bne_iff_ne.2 a
            simp only[decide_true,decide_false,q1,q3,jB,jA,jS,jw,jy,h1,false_and,if_false,ne_eq,a,not_false_iff,true_or,if_true,X4B,Bool.and_false]
      · have h':=X8W s i h
        rw[g]at h;generalize s.toList[i]=c at *;simp only[f,decide_true,jB];generalize (Utf8.decode s i)=d at *;have e1:((d.1:Nat):Int)>=97:=by omega
        have e2:¬((d.1:Nat):Int)<=122:=by omega
        have e3:¬((d.1:Nat):Int)=45:=by omega
        have e4:¬((c.toNat:Int)<=122):=by omega
        have e5:¬((c.toNat:Int)=45):=by omega
        have q1:decide (((d.1:Nat):Int)>=97)=true:=decide_eq_true e1;have q2:decide (((d.1:Nat):Int)<=122)=false:=decide_eq_false e2;have q3:(((d.1:Nat):Int) != 45)=true:=bne_iff_ne.2 e3;simp only[decide_true,decide_false,q1,q2,q3,jB,jA,jS,jw,jy,e4,and_false,if_false,ne_eq,e5,not_false_iff,true_or,if_true,X4B,Bool.and_false])
  exact(key 0 45 (by omega) trivial).trans (by simp[X5X])
theorem X7F (s:ByteArray):X4t s=some (X5X s):=by
  unfold X4t;rw[X5y];simp only[jS]
  by_cases hsz:1<=s.size/\s.size<=14
  · have e1:inN (↑s.size) 1 14=true:=by simp[inN];omega
    rw[e1];simp only[Bool.not_true,jA];have o:=X2t s;have key:=X23 (X1D s) (fun o0=>Sum.elim (fun y76:Bool=>some y76) (fun _:Unit=>some true) o0) s.toList.length (fun i (_:Int)=>(i:Int)) (fun i b=>b=if i=0 then 45 else((s.toList.getD (i-1) 0).toNat:Int)) (fun i b=>some (if i<s.toList.length then X4B (X5x b (s.toList.drop i))else true))
      (by
        intro b _ R;simp[X1D,X1L,X2t])
      (by
        intro i b hi j R n;have m:i<s.size:=by rw[<-X2t];exact hi
        simp only[X1D,X1L];rw[jb hi];have a:=n ((s.toList[i]).toNat:Int) (by simp[List.getD,hi])
        have l:=wS i (by omega)
        have f:IntKind.wrap .i64 ((i:Int)-1)=((i:Int)-1):=by rw[w64]<;>omega
        have e:IntKind.wrap .i64 ((s.size:Int)-1)=((s.size:Int)-1):=by rw[w64]<;>omega
        simp only[X5x,kS,Xg _ _ _ hi,l,f,e];have d1:decide ((i:Int)<↑s.size)=true:=by simp[m]
        have d2:=z0S i;simp only[d1,d2,ju,jB,hi,if_true];generalize hc:s.toList[i]=c at *
        by_cases h1:97<=(c.toNat:Int)/\(c.toNat:Int)<=122
        · have q1:decide ((c.toNat:Int)>=97)=true:=decide_eq_true h1.1
          have q2:decide ((c.toNat:Int)<=122)=true:=decide_eq_true h1.2;simp only[decide_true,decide_false,q1,q2,jB,jS,jw,h1,and_self,if_true];have d:¬((c.toNat:Int)=45):=by omega
          rw[a]
          by_cases hi2:i+1<s.toList.length
          · simp[hi2]
          · have:s.toList.drop (i+1)=[]:=jd (by omega)
            simp[hi2,this,X5x,X4B,d]
        · have g:(bif decide ((c.toNat:Int)>=97)then bif decide ((c.toNat:Int)<=122)then true else false else false)=false:=by
            by_cases a1:(c.toNat:Int)>=97
            · by_cases a2:(c.toNat:Int)<=122
              · exact absurd ⟨a1,a2⟩ h1
              · simp[a1,a2]
            · simp[a1]
          have g2:∀(Z:Type) (x y:Z),(bif decide ((c.toNat:Int)>=97)then bif decide ((c.toNat:Int)<=122)then x else y else y)=y:=by
            intro Z x y
            by_cases a1:(c.toNat:Int)>=97
            · by_cases a2:(c.toNat:Int)<=122
              · exact absurd ⟨a1,a2⟩ h1
              · simp[a1,a2]
            · simp[a1]
          rw[g2,if_neg h1]
          by_cases h2:(c.toNat:Int)=45
          · simp only[h2,bne_self_eq_false,jA]
            by_cases h3:i=0
            · subst h3
              simp[j,X4B]
            · by_cases h4:i+1=s.size
              · have:s.toList.drop (i+1)=[]:=jd (by omega)
                have e5:(i:Int)=(s.size:Int)-1:=by omega
                have e6:((s.size:Int)-1==0)=false:=by simp;omega
                simp only[e5,e6,this,X5x]
                by_cases h5:b=45<;>simp[h5,X4B]
              · have e5:((i:Int)==(s.size:Int)-1)=false:=by simp;omega
                have e6:((i:Int)==0)=false:=by simp;omega
                have e7:(0:Int)<=(i:Int)-1:=by omega
                have e8:(i:Int)-1<(s.size:Int):=by omega
                have e9:((i:Int)-1).toNat=i-1:=by omega
                simp only[e5,e6,e7,e8,e9,jA,decide_true,ju,jB];simp only[h3,if_false]at j;rw[<-j]
                by_cases h5:b=45
                · simp[h5,X4B]
                · have q5:(b==45)=false:=beq_eq_false_iff_ne.2 h5
                  rw[h2]at a;rw[q5];simp only[jA,jS,jw,ne_eq,not_true,false_or,h5,if_false];rw[a];simp[show i+1<s.toList.length by omega]
          · have:((c.toNat:Int) != 45)=true:=by simp[h2]
            simp[this,h2,X4B])
    have:=key 0 45 (by omega) (by simp)
    refine this.trans ?_;simp[X5X,show 0<s.toList.length by omega,hsz.2]
  · have e1:inN (↑s.size) 1 14=false:=by
      simp[inN];omega
    rw[e1];simp only[Bool.not_false,jB,X5X]
    by_cases h:s.size<=14
    · have k:s.toList=[]:=by
        apply List.eq_nil_of_length_eq_zero;rw[X2t];omega
      simp[k,X5x,X4B]
    · simp[h]
theorem X5I (n lo hi:Int):inN n lo hi = !X1b lo hi [n]:=by
  simp only[inN,X3c,X3Q,Bool.or_false,Bool.not_or];congr 1<;>rw[<-decide_not,decide_eq_decide]<;>omega
def X5L (lo hi:Int):Int->List Y2->Int
  | e,[]=>e
  | e,s::l=>if X1b lo hi [s.Lo,s.Hi]then 7 else X5L lo hi (if s.Lo>s.Hi then 2 else e) l
theorem X72 (l:List Y2) (lo hi:Int) (h:l.length<1000000):X3R l lo hi=some (X5L lo hi 0 l):=by
  unfold X3R;exact X23 (X1a lo l hi) _ l.length (fun i (b:Int)=>(b,(i:Int))) (fun _ _=>True) (fun i b=>some (X5L lo hi b (l.drop i)))
      (by
        intro b _ R;simp[X1a,X1d,X5L])
      (by
        intro i b c _ R d;simp only[X1a,X1d];rw[jb c];have e:=wS i (by omega)
        simp only[kS,Xg _ _ _ c,X5L,e];rw[X5y,X5y,X5I,X5I];have g:decide ((i:Int)<↑l.length)=true:=by simp[c]
        have f:=z0S i;simp only[g,f,ju,jB,jS];have a:X1b lo hi [l[i].Lo,l[i].Hi]=(X1b lo hi [l[i].Lo]||X1b lo hi [l[i].Hi]):=by simp[X1b]
        rw[a];cases h3:X1b lo hi [l[i].Lo]
        · cases h4:X1b lo hi [l[i].Hi]
          · by_cases h5:l[i].Lo>l[i].Hi
            · have:=d 2 trivial
              simp only[h5];simp;simpa using this
            · have:=d b trivial
              simp only[h5];simp;simpa using this
          · simp
        · simp) 0 0 (by omega) trivial
theorem Z9a (a b:ByteArray):(a==b)=(a.data==b.data):=by cases a;cases b;rfl
instance:LawfulBEq ByteArray where
  rfl:=by intro a;rw[Z9a];simp
  eq_of_beq:=by
    intro a b h;rw[Z9a]at h;have:=eq_of_beq h;cases a;cases b;simp only at this;rw[this]
instance:DecidableEq ByteArray:=fun a b=>if h:(a==b)=true then isTrue (eq_of_beq h)else isFalse (fun e=>h (by rw[e];simp))
def X5n (s:ByteArray) (names:List ByteArray):Int:=if X5X s then(if s∈names then 5 else 0)else 6
theorem X7x {a b:ByteArray} (h:a.toList=b.toList):a=b:=by
  cases a;cases b;simp only[ByteArray.toList_eq]at h;congr 1;exact Array.ext' h
theorem X7n (s:ByteArray) (names:List ByteArray) (j:names.length<1000000):X49 s names=some (X5n s names):=by
  unfold X49 X5n;rw[X7F];simp only[jS];cases X5X s
  · simp
  · simp only[Bool.not_true,jA,if_true]
    unfold X4E;have key:=X23 (WS s names) (fun o78=>Option.bind (Sum.elim (fun y79:Int=>some y79) (fun _:Unit=>some (-1)) o78) fun r82=>bif decide (r82>=0)then some (5:Int)else some 0) names.length (fun i (_:Unit)=>(i:Int)) (fun _ _=>True) (fun i _=>some (if s∈names.drop i then 5 else 0))
      (by
        intro b _ R;simp[WS,X1r])
      (by
        intro i b hi _ R f;have c:=f () trivial;simp only[WS,X1r];rw[jb hi];have d:=wS i (by omega)
        simp only[kS,Xg _ _ _ hi,d];have g:decide ((i:Int)<↑names.length)=true:=by simp[hi]
        have e:=z0S i;simp only[g,e,ju,jB]
        by_cases h:names[i]=s
        · simp[h]
        · have h':(names[i].toList==s.toList)=false:=by
            simp only[beq_eq_false_iff_ne];intro hh;exact h (X7x hh)
          have a:¬s=names[i]:=fun hh=>h hh.symm;simp only[h',jA,jS,jw,jv,a,false_or];exact c)
    have:=key 0 () (by omega) trivial
    simp only[List.drop_zero]at this;rw[<-this];show Option.bind (Option.bind _ _) _=Option.bind _ _;unfold X3x;simp only[Int.natCast_zero];cases Z8I (WS s names) 0<;>rfl
end Nore
open Go Go.Ab
namespace Nore
def spN (L H:Nat->Int):Nat->Y2:=fun j=>⟨L j,H j⟩
def X3j (f:Nat->Y2) (k:Nat) (s:Y2):Nat->Y2:=fun j=>bif Nat.beq j k then s else f j
theorem X8r (f:Nat->Y2) (k:Nat) (s s':Y2):(fun j=>bif Nat.beq j k then s' else X3j f k s j)=X3j f k s':=by
  funext j;unfold X3j;cases Nat.beq j k<;>rfl
theorem X8q (f:Nat->Y2) (k:Nat) (s:Y2):X3j f k s k=s:=by unfold X3j;simp
theorem X7s (f:Nat->Y2) {k j:Nat} (s:Y2) (h:j≠k):X3j f k s j=f j:=by
  unfold X3j;cases e:Nat.beq j k with
  | false=>rfl
  | true=>exact absurd (je e) h
def X3 (ap:List Zb):List (Nat×Nat):=ap.map fun s=>(s.from_.toNat,s.to_.toNat)
def X8d (ap:List Zb):Prop:=ap.length<=1000/\∀s∈ap,0<=s.from_/\s.from_<s.to_/\s.to_<10
def BdN (L:Nat->Int):Prop:=∀i,-1000000<=L i/\L i<=1000000
theorem X8Z (L:Nat->Int) (p:Nat×Nat) (ps:List (Nat×Nat)) (i:Nat) (a:Int):X6h L (p::ps) i a=X6h L ps i (if p.2=i then(if L p.1+1>a then L p.1+1 else a)else a):=rfl
theorem X90 (H:Nat->Int) (p:Nat×Nat) (ps:List (Nat×Nat)) (i:Nat) (a:Int):X6i H (p::ps) i a=X6i H ps i (if p.1=i then(if H p.2-1<a then H p.2-1 else a)else a):=rfl
theorem X6o (ap:List Zb) (f:X8d ap) (L H:Nat->Int) (hL:BdN L) (k:Nat) (t:k<10) (a:Int) (s : -1000000<=a/\a<=1000001) (x1 x3:Int) (x6:List Zb) (x9:Zc) (x10:Nat->Y2) :
    WD (ap.length:Int) x1 (k:Int) x3 (k:Int) x6 ap x9 x10 (0,X3j (spN L H) k ⟨a,H k⟩)=some (X3j (spN L H) k ⟨X6h L (X3 ap) k a,H k⟩):=by
  obtain⟨w,o,n⟩:=WU (XA (ap.length:Int) x1 (k:Int) x3 (k:Int) x6 ap x9 x10) ap.length (fun i (b:Nat->Y2)=>((i:Int),b))
    (fun i b=>∃a',(-1000000<=a'/\a'<=1000001)/\b=X3j (spN L H) k ⟨a',H k⟩/\X6h L (X3 (ap.drop i)) k a'=X6h L (X3 ap) k a) (fun w=>w=X3j (spN L H) k ⟨X6h L (X3 ap) k a,H k⟩)
    (fun b ⟨a',_,e,h⟩=>⟨_,by simp[XA,Xe];rfl,by
      rw[e,<-h,List.drop_length];rfl⟩)
    (fun i b hi ⟨a',m,e,h⟩=>by
      right;have g:ap[i]∈ap:=jl hi;obtain⟨s1,s2,s3⟩:=f.2 _ g;have j:ap.getD i ⟨0,0⟩=ap[i]:=Xg _ _ _ hi;have e1:decide ((i:Int)<(ap.length:Int))=true:=by simp;omega
      have w1:=wS i (by have:=f.1;omega)
      have c:X3 (ap.drop i)=(ap[i].from_.toNat,ap[i].to_.toNat)::X3 (ap.drop (i+1)):=by
        rw[jb hi];rfl
      rw[c,X8Z]at h;simp only at h;simp only[XA,Xe,e1,z0S,ju,jB,kS,j,w1]
      by_cases ht:ap[i].to_=(k:Int)
      · have p:ap[i].from_.toNat≠k:=by omega
        have c1:(ap[i].to_==(k:Int))=true:=by simp[ht]
        have c2:decide ((k:Int)<(10:Int))=true:=by simp;omega
        have c3:Nat.blt k 10=true:=by simp[Nat.blt_eq];omega
        have c4:decide (0<=ap[i].from_)=true:=by simp[s1]
        have c5:decide (ap[i].from_<(10:Int))=true:=by simp;omega
        have c6:Nat.blt ap[i].from_.toNat 10=true:=by rw[Nat.blt_eq];omega
        have hv:=hL ap[i].from_.toNat;have r:(b ap[i].from_.toNat).Lo=L ap[i].from_.toNat:=by rw[e,X7s _ _ p];rfl
        have q:b k=⟨a',H k⟩:=by rw[e,X8q]
        have w2:IntKind.wrap .i64 (L ap[i].from_.toNat+1)=L ap[i].from_.toNat+1:=by rw[w64]<;>omega
        simp only[c1,c2,c3,c4,c5,c6,jB,ju,r,q,w2];have d:ap[i].to_.toNat=k:=by omega
        rw[if_pos d]at h;refine⟨_,rfl,(if L ap[i].from_.toNat+1>a' then L ap[i].from_.toNat+1 else a'),by split<;>omega,?_,h⟩
        rw[e,X8r]
        by_cases hc:L ap[i].from_.toNat+1>a'<;>simp[hc]
      · have c1:(ap[i].to_==(k:Int))=false:=X3k ht
        simp only[c1,jA];have d:¬ap[i].to_.toNat=k:=by omega
        rw[if_neg d]at h;exact⟨_,rfl,a',m,e,h⟩) 0 _ (Nat.zero_le _) ⟨a,s,rfl,rfl⟩
  have l:WD (ap.length:Int) x1 (k:Int) x3 (k:Int) x6 ap x9 x10 (0,X3j (spN L H) k ⟨a,H k⟩)=some w:=o;rw[l,n]
theorem X88 (ap:List Zb) (b:X8d ap) (L H:Nat->Int) (hL:BdN L) (k:Nat) (c:k<10) (a:Int) (d : -1000000<=a/\a<=1000001) (x1 x3:Int) (x6:List Zb) (x9:Zc) (x10:Nat->Y2) :
    X1v (ap.length:Int) x1 (k:Int) x3 (k:Int) x6 ap x9 x10 (0,X3j (spN L H) k ⟨a,H k⟩)=some (X3j (spN L H) k ⟨X6h L (X3 ap) k a,H k⟩) :=
  X6o ap b L H hL k c a d x1 x3 x6 x9 x10
theorem X6p (ap:List Zb) (f:X8d ap) (L H:Nat->Int) (r:BdN H) (k:Nat) (u:k<10) (a:Int) (t : -1000001<=a/\a<=1000000) (x2:Int) (x5:List Zb) (x7:Zc) (x8:Nat->Y2) :
    WF ap x2 (ap.length:Int) (k:Int) x5 x7 x8 (0,X3j (spN L H) k ⟨L k,a⟩)=some (X3j (spN L H) k ⟨L k,X6i H (X3 ap) k a⟩):=by
  obtain⟨w,o,n⟩:=WU (XC ap x2 (ap.length:Int) (k:Int) x5 x7 x8) ap.length (fun i (b:Nat->Y2)=>((i:Int),b))
    (fun i b=>∃a',(-1000001<=a'/\a'<=1000000)/\b=X3j (spN L H) k ⟨L k,a'⟩/\X6i H (X3 (ap.drop i)) k a'=X6i H (X3 ap) k a) (fun w=>w=X3j (spN L H) k ⟨L k,X6i H (X3 ap) k a⟩)
    (fun b ⟨a',_,e,h⟩=>⟨_,by simp[XC,Xf];rfl,by
      rw[e,<-h,List.drop_length];rfl⟩)
    (fun i b hi ⟨a',m,e,h⟩=>by
      right;have g:ap[i]∈ap:=jl hi;obtain⟨s1,s2,s3⟩:=f.2 _ g;have j:ap.getD i ⟨0,0⟩=ap[i]:=Xg _ _ _ hi;have e1:decide ((i:Int)<(ap.length:Int))=true:=by simp;omega
      have w1:=wS i (by have:=f.1;omega)
      have c:X3 (ap.drop i)=(ap[i].from_.toNat,ap[i].to_.toNat)::X3 (ap.drop (i+1)):=by
        rw[jb hi];rfl
      rw[c,X90]at h;simp only at h;simp only[XC,Xf,e1,z0S,ju,jB,kS,j,w1]
      by_cases ht:ap[i].from_=(k:Int)
      · have p:ap[i].to_.toNat≠k:=by omega
        have c1:(ap[i].from_==(k:Int))=true:=by simp[ht]
        have c2:decide ((k:Int)<(10:Int))=true:=by simp;omega
        have c3:Nat.blt k 10=true:=by simp[Nat.blt_eq];omega
        have c4:decide (0<=ap[i].to_)=true:=by simp;omega
        have c5:decide (ap[i].to_<(10:Int))=true:=by simp;omega
        have c6:Nat.blt ap[i].to_.toNat 10=true:=by rw[Nat.blt_eq];omega
        have hv:=r ap[i].to_.toNat;have s:(b ap[i].to_.toNat).Hi=H ap[i].to_.toNat:=by rw[e,X7s _ _ p];rfl
        have q:b k=⟨L k,a'⟩:=by rw[e,X8q]
        have w2:IntKind.wrap .i64 (H ap[i].to_.toNat-1)=H ap[i].to_.toNat-1:=by rw[w64]<;>omega
        simp only[c1,c2,c3,c4,c5,c6,jB,ju,s,q,w2];have d:ap[i].from_.toNat=k:=by omega
        rw[if_pos d]at h;refine⟨_,rfl,(if H ap[i].to_.toNat-1<a' then H ap[i].to_.toNat-1 else a'),by split<;>omega,?_,h⟩
        rw[e,X8r]
        by_cases hc:H ap[i].to_.toNat-1<a'<;>simp[hc]
      · have c1:(ap[i].from_==(k:Int))=false:=X3k ht
        simp only[c1,jA];have d:¬ap[i].from_.toNat=k:=by omega
        rw[if_neg d]at h;exact⟨_,rfl,a',m,e,h⟩) 0 _ (Nat.zero_le _) ⟨a,t,rfl,rfl⟩
  have l:WF ap x2 (ap.length:Int) (k:Int) x5 x7 x8 (0,X3j (spN L H) k ⟨L k,a⟩)=some w:=o;rw[l,n]
theorem X8a (ap:List Zb) (b:X8d ap) (L H:Nat->Int) (e:BdN H) (k:Nat) (c:k<10) (a:Int) (d : -1000001<=a/\a<=1000000) (x2:Int) (x5:List Zb) (x7:Zc) (x8:Nat->Y2) :
    X1w ap x2 (ap.length:Int) (k:Int) x5 x7 x8 (0,X3j (spN L H) k ⟨L k,a⟩)=some (X3j (spN L H) k ⟨L k,X6i H (X3 ap) k a⟩) :=
  X6p ap b L H e k c a d x2 x5 x7 x8
end Nore
open Go Go.Ab
namespace Nore
theorem X8T (ap:List (Nat×Nat)) (L:Nat->Int) (a b:Int) (hL:∀i,a<=L i/\L i<=b):∀(k j:Nat),a<=X11 ap k L j/\X11 ap k L j<=b+k
  | 0,j=>by
    have:=hL j;show a<=L j/\L j<=b+((0:Nat):Int);omega
  | k+1,j=>by
    have ih:=X8T ap L a b hL k;unfold X11;split
    · unfold up1
      obtain⟨g,_⟩:=X82 (X11 ap k L) k ap (if 0<k then(if X11 ap k L (k-1)>X11 ap k L k then X11 ap k L (k-1)else X11 ap k L k)else X11 ap k L k);have i1:=ih k;have i2:=ih (k-1);refine⟨Int.le_trans ?_ g,X83 _ _ _ _ _ ?_ fun p _ _=>?_⟩
      · split
        · split<;>omega
        · omega
      · split
        · split<;>omega
        · omega
      · have:=ih p.1
        omega
    · have:=ih j
      omega
theorem X8N (n:Nat) (ap:List (Nat×Nat)) (H:Nat->Int) (a b:Int) (c:∀i,a<=H i/\H i<=b):∀(k j:Nat),a-k<=X10 n ap k H j/\X10 n ap k H j<=b
  | 0,j=>by
    have:=c j;show a-((0:Nat):Int)<=H j/\H j<=b;omega
  | k+1,j=>by
    have ih:=X8N n ap H a b c k;unfold X10;split
    · unfold dn1
      obtain⟨g,_⟩:=X85 (X10 n ap k H) (n-1-k) ap (if n-1-k+1<n then(if X10 n ap k H (n-1-k+1)<X10 n ap k H (n-1-k)then X10 n ap k H (n-1-k+1)else X10 n ap k H (n-1-k))else X10 n ap k H (n-1-k));have i1:=ih (n-1-k);have i2:=ih (n-1-k+1);refine⟨X84 _ _ _ _ _ ?_ fun p _ _=>?_,Int.le_trans g ?_⟩
      · split
        · split<;>omega
        · omega
      · have:=ih p.2
        omega
      · split
        · split<;>omega
        · omega
    · have:=ih j
      omega
theorem X7T (f:Nat->Y2) (k:Nat):X3j f k (f k)=f:=by
  funext j;unfold X3j;cases e:Nat.beq j k with
  | false=>rfl
  | true=>rw[je e];rfl
theorem X8R (ap:List (Nat×Nat)) (L H:Nat->Int) (i:Nat):X3j (spN (X11 ap i L) H) i ⟨up1 ap (X11 ap i L) i,H i⟩=spN (X11 ap (i+1) L) H:=by
  funext j;unfold X3j spN;cases e:Nat.beq j i with
  | false =>
    have:j≠i:=fun h=>by subst h;simp at e
    show(⟨X11 ap i L j,H j⟩:Y2)=⟨if j=i then _ else _,H j⟩;rw[if_neg this]
  | true =>
    have:=je e;subst this;show(⟨_,_⟩:Y2)=⟨if j=j then _ else _,H j⟩;rw[if_pos rfl]
theorem X9j (n:Nat) (ap:List (Nat×Nat)) (L H:Nat->Int) (i:Nat):X3j (spN L (X10 n ap i H)) (n-1-i) ⟨L (n-1-i),dn1 n ap (X10 n ap i H) (n-1-i)⟩=spN L (X10 n ap (i+1) H):=by
  funext j;unfold X3j spN;cases e:Nat.beq j (n-1-i)with
  | false =>
    have:j≠n-1-i:=fun h=>by subst h;simp at e
    show(⟨L j,X10 n ap i H j⟩:Y2)=⟨L j,if j=n-1-i then _ else _⟩;rw[if_neg this]
  | true =>
    have:=je e;subst this;show(⟨_,_⟩:Y2)=⟨L (n-1-i),if n-1-i=n-1-i then _ else _⟩;rw[if_pos rfl]
theorem X87 (ap:List Zb) (c:X8d ap) (L H:Nat->Int) (hL:∀i,-900000<=L i/\L i<=900000) (n:Nat) (p:n<=10) (x1:Int) (x5:Zc) (x6:Nat->Y2) :
    WC (n:Int) x1 ap x5 x6 (0,spN L H)=some (spN (X11 (X3 ap) n L) H):=by
  obtain⟨w,m,k⟩:=WU (Xz (n:Int) x1 ap x5 x6) n (fun i (b:Nat->Y2)=>((i:Int),b))
    (fun i b=>b=spN (X11 (X3 ap) i L) H) (fun w=>w=spN (X11 (X3 ap) n L) H)
    (fun b d=>⟨b,by simp[Xz,XS],d⟩)
    (fun i b hi d=>by
      right;have e1:decide ((i:Int)<(n:Int))=true:=by simp;omega
      have w1:=wS i (by omega)
      have f:=X8T (X3 ap) L _ _ hL i;have h:BdN (X11 (X3 ap) i L):=fun j=>by have:=f j;omega
      have o:=f i;simp only[Xz,XS,e1,jB,w1,kS]
      by_cases h0:0<i
      · have l:=f (i-1)
        have c1:decide ((i:Int)>0)=true:=by simp;omega
        have c2:decide ((i:Int)<(10:Int))=true:=by simp;omega
        have c3:Nat.blt i 10=true:=by rw[Nat.blt_eq];omega
        have w2:IntKind.wrap .i64 ((i:Int)-1)=((i-1:Nat):Int):=by rw[w64]<;>omega
        have c4:decide (((i-1:Nat):Int)<(10:Int))=true:=by simp;omega
        have c5:Nat.blt (i-1) 10=true:=by rw[Nat.blt_eq];omega
        simp only[c1,c2,c3,w2,c4,c5,z0S,kS,ju,jB];have a:(fun j=>bif Nat.beq j i then(⟨bif decide ((b (i-1)).Lo>(b i).Lo)then(b (i-1)).Lo else(b i).Lo,(b i).Hi⟩:Y2)else b j)=X3j (spN (X11 (X3 ap) i L) H) i ⟨if X11 (X3 ap) i L (i-1)>X11 (X3 ap) i L i then X11 (X3 ap) i L (i-1)else X11 (X3 ap) i L i,H i⟩:=by
          rw[d];funext j;unfold X3j spN
          by_cases hc:X11 (X3 ap) i L (i-1)>X11 (X3 ap) i L i<;>simp[hc]
        rw[a,X6o ap c _ H h i (by omega) _ (by split<;>omega)]
        refine⟨_,rfl,?_⟩;rw[<-X8R];unfold up1;rw[if_pos h0]
      · have g:i=0:=by omega
        subst g;have c1:decide (((0:Nat):Int)>0)=false:=rfl;simp only[c1,jA];have a:b=X3j (spN (X11 (X3 ap) 0 L) H) 0 ⟨X11 (X3 ap) 0 L 0,H 0⟩:=by
          rw[d];exact(X7T (spN (X11 (X3 ap) 0 L) H) 0).symm
        rw[a,X88 ap c _ H h 0 (by omega) _ (by omega)]
        refine⟨_,rfl,?_⟩;rw[<-X8R];rfl) 0 _ (Nat.zero_le _) rfl
  have e:WC (n:Int) x1 ap x5 x6 (0,spN L H)=some w:=m;rw[e,k]
theorem X89 (ap:List Zb) (d:X8d ap) (L H:Nat->Int) (r:∀i,-900000<=H i/\H i<=900000) (n:Nat) (t:n<=10) (x4:Zc) (x5:Nat->Y2) :
    WE (n:Int) ap x4 x5 ((n:Int)-1,spN L H)=some (spN L (X10 n (X3 ap) n H)):=by
  obtain⟨w,l,o⟩:=WU (XB (n:Int) ap x4 x5) n (fun i (b:Nat->Y2)=>((n:Int)-1-i,b))
    (fun i b=>b=spN L (X10 n (X3 ap) i H)) (fun w=>w=spN L (X10 n (X3 ap) n H))
    (fun b e=>⟨b,by
      have e1:decide ((n:Int)-1-(n:Int)>=0)=false:=by simp;omega
      simp only[XB,XT,e1,jA],e⟩)
    (fun i b hi e=>by
      right;obtain⟨k,q⟩:∃k:Nat,k=n-1-i:=⟨_,rfl⟩;have f:(n:Int)-1-i=(k:Int):=by omega
      have e1:decide ((k:Int)>=0)=true:=by simp
      have w1:=wS k (by omega)
      have w3:IntKind.wrap .i64 ((k:Int)-1)=(n:Int)-1-((i+1:Nat):Int):=by rw[w64]<;>omega
      have g:=X8N n (X3 ap) H _ _ r i;have m:BdN (X10 n (X3 ap) i H):=fun j=>by have:=g j;omega
      have p:=g k;have a:=X9j n (X3 ap) L H i;rw[<-q]at a;unfold dn1 at a;simp only[f,XB,XT,e1,jB,w1,kS,w3]
      by_cases h0:k+1<n
      · have s:=g (k+1)
        have c1:decide (((k+1:Nat):Int)<(n:Int))=true:=by simp;omega
        have c2:decide ((k:Int)<(10:Int))=true:=by simp;omega
        have c3:Nat.blt k 10=true:=by rw[Nat.blt_eq];omega
        have c4:decide (((k+1:Nat):Int)<(10:Int))=true:=by simp;omega
        have c5:Nat.blt (k+1) 10=true:=by rw[Nat.blt_eq];omega
        simp only[c1,c2,c3,c4,c5,z0S,kS,ju,jB];have c:(fun j=>bif Nat.beq j k then(⟨(b k).Lo,bif decide ((b (k+1)).Hi<(b k).Hi)then(b (k+1)).Hi else(b k).Hi⟩:Y2)else b j)=X3j (spN L (X10 n (X3 ap) i H)) k ⟨L k,if X10 n (X3 ap) i H (k+1)<X10 n (X3 ap) i H k then X10 n (X3 ap) i H (k+1)else X10 n (X3 ap) i H k⟩:=by
          rw[e];funext j;unfold X3j spN
          by_cases hc:X10 n (X3 ap) i H (k+1)<X10 n (X3 ap) i H k<;>simp[hc]
        rw[c,X6p ap d L _ m k (by omega) _ (by split<;>omega)]
        refine⟨_,rfl,?_⟩;rw[if_pos h0]at a;exact a
      · have c1:decide (((k+1:Nat):Int)<(n:Int))=false:=by simp;omega
        simp only[c1,jA];have c:b=X3j (spN L (X10 n (X3 ap) i H)) k ⟨L k,X10 n (X3 ap) i H k⟩:=by
          rw[e];exact(X7T (spN L (X10 n (X3 ap) i H)) k).symm
        rw[c,X8a ap d L _ m k (by omega) _ (by omega)]
        refine⟨_,rfl,?_⟩;rw[if_neg h0]at a;exact a) 0 _ (Nat.zero_le _) rfl
  have e0:(n:Int)-1-((0:Nat):Int)=(n:Int)-1:=by omega
  rw[e0]at l;have h:WE (n:Int) ap x4 x5 ((n:Int)-1,spN L H)=some w:=l;rw[h,o]
def X7D (L H:Nat->Int) (ap:List Zb):Con:=⟨L,H,X3 ap⟩
theorem X8F (q:Zc) (L H:Nat->Int) (ap:List Zb) (g:X8d ap) (hL:∀i,-900000<=L i/\L i<=900000) (s:∀i,-900000<=H i/\H i<=900000) (m:q.CoRecord.Entries.length<=10) :
    XK q (spN L H) ap=some (spN (X50 q.CoRecord.Entries.length (X7D L H ap)) (X4Z q.CoRecord.Entries.length (X7D L H ap)),okN q.CoRecord.Entries.length (X7D L H ap)):=by
  rw[X3E];unfold Wn;generalize q.CoRecord.Entries.length=n at m;have w1:IntKind.wrap .i64 ((n:Int)-1)=(n:Int)-1:=by rw[w64]<;>omega
  rw[X87 ap g L H hL n m];simp only[jS,w1];rw[X89 ap g _ H s n m];have c1:decide ((n:Int)<=(10:Int))=true:=by simp;omega
  simp only[jS,z0S,c1,ju,jB,kS,List.drop_zero];have c:(List.map (spN (X11 (X3 ap) n L) (X10 n (X3 ap) n H)) (List.range 10)).take n=(List.range n).map (spN (X50 n (X7D L H ap)) (X4Z n (X7D L H ap))):=by
    rw[<-List.map_take,List.take_range,Nat.min_eq_left m];rfl
  rw[c];generalize hA:X50 n (X7D L H ap)=A;generalize hB:X4Z n (X7D L H ap)=B;have a:((List.range n).map (spN A B)).length=n:=by simp
  obtain⟨w,u,r⟩:=WU (XD (n:Int) ((List.range n).map (spN A B))) n (fun i (_:Unit)=>(i:Int)) (fun i _=>∀j,j<i->A j<=B j)
    (fun w=>(∃j:Nat,w=.inl (j:Int)/\¬∀i,i<n->A i<=B i)\/(w=.inr ()/\∀i,i<n->A i<=B i))
    (fun _ h=>⟨.inr (),by simp[XD,XU],.inr ⟨rfl,h⟩⟩)
    (fun i _ hi h=>by
      have e1:decide ((i:Int)<(n:Int))=true:=by simp;omega
      have l:((List.range n).map (spN A B)).getD i ⟨0,0⟩=⟨A i,B i⟩:=by
        rw[Xg _ _ _ (by rw[a];exact hi)]
        simp[spN]
      have w1:=wS i (by omega)
      simp only[XD,XU,e1,a,z0S,ju,jB,kS,l,w1];rw[X3e];unfold Wc;simp only[jS]
      by_cases hc:A i>B i
      · left
        exact⟨.inl (i:Int),by simp[hc],.inl ⟨i,rfl,fun k=>by have:=k i hi;omega⟩⟩
      · right
        refine⟨(),by simp[hc],fun j t=>?_⟩
        by_cases e:j=i
        · subst e;omega
        · exact h j (by omega)) 0 () (Nat.zero_le _) (fun j t=>by omega)
  have p:X1x (n:Int) ((List.range n).map (spN A B)) 0=some w:=u;have d:X11 (X3 ap) n L=A:=hA;have b:X10 n (X3 ap) n H=B:=hB;rw[a,p,d,b];rcases r with⟨k,rfl,o⟩|⟨rfl,f⟩
  · have:okN n (X7D L H ap)=false:=by
      rw[Bool.eq_false_iff];intro h;rw[X6k,hA,hB]at h;exact o h
    rw[this];simp
  · have:okN n (X7D L H ap)=true:=by
      rw[X6k,hA,hB];exact f
    rw[this];simp
end Nore
open Go Go.Ab
namespace Nore
def gtN (l:List Int) (i:Nat):Int:=l.getD i 0
structure X9q (n:Nat) (c:Con) (A B:Nat->Int) (lo hi:List Int):Prop where
  l1:lo.length=n
  l2:hi.length=n
  bd:∀i,i<n->c.lo i<=gtN lo i/\gtN lo i<=A i/\B i<=gtN hi i/\gtN hi i<=c.hi i
end Nore
open Go Go.Ab
namespace Nore
def OkR (n:Nat) (ap:List Z6):Prop:=ap.length<=1000000/\∀s∈ap,0<=s.from_/\s.from_<s.to_/\s.to_<n
end Nore
open Go Go.Ab
namespace Nore
structure X9p (n:Nat) (x:Z8):Prop where
  l1:x.lo.length=n
  l2:x.hi.length=n
  ap:OkR n x.later
  bd:∀i,i<n -> -900000<=gtN x.lo i/\gtN x.lo i<=900000 /\ -900000<=gtN x.hi i/\gtN x.hi i<=900000
end Nore
open Go Go.Ab
namespace Nore
def X6J (dev st:Int):List Zq->Nat->Int->Int->List Z6
  | [],i,now,fr=>if now=st then [⟨fr,i⟩]else []
  | x::xs,i,now,fr=>if x.Device=dev then(if now=st then [⟨fr,i⟩]else [])++X6J dev st xs (i+1) x.State i else X6J dev st xs (i+1) now fr
theorem X5C (dev st:Int) (i:Nat) (now fr:Int):X6J dev st [] i now fr=if now=st then [⟨fr,i⟩]else []:=rfl
theorem X4U (dev st:Int) (x:Zq) (xs:List Zq) (i:Nat) (now fr:Int):X6J dev st (x::xs) i now fr=if x.Device=dev then(if now=st then [⟨fr,i⟩]else [])++X6J dev st xs (i+1) x.State i else X6J dev st xs (i+1) now fr:=rfl
theorem X75 {c d:Con} (g:∀i,c.lo i=d.lo i) (f:∀i,c.hi i=d.hi i) (h:c.ap=d.ap):c=d:=by
  obtain⟨a,b,e⟩:=c;obtain⟨a',b',e'⟩:=d;have g:a=a':=funext g;have f:b=b':=funext f;simp only at h;rw[g,f,h]
end Nore
open Go Go.Ab
namespace Nore
end Nore
open Go Go.Ab
namespace Nore
theorem X9b {σ ω:Type} {st st':σ->Option (σ⊕ω)} (h:∀s x,st s=some x->st' s=some x) {s:σ} {w:ω} (hr:Z8I st s=some w):Z8I st' s=some w:=by
  rw[Z1C]at hr⊢
  induction hr with
  | done e=>exact .done (h _ _ e)
  | next e _ ih=>exact .next (h _ _ e) ih
theorem X7R {α β:Type} {t:(α->Option β)->α->Option β} (ht:∀f g:α->Option β,(∀x r,f x=some r->g x=some r)->∀x r,t f x=some r->t g x=some r) :
    ∀(n:Nat) (x:α) (r:β),Z9E t n x=some r->Z9E t (n+1) x=some r
  | 0,_,_,h=>by cases h
  | n+1,x,r,h=>ht _ _ (X7R ht n) x r h
theorem ZfI {α β:Type} {t:(α->Option β)->α->Option β} (ht:∀f g:α->Option β,(∀x r,f x=some r->g x=some r)->∀x r,t f x=some r->t g x=some r) (n:Nat) :
    ∀(k:Nat) (x:α) (r:β),Z9E t n x=some r->Z9E t (n+k) x=some r
  | 0,_,_,h=>h
  | k+1,x,r,h=>X7R ht (n+k) x r (ZfI ht n k x r h)
theorem X7m {α β:Type} {t:(α->Option β)->α->Option β} (ht:∀f g:α->Option β,(∀x r,f x=some r->g x=some r)->∀x r,t f x=some r->t g x=some r) {n:Nat} {x:α} {r:β} (h:Z9E t n x=some r):Zba t x=some r:=by
  refine Zka (fun m q b=>?_) ⟨n,r,h⟩;have c:=ZfI ht n m x r h;have a:=ZfI ht m n x q b;rw[Nat.add_comm]at a;rw[c]at a;exact(Option.some.inj a).symm
theorem X78 (dev st:Int) (n:Nat):∀(e:List Zq) (i:Nat) (now fr:Int),i+e.length=n -> -1<=fr->fr<i->((X6J dev st e i now fr).length<=e.length+1)/\∀s∈X6J dev st e i now fr,-1<=s.from_/\s.from_<s.to_/\s.to_<=n
  | [],i,now,fr,h,h1,h2=>by
    simp only[List.length_nil,Nat.add_zero]at h;rw[X5C];split
    · refine⟨by simp,fun s a=>?_⟩
      rw[List.mem_singleton.1 a];simp only;omega
    · exact⟨by simp,fun s a=>by cases a⟩
  | x::xs,i,now,fr,h,h1,h2=>by
    simp only[List.length_cons]at h;rw[X4U];split
    · obtain⟨g1,g2⟩:=X78 dev st n xs (i+1) x.State i (by omega) (by omega) (by omega)
      split
      · refine⟨by simp only[List.length_append,List.length_cons,List.length_nil];omega,fun s a=>?_⟩
        rcases List.mem_append.1 a with q|q
        · rw[List.mem_singleton.1 q]
          simp only;omega
        · exact g2 s q
      · refine⟨by simp only[List.nil_append,List.length_cons];omega,fun s a=>g2 s (by simpa using a)⟩
    · obtain⟨g1,g2⟩:=X78 dev st n xs (i+1) now fr (by omega) h1 (by omega)
      exact⟨by simp only[List.length_cons];omega,g2⟩
end Nore
open Go Go.Ab
namespace Nore
def X6U (r:CoRecord) (x:Zr):List Z6:=X6J x.Device x.State r.Entries 0 (r.Devices.getD x.Device.toNat ⟨ByteArray.empty,0,0⟩).First (-1)
def X3h (s:Z6):Str:=(s.from_,s.to_.toNat)
def X27 (r:CoRecord) (x:Zr):Wit:=⟨(X6U r x).map X3h,x.At.Lo,x.At.Hi⟩
structure X3L (r:CoRecord) (x:Zr):Prop where
  dev:0<=x.Device/\x.Device<r.Devices.length
  lo : -900000<=x.At.Lo/\x.At.Lo<900000
  hi : -900000<=x.At.Hi/\x.At.Hi<=900000
theorem X9c {r:CoRecord} (x:Zr) {n:Nat} (d:r.Entries.length=n):(X6U r x).length<=n+1/\∀s∈X6U r x,0<=s.to_/\X6K n (X3h s):=by
  obtain⟨a,c⟩:=X78 x.Device x.State n r.Entries 0 (r.Devices.getD x.Device.toNat ⟨ByteArray.empty,0,0⟩).First (-1) (by omega) (by omega) (by omega)
  rw[d]at a;refine⟨a,fun s b=>?_⟩;have:=c s b;unfold X6K X3h;simp only;omega
end Nore
open Go Go.Ab
namespace Nore
end Nore
open Go Go.Ab
namespace Nore
def X8e (r:CoRecord):Prop:=r.Entries.length<=10/\∀x∈r.Entries,-900000<=x.At.Lo/\x.At.Lo<=900000 /\ -900000<=x.At.Hi/\x.At.Hi<=900000
end Nore
open Go Go.Ab
namespace Nore
def LeO {β:Type} (a b:Option β):Prop:=∀r,a=some r->b=some r
theorem LeO.same {β:Type} (a:Option β):LeO a a:=fun _ h=>h
theorem LeO.cond {β:Type} {c:Bool} {a a' b b':Option β} (d:LeO a a') (e:LeO b b'):LeO (bif c then a else b) (bif c then a' else b'):=by
  cases c
  · exact e
  · exact d
theorem LeO.bind {α β:Type} {o o':Option α} {k k':α->Option β} (b:LeO o o') (c:∀a,LeO (k a) (k' a)):LeO (o.bind k) (o'.bind k'):=fun r h=>by
  cases o with
  | none=>cases h
  | some a=>rw[b a rfl];exact c a r h
theorem LeO.run {σ ω:Type} {st st':σ->Option (σ⊕ω)} (h:∀s,LeO (st s) (st' s)) (s:σ):LeO (Z8I st s) (Z8I st' s):=fun _ hr=>X9b h hr
theorem X7z (f g:((Nat->Y2)×Int×(List Zb)×Zc×Bool×Zc×Zc)->Option ((Bool×Zc×Bool×Zc×Zc)⊕(Bool×Zc×Bool×Zc×Zc))) (h:∀x,LeO (f x) (g x)) (x):LeO (X4 f x) (X4 g x):=by
  unfold X4 Xh;refine .bind (.same _) fun a=>.cond (.same _) (.cond (.same _) (.cond (.cond (.cond (.cond (.bind ?_ fun _=>.same _) (.same _)) (.same _)) (.same _)) (.same _)));unfold XO;refine LeO.run (fun s=>?_) _;unfold Xb X1;dsimp only
  repeat' (first|with_reducible exact LeO.same _|with_reducible exact LeO.bind (h _) fun _=>LeO.same _|with_reducible apply LeO.cond)
end Nore
open Go Go.Ab
namespace Nore
def X2c (u:Nat->Y2) (ap:List Zb):Con:=X7D (fun j=>(u j).Lo) (fun j=>(u j).Hi) ap
def UBd (u:Nat->Y2):Prop:=∀i,-900000<=(u i).Lo/\(u i).Lo<=900000 /\ -900000<=(u i).Hi/\(u i).Hi<=900000
def ApK (n k:Nat) (ap:List Zb):Prop:=ap.length<=k/\∀s∈ap,0<=s.from_/\s.from_<s.to_/\s.to_<n
theorem ApK.bd {n k:Nat} {ap:List Zb} (h:ApK n k ap) (c:n<=10) (a:k<=1000):X8d ap:=⟨Nat.le_trans h.1 a,fun s b=>by have:=h.2 s b;omega⟩
theorem ApK.keep {n k:Nat} {ap:List Zb} (h:ApK n k ap):ApK n (k+1) ap:=⟨Nat.le_succ_of_le h.1,h.2⟩
theorem ApK.add {n k:Nat} {ap:List Zb} (h:ApK n k ap) {f t:Nat} (c:f<t) (b:t<n):ApK n (k+1) (ap++[⟨(f:Int),(t:Int)⟩]) :=
  ⟨by rw[List.length_append,List.length_singleton];exact Nat.succ_le_succ h.1,fun s a=>by
    rcases List.mem_append.1 a with q|q
    · exact h.2 s q
    · rw[List.mem_singleton.1 q];simp only;omega⟩
theorem X52 (q:Zc) (u:Nat->Y2) (ap:List Zb) {k:Nat} (a:UBd u) (b:ApK q.CoRecord.Entries.length k ap) (d:k<=1000) (c:q.CoRecord.Entries.length<=10) :
    XK q u ap=some (spN (X50 q.CoRecord.Entries.length (X2c u ap)) (X4Z q.CoRecord.Entries.length (X2c u ap)),okN q.CoRecord.Entries.length (X2c u ap)) :=
  X8F q (fun j=>(u j).Lo) (fun j=>(u j).Hi) ap (b.bd c d) (fun i=>⟨(a i).1,(a i).2.1⟩) (fun i=>⟨(a i).2.2.1,(a i).2.2.2⟩) c
def X5c (u:Nat->Y2) (f:Nat) (b:Int):Nat->Y2:=fun j=>bif Nat.beq j f then Y2.mk (u f).Lo (bif decide (b<(u f).Hi)then b else(u f).Hi)else u j
def X5d (u:Nat->Y2) (t:Nat) (a:Int):Nat->Y2:=fun j=>bif Nat.beq j t then Y2.mk (bif decide (a>(u t).Lo)then a else(u t).Lo) (u t).Hi else u j
theorem X69 (u:Nat->Y2) (f:Nat) (b:Int) (j:Nat):(X5c u f b j).Lo=(u j).Lo:=by
  unfold X5c;cases e:Nat.beq j f with
  | true=>rw[je e];rfl
  | false=>rfl
theorem X7c (u:Nat->Y2) (f:Nat) (b:Int) (j:Nat):(X5c u f b j).Hi=if j=f then(if b<(u f).Hi then b else(u f).Hi)else(u j).Hi:=by
  unfold X5c;cases e:Nat.beq j f with
  | true =>
    rw[if_pos (je e)]
    by_cases c:b<(u f).Hi<;>simp[c]
  | false=>rw[if_neg (Nat.ne_of_beq_eq_false e)];rfl
theorem X7d (u:Nat->Y2) (f:Nat) (b:Int) (j:Nat):(X5d u f b j).Hi=(u j).Hi:=by
  unfold X5d;cases e:Nat.beq j f with
  | true=>rw[je e];rfl
  | false=>rfl
theorem X7e (u:Nat->Y2) (f:Nat) (b:Int) (j:Nat):(X5d u f b j).Lo=if j=f then(if b>(u f).Lo then b else(u f).Lo)else(u j).Lo:=by
  unfold X5d;cases e:Nat.beq j f with
  | true =>
    rw[if_pos (je e)]
    by_cases c:b>(u f).Lo<;>simp[c]
  | false=>rw[if_neg (Nat.ne_of_beq_eq_false e)];rfl
theorem UBd.hi {u:Nat->Y2} (h:UBd u) (f:Nat) {b:Int} (c : -900000<=b/\b<=900000):UBd (X5c u f b):=fun i=>by
  rw[X69,X7c];have a:=h i;have d:=h f;refine⟨a.1,a.2.1,?_⟩;split
  · split<;>omega
  · exact a.2.2
theorem UBd.lo {u:Nat->Y2} (h:UBd u) (f:Nat) {b:Int} (c : -900000<=b/\b<=900000):UBd (X5d u f b):=fun i=>by
  rw[X7e,X7d];have a:=h i;have d:=h f;refine⟨?_,?_,a.2.2⟩
  · split
    · split<;>omega
    · exact a.1
  · split
    · split<;>omega
    · exact a.2.1
theorem X8E (ap:List Zb) (f t:Nat):X3 (ap++[⟨(f:Int),(t:Int)⟩])=X3 ap++[(f,t)]:=by
  unfold X3;rw[List.map_append];rfl
theorem X7Q (u:Nat->Y2) (ap:List Zb) {n f t:Nat} (ht:t<n) (a b:Int):X2c (X5d (X5c u f b) t (a+1)) (ap++[⟨(f:Int),(t:Int)⟩])=X2o n (X2c u ap) ((f:Int),t) a b:=by
  refine X75 (fun i=>?_) (fun i=>?_) ?_
  · show(X5d (X5c u f b) t (a+1) i).Lo=if t<n/\i=t then(if a+1>(u i).Lo then a+1 else(u i).Lo)else(u i).Lo
    rw[X7e,X69,X69]
    by_cases e:i=t
    · subst e;simp[ht]
    · rw[if_neg e,if_neg fun h=>e h.2]
  · show(X5d (X5c u f b) t (a+1) i).Hi=if 0<=(f:Int)/\i=(f:Int).toNat then(if b<(u i).Hi then b else(u i).Hi)else(u i).Hi
    rw[X7d,X7c,kS]
    by_cases e:i=f
    · subst e;simp
    · rw[if_neg e,if_neg fun h=>e h.2]
  · show X3 (ap++[⟨(f:Int),(t:Int)⟩])=if 0<=(f:Int)/\t<n then X3 ap++[((f:Int).toNat,t)]else X3 ap
    rw[if_pos ⟨by omega,ht⟩,X8E,kS]
theorem X8K (u:Nat->Y2) (ap:List Zb) {n f t:Nat} (ht:¬t<n) (a b:Int):X2c (X5c u f b) ap=X2o n (X2c u ap) ((f:Int),t) a b:=by
  refine X75 (fun i=>?_) (fun i=>?_) ?_
  · show(X5c u f b i).Lo=if t<n/\i=t then(if a+1>(u i).Lo then a+1 else(u i).Lo)else(u i).Lo
    rw[X69,if_neg fun h=>ht h.1]
  · show(X5c u f b i).Hi=if 0<=(f:Int)/\i=(f:Int).toNat then(if b<(u i).Hi then b else(u i).Hi)else(u i).Hi
    rw[X7c,kS]
    by_cases e:i=f
    · subst e;simp
    · rw[if_neg e,if_neg fun h=>e h.2]
  · show X3 ap=if 0<=(f:Int)/\t<n then X3 ap++[((f:Int).toNat,t)]else X3 ap
    rw[if_neg fun h=>ht h.2]
theorem X8L (u:Nat->Y2) (ap:List Zb) {n t:Nat} {fr:Int} (c:¬0<=fr) (ht:t<n) (a b:Int):X2c (X5d u t (a+1)) ap=X2o n (X2c u ap) (fr,t) a b:=by
  refine X75 (fun i=>?_) (fun i=>?_) ?_
  · show(X5d u t (a+1) i).Lo=if t<n/\i=t then(if a+1>(u i).Lo then a+1 else(u i).Lo)else(u i).Lo
    rw[X7e]
    by_cases e:i=t
    · subst e;simp[ht]
    · rw[if_neg e,if_neg fun h=>e h.2]
  · show(X5d u t (a+1) i).Hi=if 0<=fr/\i=fr.toNat then(if b<(u i).Hi then b else(u i).Hi)else(u i).Hi
    rw[X7d,if_neg fun h=>c h.1]
  · show X3 ap=if 0<=fr/\t<n then X3 ap++[(fr.toNat,t)]else X3 ap
    rw[if_neg fun h=>c h.1]
theorem X8M (u:Nat->Y2) (ap:List Zb) {n t:Nat} {fr:Int} (c:¬0<=fr) (ht:¬t<n) (a b:Int):X2c u ap=X2o n (X2c u ap) (fr,t) a b:=by
  refine X75 (fun i=>?_) (fun i=>?_) ?_
  · show(u i).Lo=if t<n/\i=t then(if a+1>(u i).Lo then a+1 else(u i).Lo)else(u i).Lo
    rw[if_neg fun h=>ht h.1]
  · show(u i).Hi=if 0<=fr/\i=fr.toNat then(if b<(u i).Hi then b else(u i).Hi)else(u i).Hi
    rw[if_neg fun h=>c h.1]
  · show X3 ap=if 0<=fr/\t<n then X3 ap++[(fr.toNat,t)]else X3 ap
    rw[if_neg fun h=>c h.1]
def X6r (n:Nat) (dev st:Int) (E:List Zq) (i:Nat) (now fr:Int):List Z6:=if i<=n then X6J dev st (E.drop i) i now fr else []
theorem X6s (n:Nat) (dev st:Int) (E:List Zq) (now fr:Int):X6r n dev st E (n+1) now fr=[]:=if_neg (by omega)
theorem X7Y {n:Nat} {E:List Zq} (hE:E.length=n) (dev st:Int) {i:Nat} (hi:i<n+1) (now fr:Int) {X:Zq} (hX:(E++[Zq.mk dev (-1) (Y2.mk 0 0)]).getD i (Zq.mk 0 0 (Y2.mk 0 0))=X) :
    X6r n dev st E i now fr=if X.Device=dev then(if now=st then [⟨fr,i⟩]else [])++X6r n dev st E (i+1) X.State i else X6r n dev st E (i+1) now fr:=by
  by_cases h:i<n
  · have b:X=E[i]:=by
      rw[<-hX,Xg _ _ _ (by rw[List.length_append,List.length_singleton];omega),List.getElem_append_left (by omega)]
    have d:i<=n:=by omega
    have c:i+1<=n:=by omega
    simp only[X6r,d,c,if_true];rw[jb (by omega),X4U,<-b]
  · have a:i=n:=by omega
    subst a;have b:X=Zq.mk dev (-1) (Y2.mk 0 0):=by
      rw[<-hX,Xg _ _ _ (by rw[List.length_append,List.length_singleton];omega),List.getElem_append_right (by omega)]
      simp
    rw[X6s,X6s,b,if_pos rfl];unfold X6r;rw[if_pos (Nat.le_refl _),jd (by omega),X5C,jo]
def X7p (q:Zc) (L:List Con):(Bool×Zc×Bool×Zc×Zc)⊕(Bool×Zc×Bool×Zc×Zc) :=
  if L.isEmpty then .inl (true,q,false,q,q)else .inr (false,q,true,q,q)
theorem X6N (n:Nat) (c:Con):X8 n [] c=if okN n c then [X86 n c]else []:=rfl
theorem X6g (n:Nat) (w:Wit) (ws:List Wit) (c:Con):X8 n (w::ws) c=if okN n c then w.strs.flatMap fun s=>X8 n ws (X2o n c s w.a w.b)else []:=rfl
theorem X4K (q:Zc) (n:Nat) (o:q.CoRecord.Entries.length=n) (h10:n<=10) (h8:q.seen.length<=8) (hs:∀x∈q.seen,X3L q.CoRecord x)
    (ih0:((Nat->Y2)×Int×(List Zb)×Zc×Bool×Zc×Zc)->Option ((Bool×Zc×Bool×Zc×Zc)⊕(Bool×Zc×Bool×Zc×Zc))) (l:List Zr) (k:Nat) (hk:k+l.length=q.seen.length) (hd:q.seen.drop k=l)
    (ih:∀x l',l=x::l'->k+1+l'.length=q.seen.length->q.seen.drop (k+1)=l'->∀(u:Nat->Y2) (ap:List Zb),UBd u->ApK n (k+1) ap->∀c,X2c u ap=c->ih0 (u,((k+1:Nat):Int),ap,q,false,q,q)=some (X7p q (X8 n (l'.map (X27 q.CoRecord)) c)))
    (u:Nat->Y2) (ap:List Zb) (r:UBd u) (a:ApK n k ap) (c:Con) (hc:X2c u ap=c) :
    Xh ih0 u (k:Int) ap q false q q=some (X7p q (X8 n (l.map (X27 q.CoRecord)) c)):=by
  cases l with
  | nil =>
    have h:=X52 q u ap r (o▸a) (by omega) (by omega)
    rw[o,hc]at h;unfold Xh;simp only[h,jS,List.map_nil,X6N];have c1:((k:Int)==(q.seen.length:Int))=true:=by simp only[List.length_nil,Nat.add_zero]at hk;simp[hk]
    cases okN n c with
    | false=>rfl
    | true=>simp only[Bool.not_true,jA,c1,jB];rfl
  | cons x l =>
    simp only[List.length_cons]at hk;have h:=X52 q u ap r (o▸a) (by omega) (by omega)
    rw[o,hc]at h;have p:k<q.seen.length:=by omega
    have d:q.seen.drop k=q.seen[k]::q.seen.drop (k+1):=jb p;rw[hd]at d;injection d with hx hl
    have g:X3L q.CoRecord x:=hs x (hx▸jl p);have a0:q.seen.getD k (Zr.mk 0 0 (Y2.mk 0 0))=x:=by rw[Xg _ _ _ p,<-hx]
    have j:=ih x l rfl (by omega) hl.symm
    unfold Xh;simp only[h,jS,jr];show _=some (X7p q (X8 n (X27 q.CoRecord x::l.map (X27 q.CoRecord)) c));rw[X6g];cases hok:okN n c with
    | false=>rfl
    | true =>
      have c1:((k:Int)==(q.seen.length:Int))=false:=X3k (by omega)
      have c2:decide ((k:Int)<(q.seen.length:Int))=true:=by simp;omega
      have c3:decide (0<=x.Device)=true:=by simp[g.dev.1]
      have c4:decide (x.Device<(q.CoRecord.Devices.length:Int))=true:=by simp[g.dev.2]
      have c5:Nat.ble (n*(32+1)) 100000000000000=true:=by rw[Nat.ble_eq];omega
      have c6:Nat.ble ((n+1)*(32+1)) 200000000000000=true:=by rw[Nat.ble_eq];omega
      have c7:Nat.blt 0 4=true:=rfl;have t:(q.CoRecord.Entries++[Zq.mk x.Device (-1) (Y2.mk 0 0)]).length=n+1:=by rw[List.length_append,List.length_singleton,o]
      simp only[Bool.not_true,jA,c1,c2,c3,c4,o,c5,List.length_singleton,c6,c7,z0S,ju,jB,kS,a0,if_true,t];unfold XO;refine Eq.trans (X23 _ _ (n+1) (fun i (b:Int×Zb)=>((i:Int),b.1,b.2,q,false,q,q)) (fun i b => -1<=b.2.from_/\b.2.from_<i)
        (fun i b=>some (X7p q ((X6r n x.Device x.State q.CoRecord.Entries i b.1 b.2.from_).flatMap fun s=>X8 n (l.map (X27 q.CoRecord)) (X2o n c (X3h s) x.At.Lo x.At.Hi)))) ?_ ?_ 0
        ((q.CoRecord.Devices.getD x.Device.toNat ⟨ByteArray.empty,0,0⟩).First,⟨-1,0⟩) (by omega) ⟨by simp,by simp⟩) ?_
      · intro b hP R
        have e1:decide (((n+1:Nat):Int)<((n+1:Nat):Int))=false:=by simp
        simp only[Xb,X1,e1,jA,X6s];rfl
      · intro i b hi hP R hR
        obtain⟨now,s⟩:=b;obtain⟨v,hP2⟩:=hP;simp only at v hP2;generalize hX:(q.CoRecord.Entries++[Zq.mk x.Device (-1) (Y2.mk 0 0)]).getD i (Zq.mk 0 0 (Y2.mk 0 0))=X;simp only;rw[X7Y o x.Device x.State hi now s.from_ hX];have e1:decide ((i:Int)<((n+1:Nat):Int))=true:=by simp;omega
        have e3:Nat.blt i (n+1)=true:=by rw[Nat.blt_eq];exact hi
        have w1:=wS i (by omega)
        have w2:=wS k (by omega)
        have w3:IntKind.wrap .i64 (x.At.Lo+1)=x.At.Lo+1:=by have:=g.lo;rw[w64]<;>omega
        have hl2:=a.1;have b1:Nat.ble (ap.length*(16+1)) 100000000000000=true:=by rw[Nat.ble_eq];omega
        have b2:Nat.ble ((ap.length+1)*(16+1)) 200000000000000=true:=by rw[Nat.ble_eq];omega
        have b3:Nat.blt 0 2=true:=rfl;have hxl:=g.lo;have w:=g.hi;simp only[Xb,X1,t,e1,e3,z0S,ju,jB,kS,w1,w2,w3,hX,o,b1,b2,b3,List.length_singleton]
        by_cases hdv:X.Device=x.Device
        · have d1:(X.Device != x.Device)=false:=by simp[hdv]
          simp only[d1,jA];rw[if_pos hdv]
          by_cases hnow:now=x.State
          · have d2:(now==x.State)=true:=by simp[hnow]
            simp only[d2,jB];rw[if_pos hnow,List.singleton_append,List.flatMap_cons];generalize hrest:((X6r n x.Device x.State q.CoRecord.Entries (i+1) X.State (i:Int)).flatMap fun s=>X8 n (l.map (X27 q.CoRecord)) (X2o n c (X3h s) x.At.Lo x.At.Hi))=rest;have m:R (((i+1:Nat):Int),X.State,Zb.mk (i:Int) (i:Int),q,false,q,q)=some (X7p q rest):=by
              rw[<-hrest];exact hR (X.State,⟨(i:Int),(i:Int)⟩) ⟨by simp only;omega,by simp only;omega⟩
            show _=some (X7p q (X8 n (l.map (X27 q.CoRecord)) (X2o n c (s.from_,(i:Int).toNat) x.At.Lo x.At.Hi)++rest));rw[kS]
            by_cases hf:0<=s.from_
            · obtain⟨f,z⟩:=Int.eq_ofNat_of_zero_le hf
              have f1:decide ((f:Int)>=0)=true:=by simp
              have f2:decide ((f:Int)<(10:Int))=true:=by simp;omega
              have f3:Nat.blt f 10=true:=by rw[Nat.blt_eq];omega
              by_cases hin:i<n
              · have g1:decide ((i:Int)<(n:Int))=true:=by simp;omega
                have g2:decide ((i:Int)<(10:Int))=true:=by simp;omega
                have g3:Nat.blt i 10=true:=by rw[Nat.blt_eq];omega
                simp only[z,f1,f2,f3,g1,g2,g3,z0S,kS,ju,jB];rw[j _ _ ?b1h1 ?b1h2 (X2o n c ((f:Int),i) x.At.Lo x.At.Hi) ?b1h3]
                case b1h1=>exact(r.hi f w).lo i (by omega)
                case b1h2=>exact a.add (by omega) hin
                case b1h3=>rw[<-hc];exact X7Q u ap hin x.At.Lo x.At.Hi
                generalize X8 n (l.map (X27 q.CoRecord)) (X2o n c ((f:Int),i) x.At.Lo x.At.Hi)=L1;cases L1 with
                | nil=>exact m
                | cons y ys=>rfl
              · have g1:decide ((i:Int)<(n:Int))=false:=by simp;omega
                simp only[z,f1,f2,f3,g1,z0S,kS,ju,jB,jA];rw[j _ _ ?b2h1 ?b2h2 (X2o n c ((f:Int),i) x.At.Lo x.At.Hi) ?b2h3]
                case b2h1=>exact r.hi f w
                case b2h2=>exact a.keep
                case b2h3=>rw[<-hc];exact X8K u ap hin x.At.Lo x.At.Hi
                generalize X8 n (l.map (X27 q.CoRecord)) (X2o n c ((f:Int),i) x.At.Lo x.At.Hi)=L1;cases L1 with
                | nil=>exact m
                | cons y ys=>rfl
            · have f1:decide (s.from_>=0)=false:=by simp;omega
              by_cases hin:i<n
              · have g1:decide ((i:Int)<(n:Int))=true:=by simp;omega
                have g2:decide ((i:Int)<(10:Int))=true:=by simp;omega
                have g3:Nat.blt i 10=true:=by rw[Nat.blt_eq];omega
                simp only[f1,g1,g2,g3,z0S,kS,ju,jB,jA];rw[j _ _ ?b3h1 ?b3h2 (X2o n c (s.from_,i) x.At.Lo x.At.Hi) ?b3h3]
                case b3h1=>exact r.lo i (by omega)
                case b3h2=>exact a.keep
                case b3h3=>rw[<-hc];exact X8L u ap hf hin x.At.Lo x.At.Hi
                generalize X8 n (l.map (X27 q.CoRecord)) (X2o n c (s.from_,i) x.At.Lo x.At.Hi)=L1;cases L1 with
                | nil=>exact m
                | cons y ys=>rfl
              · have g1:decide ((i:Int)<(n:Int))=false:=by simp;omega
                simp only[f1,g1,z0S,kS,ju,jB,jA];rw[j _ _ ?b4h1 ?b4h2 (X2o n c (s.from_,i) x.At.Lo x.At.Hi) ?b4h3]
                case b4h1=>exact r
                case b4h2=>exact a.keep
                case b4h3=>rw[<-hc];exact X8M u ap hf hin x.At.Lo x.At.Hi
                generalize X8 n (l.map (X27 q.CoRecord)) (X2o n c (s.from_,i) x.At.Lo x.At.Hi)=L1;cases L1 with
                | nil=>exact m
                | cons y ys=>rfl
          · have d2:(now==x.State)=false:=X3k hnow
            simp only[d2,jA];rw[if_neg hnow,List.nil_append];exact hR (X.State,⟨(i:Int),(i:Int)⟩) ⟨by simp only;omega,by simp only;omega⟩
        · have d1:(X.Device != x.Device)=true:=X3M hdv
          simp only[d1,jB];rw[if_neg hdv];exact hR (now,s) ⟨v,by simp only;omega⟩
      · simp only[if_true]
        show some (X7p q ((X6r n x.Device x.State q.CoRecord.Entries 0 (q.CoRecord.Devices.getD x.Device.toNat ⟨ByteArray.empty,0,0⟩).First (-1)).flatMap fun s=>X8 n (l.map (X27 q.CoRecord)) (X2o n c (X3h s) x.At.Lo x.At.Hi)))=_;have e:X6r n x.Device x.State q.CoRecord.Entries 0 (q.CoRecord.Devices.getD x.Device.toNat ⟨ByteArray.empty,0,0⟩).First (-1)=X6U q.CoRecord x:=if_pos (Nat.zero_le _);rw[e];show _=some (X7p q (((X6U q.CoRecord x).map X3h).flatMap fun s=>X8 n (l.map (X27 q.CoRecord)) (X2o n c s x.At.Lo x.At.Hi)));rw[List.flatMap_map]
theorem X5E (q:Zc) (n:Nat) (e:q.CoRecord.Entries.length=n) (a:n<=10) (b:q.seen.length<=8) (d:∀x∈q.seen,X3L q.CoRecord x) :
    ∀(l:List Zr) (k:Nat),k+l.length=q.seen.length->q.seen.drop k=l->∀(u:Nat->Y2) (ap:List Zb),UBd u->ApK n k ap->∀c,X2c u ap=c →
      Z9E X4 (l.length+1) (u,(k:Int),ap,q,false,q,q)=some (X7p q (X8 n (l.map (X27 q.CoRecord)) c))
  | [],k,hk,hd,u,ap,hu,hap,c,hc=>X4K q n e a b d (Z9E X4 0) [] k hk hd (fun _ _ h=>by cases h) u ap hu hap c hc
  | x::l,k,hk,hd,u,ap,hu,hap,c,hc=>X4K q n e a b d (Z9E X4 (l.length+1)) (x::l) k hk hd (fun x' l' h g f=>by
      injection h with _ h
      subst h;exact X5E q n e a b d l (k+1) g f) u ap hu hap c hc
theorem X7H (q:Zc) (n:Nat) (i:q.CoRecord.Entries.length=n) (a:n<=10) (c:q.seen.length<=8) (e:∀x∈q.seen,X3L q.CoRecord x) (k:Nat) (j:k<=q.seen.length) (u:Nat->Y2) (ap:List Zb) (d:UBd u) (b:ApK n k ap) :
    W2 (u,(k:Int),ap,q,false,q,q)=some (X7p q (X8 n ((q.seen.drop k).map (X27 q.CoRecord)) (X2c u ap))) :=
  X7m (fun f g h x r hr=>X7z f g h x r hr) (X5E q n i a c e (q.seen.drop k) k (by rw[List.length_drop];omega) rfl u ap d b _ rfl)
end Nore
open Go Go.Ab
namespace Nore
theorem X7G (q:Zc) (n:Nat) (g:q.CoRecord.Entries.length=n) (a:n<=10) (f:q.seen.length<=8) (b:∀x∈q.seen,X3L q.CoRecord x) (u:Nat->Y2) (d:UBd u) :
    W1 (u,0,q,false,q,q)=some (X7p q (X8 n (q.seen.map (X27 q.CoRecord)) (X2c u []))):=by
  rw[X2h];exact X4K q n g a f b W2 q.seen 0 (by omega) rfl (fun x l' h j i u ap d e c hc=>by
    rw[X7H q n g a f b 1 (by omega) u ap d e,hc,i]) u [] d ⟨Nat.le_refl _,fun s b=>by cases b⟩ _ rfl
def X19 (r:CoRecord):Nat->Y2:=fun j=>(r.Entries.getD j (Zq.mk 0 0 (Y2.mk 0 0))).At
theorem X8i {r:CoRecord} (h:X8e r):UBd (X19 r):=fun i=>by
  unfold X19
  by_cases hi:i<r.Entries.length
  · rw[Xg _ _ _ hi]
    exact h.2 _ (jl hi)
  · have:r.Entries.getD i (Zq.mk 0 0 (Y2.mk 0 0))=Zq.mk 0 0 (Y2.mk 0 0):=by simp[List.getD,List.getElem?_eq_none (by omega:r.Entries.length<=i)]
    rw[this];simp
theorem X8h (r:CoRecord) (g:r.Entries.length<=10) (x3 x4:Zc) (x6:Bool) (x7:Zc) :
    W5 r.Entries (r.Entries.length:Int) x3 x4 x6 x7 (0,fun _=>Y2.mk 0 0)=some (X19 r):=by
  obtain⟨w,f,d⟩:=WU (Xj r.Entries (r.Entries.length:Int) x3 x4 x6 x7) r.Entries.length (fun i (b:Nat->Y2)=>((i:Int),b))
    (fun i b=>∀j,b j=if j<i then X19 r j else Y2.mk 0 0) (fun w=>w=X19 r)
    (fun b c=>⟨b,by simp[Xj,X7],funext fun j=>by
      rw[c j];split
      · rfl
      · rename_i h
        unfold X19;rw[show r.Entries.getD j (Zq.mk 0 0 (Y2.mk 0 0))=Zq.mk 0 0 (Y2.mk 0 0) by simp[List.getD,List.getElem?_eq_none (by omega:r.Entries.length<=j)]]⟩)
    (fun i b hi c=>by
      right;have e1:decide ((i:Int)<(r.Entries.length:Int))=true:=by simp;omega
      have e2:decide ((i:Int)<(10:Int))=true:=by simp;omega
      have e3:Nat.blt i 10=true:=by rw[Nat.blt_eq];omega
      have w1:=wS i (by omega)
      simp only[Xj,X7,e1,e2,e3,z0S,kS,ju,jB,w1];refine⟨_,rfl,fun j=>?_⟩;cases e:Nat.beq j i with
      | true =>
        have:=je e;subst this;rw[if_pos (by omega)];rfl
      | false =>
        have:=Nat.ne_of_beq_eq_false e;simp only[jA];rw[c j]
        by_cases h:j<i
        · rw[if_pos h,if_pos (by omega)]
        · rw[if_neg h,if_neg (by omega)]) 0 (fun _=>Y2.mk 0 0) (Nat.zero_le _) (fun j=>by simp)
  have a:W5 r.Entries (r.Entries.length:Int) x3 x4 x6 x7 (0,fun _=>Y2.mk 0 0)=some w:=f;rw[a,d]
theorem X70 (q:Zc) (h:X8e q.CoRecord) (a:q.seen.length<=8) (b:∀x∈q.seen,X3L q.CoRecord x) :
    X6 q=some (!(X8 q.CoRecord.Entries.length (q.seen.map (X27 q.CoRecord)) (X2c (X19 q.CoRecord) [])).isEmpty):=by
  rw[X3N];unfold Wz;rw[X2L];unfold XM;simp only[X8h q.CoRecord h.1,jS];rw[X7G q _ rfl h.1 a b _ (X8i h)];simp only[jS];generalize X8 q.CoRecord.Entries.length (q.seen.map (X27 q.CoRecord)) (X2c (X19 q.CoRecord) [])=L;cases L with
  | nil=>rfl
  | cons y ys=>rfl
end Nore
open Go Go.Ab
namespace Nore
def mmN (n:Nat) (l t:Nat->Y2):Nat->Y2:=fun j=>if j<n then⟨if(l j).Lo<(t j).Lo then(l j).Lo else(t j).Lo,if(l j).Hi>(t j).Hi then(l j).Hi else(t j).Hi⟩else t j
def Zd1 (n:Nat) (s:Bool×(Nat->Y2)) (c:Con):Bool×(Nat->Y2):=(true,mmN n (spN c.lo c.hi) (if s.1 then s.2 else spN c.lo c.hi))
theorem X9a (n i:Nat) (l t:Nat->Y2):(fun j=>bif Nat.beq j i then Y2.mk (bif decide ((l i).Lo<(t i).Lo)then(l i).Lo else(t i).Lo) (bif decide ((l i).Hi>(t i).Hi)then(l i).Hi else(t i).Hi)else mmN i l t j)=mmN (i+1) l t:=by
  funext j;cases e:Nat.beq j i with
  | true =>
    have:=je e;subst this;have e1:j<j+1:=by omega
    simp only[mmN,jB,e1,if_true]
    by_cases h1:(l j).Lo<(t j).Lo<;>by_cases h2:(l j).Hi>(t j).Hi<;>simp[h1,h2]
  | false =>
    have:=Nat.ne_of_beq_eq_false e;simp only[mmN,jA]
    by_cases h:j<i
    · have e1:j<i+1:=by omega
      simp only[h,e1,if_true]
    · have e1:¬j<i+1:=by omega
      simp only[h,e1,if_false]
theorem X6V (n:Nat) (g:n<=10) (l t:Nat->Y2) (x2 x4:Zc) (x6:Int) (x7:Bool) (x8:List Zr) (x9:Int) (x10:CoRecord) (x11:Bool) (x12:CoRecord) :
    XP (n:Int) x2 x4 l x6 x7 x8 x9 x10 x11 x12 (0,t)=some (mmN n l t):=by
  obtain⟨w,f,e⟩:=WU (Xc (n:Int) x2 x4 l x6 x7 x8 x9 x10 x11 x12) n (fun i (b:Nat->Y2)=>((i:Int),b)) (fun i b=>b=mmN i l t) (fun w=>w=mmN n l t)
    (fun b a=>⟨b,by simp[Xc,X0],a⟩)
    (fun i b hi a=>by
      right;have e1:decide ((i:Int)<(n:Int))=true:=by simp;omega
      have e2:decide ((i:Int)<(10:Int))=true:=by simp;omega
      have e3:Nat.blt i 10=true:=by rw[Nat.blt_eq];omega
      have w1:=wS i (by omega)
      have d:b i=t i:=by rw[a];unfold mmN;rw[if_neg (by omega)]
      simp only[Xc,X0,e1,e2,e3,z0S,kS,ju,jB,w1,d];refine⟨_,rfl,?_⟩;rw[a];exact X9a n i l t) 0 t (Nat.zero_le _) (funext fun j=>by unfold mmN;rw[if_neg (by omega)])
  have c:XP (n:Int) x2 x4 l x6 x7 x8 x9 x10 x11 x12 (0,t)=some w:=f;rw[c,e]
theorem X8t (ih:((Nat->Y2)×Int×(List Zb)×Zc×(Nat->Y2)×Zc×Int×Bool×(List Zr)×Int×CoRecord×Bool×CoRecord)->Option (Bool×Zc×(Nat->Y2)×Zc×Int×Bool×(List Zr)×Int×CoRecord×Bool×CoRecord)) (n:Nat) (a:n<=10) (l t:Nat->Y2) (x2 x4:Zc) (x6:Int) (x7:Bool) (x8:List Zr) (x9:Int) (x10:CoRecord) (x11:Bool) (x12:CoRecord) :
    Wx ih (n:Int) x2 x4 l x6 x7 x8 x9 x10 x11 x12 (0,t)=some (mmN n l t) :=
  X6V n a l t x2 x4 x6 x7 x8 x9 x10 x11 x12
theorem X8u (ih:((Nat->Y2)×Int×(List Zb)×Zc×(Nat->Y2)×Zc×Int×Bool×(List Zr)×Int×CoRecord×Bool×CoRecord)->Option (Bool×Zc×(Nat->Y2)×Zc×Int×Bool×(List Zr)×Int×CoRecord×Bool×CoRecord)) (n:Nat) (a:n<=10) (l t:Nat->Y2) (x2 x4:Zc) (x6:Int) (x7:Bool) (x8:List Zr) (x9:Int) (x10:CoRecord) (x11:Bool) (x12:CoRecord) :
    Wy ih (n:Int) x2 x4 l x6 x7 x8 x9 x10 x11 x12 (0,t)=some (mmN n l t) :=
  X6V n a l t x2 x4 x6 x7 x8 x9 x10 x11 x12
theorem X7A (f g:((Nat->Y2)×Int×(List Zb)×Zc×(Nat->Y2)×Zc×Int×Bool×(List Zr)×Int×CoRecord×Bool×CoRecord)->Option (Bool×Zc×(Nat->Y2)×Zc×Int×Bool×(List Zr)×Int×CoRecord×Bool×CoRecord)) (h:∀x,LeO (f x) (g x)) (x):LeO (X5 f x) (X5 g x):=by
  unfold X5 Xi;refine .bind (.same _) fun a=>.cond (.same _) (.cond ?_ (.cond (.cond (.cond (.cond (.bind ?_ fun _=>.same _) (.same _)) (.same _)) (.same _)) (.same _)))
  · exact .cond (.bind (.same _) fun _=>.same _) (.bind (.same _) fun _=>.same _)
  unfold XQ;refine LeO.run (fun s=>?_) _;unfold Xd X2;dsimp only
  repeat' (first|with_reducible exact LeO.same _|with_reducible exact LeO.bind (h _) fun _=>LeO.same _|with_reducible apply LeO.cond)
end Nore
open Go Go.Ab
namespace Nore
def X6l (n:Nat) (q q5:Zc) (n6:Int) (b7:Bool) (l8:List Zr) (n9:Int) (r10 r12:CoRecord) (fd:Bool) (tm:Nat->Y2) (L:List Con):Bool×Zc×(Nat->Y2)×Zc×Int×Bool×(List Zr)×Int×CoRecord×Bool×CoRecord :=
  (true,q,(L.foldl (Zd1 n) (fd,tm)).2,q5,n6,b7,l8,n9,r10,(L.foldl (Zd1 n) (fd,tm)).1,r12)
theorem X6m (n:Nat) (q q5:Zc) (n6:Int) (b7:Bool) (l8:List Zr) (n9:Int) (r10 r12:CoRecord) (fd:Bool) (tm:Nat->Y2) (L M:List Con) :
    X6l n q q5 n6 b7 l8 n9 r10 r12 fd tm (L++M)=X6l n q q5 n6 b7 l8 n9 r10 r12 (L.foldl (Zd1 n) (fd,tm)).1 (L.foldl (Zd1 n) (fd,tm)).2 M:=by
  unfold X6l;rw[List.foldl_append]
theorem X4L (q q5:Zc) (n6:Int) (b7:Bool) (l8:List Zr) (n9:Int) (r10 r12:CoRecord) (n:Nat) (o:q.CoRecord.Entries.length=n) (hr:r12.Entries.length=n) (y:n<=10) (h8:q.seen.length<=8) (hs:∀x∈q.seen,X3L q.CoRecord x)
    (ih0:((Nat->Y2)×Int×(List Zb)×Zc×(Nat->Y2)×Zc×Int×Bool×(List Zr)×Int×CoRecord×Bool×CoRecord)->Option (Bool×Zc×(Nat->Y2)×Zc×Int×Bool×(List Zr)×Int×CoRecord×Bool×CoRecord)) (l:List Zr) (k:Nat) (hk:k+l.length=q.seen.length) (hd:q.seen.drop k=l)
    (ih:∀x l',l=x::l'->k+1+l'.length=q.seen.length->q.seen.drop (k+1)=l'->∀(u:Nat->Y2) (ap:List Zb),UBd u->ApK n (k+1) ap->∀c,X2c u ap=c->∀(fd:Bool) (tm:Nat->Y2),ih0 (u,((k+1:Nat):Int),ap,q,tm,q5,n6,b7,l8,n9,r10,fd,r12)=some (X6l n q q5 n6 b7 l8 n9 r10 r12 fd tm (X8 n (l'.map (X27 q.CoRecord)) c)))
    (u:Nat->Y2) (ap:List Zb) (r:UBd u) (a:ApK n k ap) (c:Con) (hc:X2c u ap=c) (fd:Bool) (tm:Nat->Y2) :
    Xi ih0 u (k:Int) ap q tm q5 n6 b7 l8 n9 r10 fd r12=some (X6l n q q5 n6 b7 l8 n9 r10 r12 fd tm (X8 n (l.map (X27 q.CoRecord)) c)):=by
  cases l with
  | nil =>
    have h:=X52 q u ap r (o▸a) (by omega) (by omega)
    rw[o,hc]at h;unfold Xi;simp only[h,jS,List.map_nil,X6N];have c1:((k:Int)==(q.seen.length:Int))=true:=by simp only[List.length_nil,Nat.add_zero]at hk;simp[hk]
    cases okN n c with
    | false=>rfl
    | true =>
      simp only[Bool.not_true,jA,c1,jB,hr,if_true];cases fd with
      | false =>
        rw[X8t _ n y];rfl
      | true =>
        rw[X8u _ n y];rfl
  | cons x l =>
    simp only[List.length_cons]at hk;have h:=X52 q u ap r (o▸a) (by omega) (by omega)
    rw[o,hc]at h;have p:k<q.seen.length:=by omega
    have d:q.seen.drop k=q.seen[k]::q.seen.drop (k+1):=jb p;rw[hd]at d;injection d with hx hl
    have g:X3L q.CoRecord x:=hs x (hx▸jl p);have v:q.seen.getD k (Zr.mk 0 0 (Y2.mk 0 0))=x:=by rw[Xg _ _ _ p,<-hx]
    have j:=ih x l rfl (by omega) hl.symm
    unfold Xi;simp only[h,jS,jr];show _=some (X6l n q q5 n6 b7 l8 n9 r10 r12 fd tm (X8 n (X27 q.CoRecord x::l.map (X27 q.CoRecord)) c));rw[X6g];cases hok:okN n c with
    | false=>rfl
    | true =>
      have c1:((k:Int)==(q.seen.length:Int))=false:=X3k (by omega)
      have c2:decide ((k:Int)<(q.seen.length:Int))=true:=by simp;omega
      have c3:decide (0<=x.Device)=true:=by simp[g.dev.1]
      have c4:decide (x.Device<(q.CoRecord.Devices.length:Int))=true:=by simp[g.dev.2]
      have c5:Nat.ble (n*(32+1)) 100000000000000=true:=by rw[Nat.ble_eq];omega
      have c6:Nat.ble ((n+1)*(32+1)) 200000000000000=true:=by rw[Nat.ble_eq];omega
      have c7:Nat.blt 0 4=true:=rfl;have w:(q.CoRecord.Entries++[Zq.mk x.Device (-1) (Y2.mk 0 0)]).length=n+1:=by rw[List.length_append,List.length_singleton,o]
      simp only[Bool.not_true,jA,c1,c2,c3,c4,o,c5,List.length_singleton,c6,c7,z0S,ju,jB,kS,v,if_true,w];unfold XQ;refine Eq.trans (X23 _ _ (n+1) (fun i (b:Int×Zb×Bool×(Nat->Y2))=>((i:Int),b.1,q,b.2.2.2,q5,b.2.1,n6,b7,l8,n9,r10,b.2.2.1,r12)) (fun i b => -1<=b.2.1.from_/\b.2.1.from_<i)
        (fun i b=>some (X6l n q q5 n6 b7 l8 n9 r10 r12 b.2.2.1 b.2.2.2 ((X6r n x.Device x.State q.CoRecord.Entries i b.1 b.2.1.from_).flatMap fun s=>X8 n (l.map (X27 q.CoRecord)) (X2o n c (X3h s) x.At.Lo x.At.Hi)))) ?_ ?_ 0
        ((q.CoRecord.Devices.getD x.Device.toNat ⟨ByteArray.empty,0,0⟩).First,⟨-1,0⟩,fd,tm) (by omega) ⟨by simp,by simp⟩) ?_
      · intro b hP R
        have e1:decide (((n+1:Nat):Int)<((n+1:Nat):Int))=false:=by simp
        simp only[Xd,X2,e1,jA,X6s];rfl
      · intro i b hi hP R hR
        obtain⟨now,s,fd,tm⟩:=b;obtain⟨t,hP2⟩:=hP;simp only at t hP2;generalize hX:(q.CoRecord.Entries++[Zq.mk x.Device (-1) (Y2.mk 0 0)]).getD i (Zq.mk 0 0 (Y2.mk 0 0))=X;simp only;rw[X7Y o x.Device x.State hi now s.from_ hX];have e1:decide ((i:Int)<((n+1:Nat):Int))=true:=by simp;omega
        have e3:Nat.blt i (n+1)=true:=by rw[Nat.blt_eq];exact hi
        have w1:=wS i (by omega)
        have w2:=wS k (by omega)
        have w3:IntKind.wrap .i64 (x.At.Lo+1)=x.At.Lo+1:=by have:=g.lo;rw[w64]<;>omega
        have hl2:=a.1;have b1:Nat.ble (ap.length*(16+1)) 100000000000000=true:=by rw[Nat.ble_eq];omega
        have b2:Nat.ble ((ap.length+1)*(16+1)) 200000000000000=true:=by rw[Nat.ble_eq];omega
        have b3:Nat.blt 0 2=true:=rfl;have hxl:=g.lo;have z:=g.hi;simp only[Xd,X2,w,e1,e3,z0S,ju,jB,kS,w1,w2,w3,hX,o,b1,b2,b3,List.length_singleton]
        by_cases hdv:X.Device=x.Device
        · have d1:(X.Device != x.Device)=false:=by simp[hdv]
          simp only[d1,jA];rw[if_pos hdv]
          by_cases hnow:now=x.State
          · have d2:(now==x.State)=true:=by simp[hnow]
            simp only[d2,jB];rw[if_pos hnow,List.singleton_append,List.flatMap_cons];generalize hrest:((X6r n x.Device x.State q.CoRecord.Entries (i+1) X.State (i:Int)).flatMap fun s=>X8 n (l.map (X27 q.CoRecord)) (X2o n c (X3h s) x.At.Lo x.At.Hi))=rest;have m:∀fd tm,R (((i+1:Nat):Int),X.State,q,tm,q5,Zb.mk (i:Int) (i:Int),n6,b7,l8,n9,r10,fd,r12)=some (X6l n q q5 n6 b7 l8 n9 r10 r12 fd tm rest):=fun fd tm=>by
              rw[<-hrest];exact hR (X.State,⟨(i:Int),(i:Int)⟩,fd,tm) ⟨by simp only;omega,by simp only;omega⟩
            show _=some (X6l n q q5 n6 b7 l8 n9 r10 r12 fd tm (X8 n (l.map (X27 q.CoRecord)) (X2o n c (s.from_,(i:Int).toNat) x.At.Lo x.At.Hi)++rest));rw[kS]
            by_cases hf:0<=s.from_
            · obtain⟨f,a0⟩:=Int.eq_ofNat_of_zero_le hf
              have f1:decide ((f:Int)>=0)=true:=by simp
              have f2:decide ((f:Int)<(10:Int))=true:=by simp;omega
              have f3:Nat.blt f 10=true:=by rw[Nat.blt_eq];omega
              by_cases hin:i<n
              · have g1:decide ((i:Int)<(n:Int))=true:=by simp;omega
                have g2:decide ((i:Int)<(10:Int))=true:=by simp;omega
                have g3:Nat.blt i 10=true:=by rw[Nat.blt_eq];omega
                simp only[a0,f1,f2,f3,g1,g2,g3,z0S,kS,ju,jB];rw[j _ _ ?b1h1 ?b1h2 (X2o n c ((f:Int),i) x.At.Lo x.At.Hi) ?b1h3]
                case b1h1=>exact(r.hi f z).lo i (by omega)
                case b1h2=>exact a.add (by omega) hin
                case b1h3=>rw[<-hc];exact X7Q u ap hin x.At.Lo x.At.Hi
                rw[X6m];exact m _ _
              · have g1:decide ((i:Int)<(n:Int))=false:=by simp;omega
                simp only[a0,f1,f2,f3,g1,z0S,kS,ju,jB,jA];rw[j _ _ ?b2h1 ?b2h2 (X2o n c ((f:Int),i) x.At.Lo x.At.Hi) ?b2h3]
                case b2h1=>exact r.hi f z
                case b2h2=>exact a.keep
                case b2h3=>rw[<-hc];exact X8K u ap hin x.At.Lo x.At.Hi
                rw[X6m];exact m _ _
            · have f1:decide (s.from_>=0)=false:=by simp;omega
              by_cases hin:i<n
              · have g1:decide ((i:Int)<(n:Int))=true:=by simp;omega
                have g2:decide ((i:Int)<(10:Int))=true:=by simp;omega
                have g3:Nat.blt i 10=true:=by rw[Nat.blt_eq];omega
                simp only[f1,g1,g2,g3,z0S,kS,ju,jB,jA];rw[j _ _ ?b3h1 ?b3h2 (X2o n c (s.from_,i) x.At.Lo x.At.Hi) ?b3h3]
                case b3h1=>exact r.lo i (by omega)
                case b3h2=>exact a.keep
                case b3h3=>rw[<-hc];exact X8L u ap hf hin x.At.Lo x.At.Hi
                rw[X6m];exact m _ _
              · have g1:decide ((i:Int)<(n:Int))=false:=by simp;omega
                simp only[f1,g1,z0S,kS,ju,jB,jA];rw[j _ _ ?b4h1 ?b4h2 (X2o n c (s.from_,i) x.At.Lo x.At.Hi) ?b4h3]
                case b4h1=>exact r
                case b4h2=>exact a.keep
                case b4h3=>rw[<-hc];exact X8M u ap hf hin x.At.Lo x.At.Hi
                rw[X6m];exact m _ _
          · have d2:(now==x.State)=false:=X3k hnow
            simp only[d2,jA];rw[if_neg hnow,List.nil_append];exact hR (X.State,⟨(i:Int),(i:Int)⟩,fd,tm) ⟨by simp only;omega,by simp only;omega⟩
        · have d1:(X.Device != x.Device)=true:=X3M hdv
          simp only[d1,jB];rw[if_neg hdv];exact hR (now,s,fd,tm) ⟨t,by simp only;omega⟩
      · simp only[if_true]
        show some (X6l n q q5 n6 b7 l8 n9 r10 r12 fd tm ((X6r n x.Device x.State q.CoRecord.Entries 0 (q.CoRecord.Devices.getD x.Device.toNat ⟨ByteArray.empty,0,0⟩).First (-1)).flatMap fun s=>X8 n (l.map (X27 q.CoRecord)) (X2o n c (X3h s) x.At.Lo x.At.Hi)))=_;have e:X6r n x.Device x.State q.CoRecord.Entries 0 (q.CoRecord.Devices.getD x.Device.toNat ⟨ByteArray.empty,0,0⟩).First (-1)=X6U q.CoRecord x:=if_pos (Nat.zero_le _);rw[e];show _=some (X6l n q q5 n6 b7 l8 n9 r10 r12 fd tm (((X6U q.CoRecord x).map X3h).flatMap fun s=>X8 n (l.map (X27 q.CoRecord)) (X2o n c s x.At.Lo x.At.Hi)));rw[List.flatMap_map]
theorem X5F (q q5:Zc) (n6:Int) (b7:Bool) (l8:List Zr) (n9:Int) (r10 r12:CoRecord) (n:Nat) (e:q.CoRecord.Entries.length=n) (hr:r12.Entries.length=n) (a:n<=10) (b:q.seen.length<=8) (d:∀x∈q.seen,X3L q.CoRecord x) :
    ∀(l:List Zr) (k:Nat),k+l.length=q.seen.length->q.seen.drop k=l->∀(u:Nat->Y2) (ap:List Zb),UBd u->ApK n k ap->∀c,X2c u ap=c->∀(fd:Bool) (tm:Nat->Y2),
      Z9E X5 (l.length+1) (u,(k:Int),ap,q,tm,q5,n6,b7,l8,n9,r10,fd,r12)=some (X6l n q q5 n6 b7 l8 n9 r10 r12 fd tm (X8 n (l.map (X27 q.CoRecord)) c))
  | [],k,hk,hd,u,ap,hu,hap,c,hc,fd,tm=>X4L q q5 n6 b7 l8 n9 r10 r12 n e hr a b d (Z9E X5 0) [] k hk hd (fun _ _ h=>by cases h) u ap hu hap c hc fd tm
  | x::l,k,hk,hd,u,ap,hu,hap,c,hc,fd,tm=>X4L q q5 n6 b7 l8 n9 r10 r12 n e hr a b d (Z9E X5 (l.length+1)) (x::l) k hk hd (fun x' l' h g f=>by
      injection h with _ h
      subst h;exact X5F q q5 n6 b7 l8 n9 r10 r12 n e hr a b d l (k+1) g f) u ap hu hap c hc fd tm
theorem X7J (q q5:Zc) (n6:Int) (b7:Bool) (l8:List Zr) (n9:Int) (r10 r12:CoRecord) (n:Nat) (i:q.CoRecord.Entries.length=n) (hr:r12.Entries.length=n) (a:n<=10) (c:q.seen.length<=8) (e:∀x∈q.seen,X3L q.CoRecord x) (k:Nat) (j:k<=q.seen.length) (u:Nat->Y2) (ap:List Zb) (d:UBd u) (b:ApK n k ap) (fd:Bool) (tm:Nat->Y2) :
    W4 (u,(k:Int),ap,q,tm,q5,n6,b7,l8,n9,r10,fd,r12)=some (X6l n q q5 n6 b7 l8 n9 r10 r12 fd tm (X8 n ((q.seen.drop k).map (X27 q.CoRecord)) (X2c u ap))) :=
  X7m (fun f g h x r hr=>X7A f g h x r hr) (X5F q q5 n6 b7 l8 n9 r10 r12 n i hr a c e (q.seen.drop k) k (by rw[List.length_drop];omega) rfl u ap d b _ rfl fd tm)
end Nore
open Go Go.Ab
namespace Nore
theorem X7I (q q5:Zc) (n6:Int) (b7:Bool) (l8:List Zr) (n9:Int) (r10 r12:CoRecord) (n:Nat) (g:q.CoRecord.Entries.length=n) (hr:r12.Entries.length=n) (a:n<=10) (f:q.seen.length<=8) (b:∀x∈q.seen,X3L q.CoRecord x) (u:Nat->Y2) (d:UBd u) (fd:Bool) (tm:Nat->Y2) :
    W3 (u,0,q,tm,q5,n6,b7,l8,n9,r10,fd,r12)=some (X6l n q q5 n6 b7 l8 n9 r10 r12 fd tm (X8 n (q.seen.map (X27 q.CoRecord)) (X2c u []))):=by
  rw[X2j];exact X4L q q5 n6 b7 l8 n9 r10 r12 n g hr a f b W4 q.seen 0 (by omega) rfl (fun x l' h j i u ap d e c hc fd tm=>by
    rw[X7J q q5 n6 b7 l8 n9 r10 r12 n g hr a f b 1 (by omega) u ap d e,hc,i]) u [] d ⟨Nat.le_refl _,fun s b=>by cases b⟩ _ rfl fd tm
theorem X96 (r:CoRecord) (a:r.Entries.length<=10) (x4:Nat->Y2) (x5:Zc) (x6:Int) (x7:Bool) (x8:List Zr) (x9:Int) (x10:CoRecord) (x11:Zc) (x12:Bool) (x13:CoRecord) :
    WQ r.Entries (r.Entries.length:Int) x4 x5 x6 x7 x8 x9 x10 x11 x12 x13 (0,fun _=>Y2.mk 0 0)=some (X19 r) :=
  X8h r a x5 x5 x7 x5
theorem X5N (q q1:Zc) (tm:Nat->Y2) (n6:Int) (b7:Bool) (l8:List Zr) (n9:Int) (r10 r12:CoRecord) (fd:Bool) (h:X8e q.CoRecord) (hr:r12.Entries.length=q.CoRecord.Entries.length) (a:q.seen.length<=8) (b:∀x∈q.seen,X3L q.CoRecord x) :
    Wg (tm,q1,n6,b7,l8,n9,r10,q,fd,r12)=some (((X8 q.CoRecord.Entries.length (q.seen.map (X27 q.CoRecord)) (X2c (X19 q.CoRecord) [])).foldl (Zd1 q.CoRecord.Entries.length) (fd,tm)).2,q1,n6,b7,l8,n9,r10,q,
      ((X8 q.CoRecord.Entries.length (q.seen.map (X27 q.CoRecord)) (X2c (X19 q.CoRecord) [])).foldl (Zd1 q.CoRecord.Entries.length) (fd,tm)).1,r12):=by
  rw[X2N];unfold XN;simp only[X96 q.CoRecord h.1,jS];rw[X7I q q1 n6 b7 l8 n9 r10 r12 _ rfl hr h.1 a b _ (X8i h)];rfl
end Nore
open Go Go.Ab
namespace Nore
def X3V (i:Nat) (s:Y2) (c:Con):Y2:=⟨if c.lo i<s.Lo then c.lo i else s.Lo,if c.hi i>s.Hi then c.hi i else s.Hi⟩
theorem X7k (n:Nat):∀(L:List Con) (t:Nat->Y2),L.foldl (Zd1 n) (true,t)=(true,fun j=>if j<n then L.foldl (X3V j) (t j)else t j)
  | [],t=>by
    simp only[List.foldl_nil,ite_self]
  | c::L,t=>by
    rw[List.foldl_cons];show L.foldl (Zd1 n) (true,mmN n (spN c.lo c.hi) t)=_;rw[X7k n L];congr 1;funext j
    by_cases h:j<n
    · rw[if_pos h,if_pos h,List.foldl_cons]
      congr 1;unfold mmN;rw[if_pos h];rfl
    · rw[if_neg h,if_neg h]
      unfold mmN;rw[if_neg h]
theorem X8k (n:Nat) (c:Con) (L:List Con) (tm:Nat->Y2):(c::L).foldl (Zd1 n) (false,tm)=(true,fun j=>if j<n then(c::L).foldl (X3V j) ⟨c.lo j,c.hi j⟩else⟨c.lo j,c.hi j⟩):=by
  rw[List.foldl_cons];show L.foldl (Zd1 n) (true,mmN n (spN c.lo c.hi) (spN c.lo c.hi))=_;rw[X7k n L];congr 1;funext j
  by_cases h:j<n
  · rw[if_pos h,if_pos h,List.foldl_cons]
    congr 1;unfold mmN;rw[if_pos h];rfl
  · rw[if_neg h,if_neg h]
    unfold mmN;rw[if_neg h];rfl
def X3U (n:Nat) (L:List Con):List Y2:=(List.range n).map fun j=>L.foldl (X3V j) ⟨(L.headD ⟨fun _=>0,fun _=>0,[]⟩).lo j,(L.headD ⟨fun _=>0,fun _=>0,[]⟩).hi j⟩
structure X68 (r:CoRecord) (l:List Zr):Prop where
  ent:X8e r
  many:l.length<=8
  seen:∀x∈l,X3L r x
theorem X7B (r:CoRecord) (l:List Zr):∀w∈l.map (X27 r),X8J r.Entries.length w:=fun w a=>by
  obtain⟨x,_,rfl⟩:=List.mem_map.1 a;intro s b;obtain⟨t,ht,rfl⟩:=List.mem_map.1 b;exact((X9c x rfl).2 t ht).2
def X3i (r:CoRecord) (l:List Zr):List Con:=X8 r.Entries.length (l.map (X27 r)) (X2c (X19 r) [])
theorem X30 {r:CoRecord} {l:List Zr} (h:X68 r l):X6 ⟨r,l⟩=some (!(X3i r l).isEmpty):=X70 ⟨r,l⟩ h.ent h.many h.seen
def X8b (r:CoRecord) (l:List Zr):List Y2×Int:=if(X3i r l).isEmpty then([],9)else(X3U r.Entries.length (X3i r l),0)
theorem X6A {r:CoRecord} {l:List Zr} (h:X68 r l) (hc:X1T r l=some (⟨r,l⟩,0)):X44 r l=some (X8b r l):=by
  rw[X4n];unfold X1Q;have e0:((0:Int) != 0)=false:=rfl;simp only[hc,jS,e0,jA];rw[X5N ⟨r,l⟩ ⟨r,l⟩ _ 0 false l 0 r r false h.ent rfl h.many h.seen];unfold X8b;show Option.bind (some (((X3i r l).foldl (Zd1 r.Entries.length) (false,fun _=>Y2.mk 0 0)).2,(⟨r,l⟩:Zc),(0:Int),false,l,(0:Int),r,(⟨r,l⟩:Zc),((X3i r l).foldl (Zd1 r.Entries.length) (false,fun _=>Y2.mk 0 0)).1,r)) _=_;have e:=h.ent.1;cases hA:X3i r l with
  | nil=>rfl
  | cons c L =>
    rw[X8k];have c1:decide ((r.Entries.length:Int)<=(10:Int))=true:=by simp;omega
    have c2:Nat.blt 0 2=true:=rfl;have d:((List.map (fun j=>if j<r.Entries.length then(c::L).foldl (X3V j) ⟨c.lo j,c.hi j⟩else⟨c.lo j,c.hi j⟩) (List.range 10)).take r.Entries.length)=X3U r.Entries.length (c::L):=by
      rw[<-List.map_take,List.take_range,Nat.min_eq_left e];unfold X3U;refine List.map_congr_left fun j b=>?_;rw[if_pos (List.mem_range.1 b)];rfl
    have a:(X3U r.Entries.length (c::L)).length=r.Entries.length:=by unfold X3U;simp
    have c3:Nat.ble (r.Entries.length*(16+1)) 100000000000000=true:=by rw[Nat.ble_eq];omega
    simp only[jS,Bool.not_true,jA,z0S,c1,ju,jB,kS,d,List.drop_zero,a,c2,c3];rfl
end Nore
open Go Go.Ab
namespace Nore
theorem Wj (lo up:Int) (l:List Int) (g:l.length<1000000):XZ lo up l=some (X1b lo up l):=by
  rw[X4M];unfold X1V;have key:=X23 (WX (↑l.length) l up lo) (fun o3=>Sum.elim (fun y4:Int=>some (decide (y4>=0))) (fun _=>some (decide ((-1:Int)>=0))) o3) l.length (fun i (_:Unit)=>(i:Int)) (fun _ _=>True) (fun i _=>some (X1b lo up (l.drop i)))
    (by
      intro b _ R;simp[WX,X16,X3Q])
    (by
      intro i b hi _ R e;have a:=e () trivial;simp only[WX,X16];rw[jb hi];simp only[kS,Xg _ _ _ hi,X3c];have c:=wS i (by omega)
      rw[c];have f:decide ((i:Int)<↑l.length)=true:=by simp[hi]
      have d:=z0S i;simp only[f,d,ju,jB]
      by_cases h3:l[i]<lo
      · simp[h3]
      · by_cases h4:l[i]>up
        · simp[h3,h4]
        · simp[h3,h4];exact a)
  exact(key 0 () (by omega) trivial).trans (by simp)
theorem X4i (n lo hi:Int):X4a n lo hi=some (inN n lo hi):=by
  rw[X6O];unfold X3S inN
  by_cases h:lo<=n<;>simp[h]
def WV (r:CoRecord) (dev st:Int) (s:Y2):Int :=
  if X1b 0 ((r.Devices.length:Int)-1) [dev]then 4 else
  if X1b 0 (IntKind.wrap .i64 ((r.Devices.getD dev.toNat (Zm.mk ByteArray.empty 0 0)).States-1)) [st]then 7 else
  if X1b 0 9999 [s.Lo,s.Hi]then 7 else if s.Lo>s.Hi then 2 else 0
theorem X2l {lo hi n:Int} (h:X1b lo hi [n]=false):lo<=n/\n<=hi:=by
  simp only[X3c,X3Q,Bool.or_false,Bool.or_eq_false_iff,decide_eq_false_iff_not]at h;omega
theorem X8D {lo hi n m:Int} (h:X1b lo hi [n,m]=false):lo<=n/\n<=hi/\lo<=m/\m<=hi:=by
  simp only[X3c,X3Q,Bool.or_false,Bool.or_eq_false_iff,decide_eq_false_iff_not]at h;omega
theorem X4o (r:CoRecord) (x:Zr) (hr:r.Devices.length<=1000000):X3Z r x=some (WV r x.Device x.State x.At):=by
  rw[X5R];unfold X2Z;have w1:IntKind.wrap .i64 ((r.Devices.length:Int)-1)=(r.Devices.length:Int)-1:=by rw[w64]<;>omega
  rw[w1,Wj _ _ _ (by simp)]
  simp only[jS];unfold WV;cases h1:X1b 0 ((r.Devices.length:Int)-1) [x.Device]with
  | true=>rfl
  | false =>
    have h:=X2l h1;have c1:decide (0<=x.Device)=true:=by simp[h.1]
    have c2:decide (x.Device<(r.Devices.length:Int))=true:=by simp;omega
    simp only[jA,c1,c2,ju,jB];rw[Wj _ _ _ (by simp)]
    simp only[jS];cases h2:X1b 0 (IntKind.wrap .i64 ((r.Devices.getD x.Device.toNat (Zm.mk ByteArray.empty 0 0)).States-1)) [x.State]with
    | true=>rfl
    | false =>
      simp only[jA];rw[Wj _ _ _ (by simp)]
      simp only[jS];cases h3:X1b 0 9999 [x.At.Lo,x.At.Hi]with
      | true=>rfl
      | false=>by_cases h4:x.At.Lo>x.At.Hi<;>simp[h4]
theorem X7o (r:CoRecord) (dev st:Int) (s:Y2) (hr:r.Devices.length<=1000000):X51 r dev st s=some (WV r dev st s):=by
  rw[X5Y];unfold X36;have w1:IntKind.wrap .i64 ((r.Devices.length:Int)-1)=(r.Devices.length:Int)-1:=by rw[w64]<;>omega
  rw[w1,X4i,X5I];simp only[jS];unfold WV;cases h1:X1b 0 ((r.Devices.length:Int)-1) [dev]with
  | true=>rfl
  | false =>
    have h:=X2l h1;have c1:decide (0<=dev)=true:=by simp[h.1]
    have c2:decide (dev<(r.Devices.length:Int))=true:=by simp;omega
    simp only[Bool.not_false,Bool.not_true,jA,c1,c2,ju,jB];rw[X4i,X5I];simp only[jS];cases h2:X1b 0 (IntKind.wrap .i64 ((r.Devices.getD dev.toNat (Zm.mk ByteArray.empty 0 0)).States-1)) [st]with
    | true=>rfl
    | false =>
      simp only[Bool.not_false,Bool.not_true,jA];unfold X4F;rw[X72 _ _ _ (by simp)]
      simp only[jS,X5L];cases h3:X1b 0 9999 [s.Lo,s.Hi]with
      | true=>rfl
      | false=>by_cases h4:s.Lo>s.Hi<;>simp[h4]
def X1P {α:Type} (f:Nat->α->Int):Nat->List α->Int×Int
  | _,[]=>(0,0)
  | i,x::xs=>if f i x≠0 then((i:Int),f i x)else X1P f (i+1) xs
theorem X31 {α:Type} (f:Nat->α->Int) (i:Nat) (x:α) (xs:List α):X1P f i (x::xs)=if f i x≠0 then((i:Int),f i x)else X1P f (i+1) xs:=rfl
def Xv:Int->Nat->List Zq->Int×Int
  | _,_,[]=>(0,0)
  | least,i,x::xs=>if(if x.At.Lo>least then x.At.Lo else least)>x.At.Hi then((i:Int),9)else Xv (if x.At.Lo>least then x.At.Lo else least) (i+1) xs
theorem X4C (least:Int) (i:Nat) (x:Zq) (xs:List Zq):Xv least i (x::xs)=if(if x.At.Lo>least then x.At.Lo else least)>x.At.Hi then((i:Int),9)else Xv (if x.At.Lo>least then x.At.Lo else least) (i+1) xs:=rfl
def X7E (names:List ByteArray) (d:Zm):Int :=
  if X5n d.Name names≠0 then X5n d.Name names else if X1b 2 4 [d.States]||X1b 0 (IntKind.wrap .i64 (d.States-1)) [d.First]then 7 else 0
def X47 (r:CoRecord):Int×Int:=X1P (fun i d=>X7E ((r.Devices.take i).map (·.Name)) d) 0 r.Devices
def X3g (r:CoRecord):Int×Int:=X1P (fun _ x=>WV r x.Device x.State x.At) 0 r.Entries
def X2z (r:CoRecord):Int×Int×Int :=
  if X1b 1 4 [(r.Devices.length:Int)]||decide ((r.Entries.length:Int)>10)then(1,0,3)else
  if(X47 r).2≠0 then(2,(X47 r).1,(X47 r).2)else
  if(X3g r).2≠0 then(3,(X3g r).1,(X3g r).2)else
  if(Xv 0 0 r.Entries).2≠0 then(3,(Xv 0 0 r.Entries).1,(Xv 0 0 r.Entries).2)else(0,0,0)
def WB (r:CoRecord) (l:List Zr):Int×Int :=
  if(X2z r).2.2≠0 then(0,(X2z r).2.2)else if(l.length:Int)>4 then(0,3)else X1P (fun _ x=>WV r x.Device x.State x.At) 0 l
theorem X6D (r:CoRecord) (d:r.Devices.length<=1000000) (f:r.Entries.length<=1000000):Wa (r.Entries,r)=some ((X3g r).1,(X3g r).2,r):=by
  rw[X2p];unfold Xx WG;refine Eq.trans (X23 _ _ r.Entries.length (fun i (_:Unit)=>(i:Int)) (fun _ _=>True) (fun i _=>some ((X1P (fun _ x=>WV r x.Device x.State x.At) i (r.Entries.drop i)).1,(X1P (fun _ x=>WV r x.Device x.State x.At) i (r.Entries.drop i)).2,r)) ?_ ?_ 0 () (Nat.zero_le _) trivial) rfl
  · intro b _ R
    have e1:decide ((r.Entries.length:Int)<(r.Entries.length:Int))=false:=by simp
    simp only[Xs,Xo,e1,jA,List.drop_length];rfl
  · intro i b hi _ R c
    have a:=c () trivial;have e1:decide ((i:Int)<(r.Entries.length:Int))=true:=by simp[hi]
    have w1:=wS i (by omega)
    rw[jb hi,X31];simp only[Xs,Xo,e1,z0S,kS,ju,jB,Xg _ _ _ hi,X4o r _ d,jS,w1];generalize WV r r.Entries[i].Device r.Entries[i].State r.Entries[i].At=e
    by_cases he:e=0
    · have c1:(e != 0)=false:=by simp[he]
      simp only[c1,jA,if_neg (fun h:e≠0=>h he)];exact a
    · have c1:(e != 0)=true:=X3M he
      simp only[c1,jB,if_pos he];rfl
theorem X6E (r:CoRecord) (l:List Zr) (d:r.Devices.length<=1000000) (f:l.length<=1000000):Wf (l,r)=some ((X1P (fun _ (x:Zr)=>WV r x.Device x.State x.At) 0 l).1,(X1P (fun _ (x:Zr)=>WV r x.Device x.State x.At) 0 l).2,r):=by
  rw[X2J];unfold XJ WP;refine Eq.trans (X23 _ _ l.length (fun i (_:Unit)=>(i:Int)) (fun _ _=>True) (fun i _=>some ((X1P (fun _ (x:Zr)=>WV r x.Device x.State x.At) i (l.drop i)).1,(X1P (fun _ (x:Zr)=>WV r x.Device x.State x.At) i (l.drop i)).2,r)) ?_ ?_ 0 () (Nat.zero_le _) trivial) rfl
  · intro b _ R
    have e1:decide ((l.length:Int)<(l.length:Int))=false:=by simp
    simp only[Xu,Xr,e1,jA,List.drop_length];rfl
  · intro i b hi _ R c
    have a:=c () trivial;have e1:decide ((i:Int)<(l.length:Int))=true:=by simp[hi]
    have w1:=wS i (by omega)
    rw[jb hi,X31];simp only[Xu,Xr,e1,z0S,kS,ju,jB,Xg _ _ _ hi,X4o r _ d,jS,w1];generalize WV r l[i].Device l[i].State l[i].At=e
    by_cases he:e=0
    · have c1:(e != 0)=false:=by simp[he]
      simp only[c1,jA,if_neg (fun h:e≠0=>h he)];exact a
    · have c1:(e != 0)=true:=X3M he
      simp only[c1,jB,if_pos he];rfl
theorem X6b (l:List Zq) (g:l.length<=1000000):∃q,Wb (l,0)=some ((Xv 0 0 l).1,(Xv 0 0 l).2,q):=by
  rw[X2r];unfold Xy WH;simp only
  let k:((Int×Int×Int×Zq×Zq)⊕Int)->Option (Int×Int×Int):=fun o41=>Sum.elim (fun y42=>some (y42.snd.fst,y42.fst,y42.snd.snd.fst)) (fun y43=>some (0,0,y43)) o41
  obtain⟨w,e,d⟩:=WU (X9 l (l.length:Int)) l.length (fun i (b:Int)=>((i:Int),b)) (fun i b=>Xv b i (l.drop i)=Xv 0 0 l) (fun w=>∃q,k w=some ((Xv 0 0 l).1,(Xv 0 0 l).2,q))
    (fun b a=>by
      have e1:decide ((l.length:Int)<(l.length:Int))=false:=by simp
      simp only[X9,Xp,e1,jA];refine⟨_,rfl,b,?_⟩;rw[List.drop_length]at a;rw[<-a];rfl)
    (fun i b hi a=>by
      have e1:decide ((i:Int)<(l.length:Int))=true:=by simp[hi]
      have w1:=wS i (by omega)
      rw[jb hi,X4C]at a;have f:(bif decide (l[i].At.Lo>b)then l[i].At.Lo else b)=(if l[i].At.Lo>b then l[i].At.Lo else b):=by by_cases h:l[i].At.Lo>b<;>simp[h]
      simp only[X9,Xp,e1,z0S,kS,ju,jB,Xg _ _ _ hi,w1,f]
      by_cases hc:(if l[i].At.Lo>b then l[i].At.Lo else b)>l[i].At.Hi
      · left
        rw[if_pos hc]at a;simp only[hc,decide_true,jB];refine⟨_,rfl,(if l[i].At.Lo>b then l[i].At.Lo else b),?_⟩;rw[<-a];rfl
      · right
        rw[if_neg hc]at a;simp only[hc,decide_false,jA];exact⟨_,rfl,a⟩) 0 0 (Nat.zero_le _) rfl
  have c:Z8I (X9 l (l.length:Int)) (0,0)=some w:=e;rw[c];exact d
theorem X7i (l:List Zm) (j:l.length<=1000000) (d:Zm) :
    (∃(i:Nat) (y:Zm),Xn (l.length:Int) l d 0=some (.inl ((i:Int),y))/\d.Name∈l.map (·.Name))\/(Xn (l.length:Int) l d 0=some (.inr ())/\¬d.Name∈l.map (·.Name)):=by
  obtain⟨w,f,e⟩:=WU (Xa (l.length:Int) l d) l.length (fun i (_:Unit)=>(i:Int)) (fun i _=>∀x∈l.take i,x.Name≠d.Name)
    (fun w=>(∃(i:Nat) (y:Zm),w=.inl ((i:Int),y)/\d.Name∈l.map (·.Name))\/(w=.inr ()/\¬d.Name∈l.map (·.Name)))
    (fun _ c=>by
      have e1:decide ((l.length:Int)<(l.length:Int))=false:=by simp
      simp only[Xa,Xm,e1,jA];refine⟨_,rfl,.inr ⟨rfl,fun h=>?_⟩⟩;obtain⟨x,a,g⟩:=List.mem_map.1 h;rw[List.take_length]at c;exact c x a g)
    (fun i _ hi c=>by
      have e1:decide ((i:Int)<(l.length:Int))=true:=by simp[hi]
      have w1:=wS i (by omega)
      simp only[Xa,Xm,e1,z0S,kS,ju,jB,Xg _ _ _ hi,w1]
      by_cases hn:l[i].Name=d.Name
      · left
        have c1:(l[i].Name.toList==d.Name.toList)=true:=by rw[hn];simp
        simp only[c1,jB];exact⟨_,rfl,.inl ⟨i,_,rfl,List.mem_map.2 ⟨l[i],jl hi,hn⟩⟩⟩
      · right
        have c1:(l[i].Name.toList==d.Name.toList)=false:=beq_eq_false_iff_ne.2 fun h=>hn (X7x h);simp only[c1,jA];refine⟨(),by first|rfl|trivial,fun x a=>?_⟩
        rw[List.take_succ_eq_append_getElem hi]at a;rcases List.mem_append.1 a with q|q
        · exact c x q
        · rw[List.mem_singleton.1 q];exact hn) 0 () (Nat.zero_le _) (fun x a=>by simp at a)
  have b:Xn (l.length:Int) l d 0=some w:=f;rcases e with⟨i,y,rfl,h⟩|⟨rfl,h⟩
  · exact .inl ⟨i,y,b,h⟩
  · exact .inr ⟨b,h⟩
theorem X6C (r:CoRecord) (k:r.Devices.length<=1000000):W0 (r.Devices,r)=some ((X47 r).1,(X47 r).2,r):=by
  rw[X2f];unfold Xt Ww;refine Eq.trans (X23 _ _ r.Devices.length (fun i (_:Unit)=>(i:Int)) (fun _ _=>True) (fun i _=>some ((X1P (fun i d=>X7E ((r.Devices.take i).map (·.Name)) d) i (r.Devices.drop i)).1,(X1P (fun i d=>X7E ((r.Devices.take i).map (·.Name)) d) i (r.Devices.drop i)).2,r)) ?_ ?_ 0 () (Nat.zero_le _) trivial) rfl
  · intro b _ R
    have e1:decide ((r.Devices.length:Int)<(r.Devices.length:Int))=false:=by simp
    simp only[Xq,Xl,e1,jA,List.drop_length];rfl
  · intro i b hi _ R h
    have g:=h () trivial;have e1:decide ((i:Int)<(r.Devices.length:Int))=true:=by simp[hi]
    have e2:decide ((i:Int)<=(r.Devices.length:Int))=true:=by simp;omega
    have w1:=wS i (by omega)
    rw[jb hi,X31];simp only[Xq,Xl,e1,e2,z0S,kS,ju,jB,Xg _ _ _ hi,X7C,jS,w1,List.drop_zero];generalize r.Devices[i]=d;have c:X7E ((r.Devices.take i).map (·.Name)) d=if X5X d.Name then(if d.Name∈(r.Devices.take i).map (·.Name)then 5 else if X1b 2 4 [d.States]||X1b 0 (IntKind.wrap .i64 (d.States-1)) [d.First]then 7 else 0)else 6:=by
      unfold X7E X5n;generalize (r.Devices.take i).map (·.Name)=names;cases q1:X5X d.Name with
      | false=>rfl
      | true =>
        by_cases q2:d.Name∈names
        · simp only[q2,if_true];rfl
        · simp only[q2,if_true,if_false];rfl
    rw[c];cases hn:X5X d.Name with
    | false=>rfl
    | true =>
      simp only[Bool.not_true,jA,if_true];have a:(r.Devices.take i).length<=1000000:=by rw[List.length_take];omega
      rcases X7i (r.Devices.take i) a d with⟨j,y,f,e⟩|⟨f,e⟩
      · have c1:decide ((j:Int)>=0)=true:=by simp
        simp only[f,jS,jw,c1,jB,if_pos e];rfl
      · simp only[f,jS,jy,if_neg e]
        rw[Wj _ _ _ (by simp),Wj _ _ _ (by simp)]
        simp only[jS];cases q1:X1b 2 4 [d.States]with
        | true=>rfl
        | false =>
          cases q2:X1b 0 (IntKind.wrap .i64 (d.States-1)) [d.First]with
          | true=>rfl
          | false=>exact g
theorem X6Y (r:CoRecord):X4y r=some (X2z r):=by
  rw[X5g];unfold X2G;rw[Wj _ _ _ (by simp)]
  simp only[jS];unfold X2z;cases q1:X1b 1 4 [(r.Devices.length:Int)]with
  | true=>rfl
  | false =>
    have d:=X2l q1;have b:r.Devices.length<=1000000:=by omega
    by_cases q2:(r.Entries.length:Int)>10
    · simp only[jA,q2,decide_true,jB,Bool.false_or,if_true]
    · have a:r.Entries.length<=1000000:=by omega
      simp only[jA,q2,decide_false,Bool.false_or,X6C r b,jS];simp only[jg,if_false]
      by_cases q3:(X47 r).2=0
      · have c3:((X47 r).2 != 0)=false:=by simp[q3]
        simp only[c3,jA,X6D r b a,jS,if_neg (fun h:(X47 r).2≠0=>h q3)]
        by_cases q4:(X3g r).2=0
        · have c4:((X3g r).2 != 0)=false:=by simp[q4]
          obtain⟨q,c⟩:=X6b r.Entries a;simp only[c4,jA,c,jS,if_neg (fun h:(X3g r).2≠0=>h q4)]
          by_cases q5:(Xv 0 0 r.Entries).2=0
          · have c5:((Xv 0 0 r.Entries).2 != 0)=false:=by simp[q5]
            simp only[c5,jA,if_neg (fun h:(Xv 0 0 r.Entries).2≠0=>h q5)]
          · have c5:((Xv 0 0 r.Entries).2 != 0)=true:=X3M q5
            simp only[c5,jB,if_pos q5]
        · have c4:((X3g r).2 != 0)=true:=X3M q4
          simp only[c4,jB,if_pos q4]
      · have c3:((X47 r).2 != 0)=true:=X3M q3
        simp only[c3,jB,if_pos q3]
end Nore
open Go Go.Ab
namespace Nore
theorem X73 (r:CoRecord):X4G r=some (X2z r):=by
  rw[X5z];unfold X2T;rw[X4i,X5I];simp only[jS];unfold X2z;cases q1:X1b 1 4 [(r.Devices.length:Int)]with
  | true=>rfl
  | false =>
    have n:=X2l q1;have q:r.Devices.length<=4:=by omega
    by_cases q2:(r.Entries.length:Int)>10
    · simp only[Bool.not_false,Bool.not_true,jA,q2,decide_true,jB,Bool.false_or,if_true]
    · have p:r.Entries.length<=10:=by omega
      simp only[Bool.not_false,Bool.not_true,jA,q2,decide_false,Bool.false_or,jg,if_false];unfold X3y;refine Eq.trans (X23 _ _ r.Devices.length (fun i (b:List ByteArray)=>((i:Int),b)) (fun i b=>b=(r.Devices.take i).map (·.Name))
        (fun i _=>if(X1P (fun i d=>X7E ((r.Devices.take i).map (·.Name)) d) i (r.Devices.drop i)).2≠0 then some (2,(X1P (fun i d=>X7E ((r.Devices.take i).map (·.Name)) d) i (r.Devices.drop i)).1,(X1P (fun i d=>X7E ((r.Devices.take i).map (·.Name)) d) i (r.Devices.drop i)).2)else
          some (if(X3g r).2≠0 then(3,(X3g r).1,(X3g r).2)else if(Xv 0 0 r.Entries).2≠0 then(3,(Xv 0 0 r.Entries).1,(Xv 0 0 r.Entries).2)else(0,0,0))) ?_ ?_ 0 [] (Nat.zero_le _) rfl) ?_
      · intro b _ R
        have e1:decide ((r.Devices.length:Int)<(r.Devices.length:Int))=false:=by simp
        simp only[X1Z,X1s,e1,jA,List.drop_length];show Option.bind (X2C r 0) _=some (if(X3g r).2≠0 then(3,(X3g r).1,(X3g r).2)else if(Xv 0 0 r.Entries).2≠0 then(3,(Xv 0 0 r.Entries).1,(Xv 0 0 r.Entries).2)else(0,0,0));unfold X2C;refine Eq.trans (X23 _ _ r.Entries.length (fun i (_:Unit)=>(i:Int)) (fun _ _=>True)
          (fun i _=>some (if(X1P (fun _ (x:Zq)=>WV r x.Device x.State x.At) i (r.Entries.drop i)).2≠0 then(3,(X1P (fun _ (x:Zq)=>WV r x.Device x.State x.At) i (r.Entries.drop i)).1,(X1P (fun _ (x:Zq)=>WV r x.Device x.State x.At) i (r.Entries.drop i)).2)else if(Xv 0 0 r.Entries).2≠0 then(3,(Xv 0 0 r.Entries).1,(Xv 0 0 r.Entries).2)else(0,0,0))) ?_ ?_ 0 () (Nat.zero_le _) trivial) rfl
        · intro b _ R
          have e1:decide ((r.Entries.length:Int)<(r.Entries.length:Int))=false:=by simp
          simp only[X20,X1t,e1,jA,List.drop_length];show Option.bind (X2D r (0,0)) _=some (if(Xv 0 0 r.Entries).2≠0 then(3,(Xv 0 0 r.Entries).1,(Xv 0 0 r.Entries).2)else(0,0,0));unfold X2D;refine Eq.trans (X23 _ _ r.Entries.length (fun i (b:Int)=>((i:Int),b)) (fun _ _=>True)
            (fun i b=>some (if(Xv b i (r.Entries.drop i)).2≠0 then(3,(Xv b i (r.Entries.drop i)).1,(Xv b i (r.Entries.drop i)).2)else(0,0,0))) ?_ ?_ 0 0 (Nat.zero_le _) trivial) rfl
          · intro b _ R
            simp only[X21,X1u,e1,jA,List.drop_length];rfl
          · intro i b hi _ R c
            have e1:decide ((i:Int)<(r.Entries.length:Int))=true:=by simp[hi]
            have w1:=wS i (by omega)
            have o:(bif decide (r.Entries[i].At.Lo>b)then r.Entries[i].At.Lo else b)=(if r.Entries[i].At.Lo>b then r.Entries[i].At.Lo else b):=by by_cases h:r.Entries[i].At.Lo>b<;>simp[h]
            rw[jb hi,X4C];simp only[X21,X1u,e1,z0S,kS,ju,jB,Xg _ _ _ hi,w1,o]
            by_cases hc:(if r.Entries[i].At.Lo>b then r.Entries[i].At.Lo else b)>r.Entries[i].At.Hi
            · rw[if_pos hc]
              simp only[hc,decide_true,jB];rfl
            · rw[if_neg hc]
              simp only[hc,decide_false,jA];exact c _ trivial
        · intro i b hi _ R c
          have m:=c () trivial;have e1:decide ((i:Int)<(r.Entries.length:Int))=true:=by simp[hi]
          have w1:=wS i (by omega)
          rw[jb hi,X31];simp only[X20,X1t,e1,z0S,kS,ju,jB,Xg _ _ _ hi,X7o r _ _ _ (by omega:r.Devices.length<=1000000),jS,w1]
          generalize WV r r.Entries[i].Device r.Entries[i].State r.Entries[i].At=e
          by_cases he:e=0
          · have c1:(e != 0)=false:=by simp[he]
            simp only[c1,jA,if_neg (fun h:e≠0=>h he)];exact m
          · have c1:(e != 0)=true:=X3M he
            simp only[c1,jB,if_pos he];rfl
      · intro i b hi j R c
        have e1:decide ((i:Int)<(r.Devices.length:Int))=true:=by simp[hi]
        have w1:=wS i (by omega)
        have f:b.length=i:=by rw[j,List.length_map,List.length_take];omega
        have b1:Nat.ble ((i+1)*(16+1)) 200000000000000=true:=by rw[Nat.ble_eq];omega
        have g:=X7n r.Devices[i].Name b (by omega)
        have a:=c ((r.Devices.take (i+1)).map (·.Name)) rfl;rw[jb hi,X31];simp only[X1Z,X1s,e1,z0S,kS,ju,jB,Xg _ _ _ hi,g,jS,w1,f,List.length_singleton,b1];have k:b++[r.Devices[i].Name]=(r.Devices.take (i+1)).map (·.Name):=by rw[j,List.take_succ_eq_append_getElem hi,List.map_append];rfl
        rw[<-j];have l:X7E b r.Devices[i]=if X5n r.Devices[i].Name b≠0 then X5n r.Devices[i].Name b else if X1b 2 4 [r.Devices[i].States]||X1b 0 (IntKind.wrap .i64 (r.Devices[i].States-1)) [r.Devices[i].First]then 7 else 0:=rfl;rw[l];generalize X5n r.Devices[i].Name b=e
        by_cases he:e=0
        · have c1:(e==0)=true:=by simp[he]
          have c2:(e != 0)=false:=by simp[he]
          simp only[c1,c2,jB,jA,if_neg (fun h:e≠0=>h he),X4i,X5I,jS,Bool.not_not];cases q5:X1b 2 4 [r.Devices[i].States]with
          | true=>rfl
          | false =>
            simp only[jA,Bool.false_or];cases q6:X1b 0 (IntKind.wrap .i64 (r.Devices[i].States-1)) [r.Devices[i].First]with
            | true=>rfl
            | false =>
              simp only[jA];rw[k];exact a
        · have c1:(e==0)=false:=X3k he
          have c2:(e != 0)=true:=X3M he;simp only[c1,c2,jB,jA,if_pos he];rfl
      · simp only[List.drop_zero]
        show(if(X47 r).2≠0 then some (2,(X47 r).1,(X47 r).2)else some (if(X3g r).2≠0 then(3,(X3g r).1,(X3g r).2)else if(Xv 0 0 r.Entries).2≠0 then(3,(Xv 0 0 r.Entries).1,(Xv 0 0 r.Entries).2)else(0,0,0)))=some (if(X47 r).2≠0 then(2,(X47 r).1,(X47 r).2)else if(X3g r).2≠0 then(3,(X3g r).1,(X3g r).2)else if(Xv 0 0 r.Entries).2≠0 then(3,(Xv 0 0 r.Entries).1,(Xv 0 0 r.Entries).2)else(0,0,0))
        by_cases q3:(X47 r).2=0
        · simp only[ne_eq,q3,not_true_eq_false,if_false]
        · simp only[ne_eq,q3,not_false_eq_true,if_true]
structure X4w (r:CoRecord):Prop where
  devs:1<=r.Devices.length/\r.Devices.length<=4
  many:r.Entries.length<=10
  dev:∀d∈r.Devices,(2<=d.States/\d.States<=4)/\0<=d.First/\d.First<d.States
  ent:∀x∈r.Entries,WV r x.Device x.State x.At=0
  order:Xv 0 0 r.Entries=(0,0)
theorem X5H {α:Type} (f:Nat->α->Int):∀(l:List α) (i:Nat),(X1P f i l).2=0->∀(j:Nat) (h:j<l.length),f (i+j) l[j]=0
  | x::xs,i,h,j,hj=>by
    rw[X31]at h
    by_cases he:f i x=0
    · rw[if_neg (fun q=>q he)]at h
      cases j with
      | zero=>exact he
      | succ j =>
        have:=X5H f xs (i+1) h j (by simpa using hj)
        rw[show i+(j+1)=i+1+j by omega]
        exact this
    · rw[if_pos he]at h
      exact absurd h he
theorem X7S:∀(l:List Zq) (a:Int) (i:Nat),(Xv a i l).2=0->Xv a i l=(0,0)
  | [],_,_,_=>rfl
  | x::xs,a,i,h=>by
    rw[X4C]at h⊢
    by_cases hc:(if x.At.Lo>a then x.At.Lo else a)>x.At.Hi
    · rw[if_pos hc]at h
      exact absurd h (by simp)
    · rw[if_neg hc]at h⊢
      exact X7S xs _ _ h
theorem X7f {r:CoRecord} (h:(X2z r).2.2=0):X4w r:=by
  unfold X2z at h;cases q1:X1b 1 4 [(r.Devices.length:Int)]with
  | true=>rw[q1]at h;exact absurd h (by simp)
  | false =>
    have b:=X2l q1
    by_cases q2:(r.Entries.length:Int)>10
    · simp only[q1,q2,decide_true,Bool.or_true,if_true]at h;exact absurd h (by simp)
    · simp only[q1,q2,decide_false,Bool.or_self,jg,if_false]at h
      by_cases q3:(X47 r).2=0
      · rw[if_neg (fun k=>k q3)]at h
        by_cases q4:(X3g r).2=0
        · rw[if_neg (fun k=>k q4)]at h
          by_cases q5:(Xv 0 0 r.Entries).2=0
          · refine⟨by omega,by omega,fun d b=>?_,fun x c=>?_,X7S _ _ _ q5⟩
            · obtain⟨j,a,rfl⟩:=List.getElem_of_mem b
              have:=X5H _ _ 0 q3 j a;simp only[X7E]at this;split at this
              · rename_i k;exact absurd this k
              · split at this
                · exact absurd this (by simp)
                · rename_i k
                  simp only[Bool.or_eq_true,not_or,Bool.not_eq_true]at k;have k1:=X2l k.1;have k2:=X2l k.2;rw[w64 (by omega) (by omega)]at k2
                  omega
            · obtain⟨j,a,rfl⟩:=List.getElem_of_mem c
              exact X5H _ _ 0 q4 j a
          · rw[if_pos q5]at h;exact absurd h q5
        · rw[if_pos q4]at h;exact absurd h q4
      · rw[if_pos q3]at h;exact absurd h q3
theorem X76 {r:CoRecord} {x:Zr} (h:WV r x.Device x.State x.At=0):X3L r x/\0<=x.At.Lo/\x.At.Lo<=x.At.Hi/\x.At.Hi<=9999:=by
  unfold WV at h;cases q1:X1b 0 ((r.Devices.length:Int)-1) [x.Device]with
  | true=>rw[q1]at h;exact absurd h (by simp)
  | false =>
    rw[q1]at h;have k1:=X2l q1;cases q2:X1b 0 (IntKind.wrap .i64 ((r.Devices.getD x.Device.toNat (Zm.mk ByteArray.empty 0 0)).States-1)) [x.State]with
    | true=>rw[q2]at h;exact absurd h (by simp)
    | false =>
      rw[q2]at h;cases q3:X1b 0 9999 [x.At.Lo,x.At.Hi]with
      | true=>rw[q3]at h;exact absurd h (by simp)
      | false =>
        rw[q3]at h;have k3:=X8D q3
        by_cases q4:x.At.Lo>x.At.Hi
        · simp only[jg,if_false,q4,if_true]at h;exact absurd h (by simp)
        · exact⟨⟨by omega,by omega,by omega⟩,by omega,by omega,by omega⟩
theorem X9m {r:CoRecord} (h:X4w r):X8e r:=⟨h.many,fun x a=>by
  have:=(X76 (x:=⟨x.Device,x.State,x.At⟩) (h.ent x a)).2;simp only at this;omega⟩
theorem X6n {r:CoRecord} {l:List Zr} (h:(WB r l).2=0):X4w r/\l.length<=4/\∀x∈l,WV r x.Device x.State x.At=0:=by
  unfold WB at h
  by_cases q1:(X2z r).2.2=0
  · rw[if_neg (fun k=>k q1)]at h
    by_cases q2:(l.length:Int)>4
    · rw[if_pos q2]at h;exact absurd h (by simp)
    · rw[if_neg q2]at h
      refine⟨X7f q1,by omega,fun x b=>?_⟩
      obtain⟨j,a,rfl⟩:=List.getElem_of_mem b;exact X5H _ _ 0 h j a
  · rw[if_pos q1]at h;exact absurd h q1
theorem X62 {r:CoRecord} {l:List Zr} (h:(WB r l).2=0):X68 r l:=by
  obtain⟨a,d,b⟩:=X6n h;exact⟨X9m a,by omega,fun x c=>(X76 (b x c)).1⟩
theorem X5M (r:CoRecord) (l:List Zr):X3r r l=some (WB r l):=by
  rw[X4l];unfold X1m;rw[X6Y r];simp only[jS];unfold WB
  by_cases q1:(X2z r).2.2=0
  · have c1:((X2z r).2.2 != 0)=false:=by simp[q1]
    have hr:=(X7f q1).devs;simp only[c1,jA,if_neg (fun h:(X2z r).2.2≠0=>h q1)]
    by_cases q2:(l.length:Int)>4
    · simp only[q2,decide_true,jB,if_true]
    · simp only[q2,decide_false,jA,if_false,X6E r l (by omega) (by omega),jS]
  · have c1:((X2z r).2.2 != 0)=true:=X3M q1
    simp only[c1,jB,if_pos q1]
theorem X1R (r:CoRecord) (l:List Zr):X1T r l=some (⟨r,l⟩,(WB r l).2):=by
  rw[X5l];unfold X2I;rw[X5M r l];rfl
end Nore
open Go Go.Ab
namespace Nore
end Nore
open Go Go.Ab
namespace Nore
def X61 (r:CoRecord) (l:List Zr):Bool×Int:=if(WB r l).2≠0 then(false,(WB r l).2)else(!(X3i r l).isEmpty,0)
def X7v (r:CoRecord) (l:List Zr):List Y2×Int:=if(WB r l).2≠0 then([],(WB r l).2)else X8b r l
theorem X55 (r:CoRecord) (l:List Zr):X43 r l=some (X61 r l):=by
  rw[X5e];unfold X2F;rw[X1R r l];simp only[jS];unfold X61
  by_cases q:(WB r l).2=0
  · have c:((WB r l).2 != 0)=false:=by simp[q]
    simp only[c,jA,if_neg (fun h:(WB r l).2≠0=>h q),X30 (X62 q),jS]
  · have c:((WB r l).2 != 0)=true:=X3M q
    simp only[c,jB,if_pos q]
theorem X6Z (r:CoRecord) (l:List Zr):X44 r l=some (X7v r l):=by
  by_cases q:(WB r l).2=0
  · rw[X6A (X62 q) (by rw[X1R,q])]
    unfold X7v;rw[if_neg (fun h=>h q)]
  · rw[X4n];unfold X1Q
    rw[X1R r l];have c:((WB r l).2 != 0)=true:=X3M q;unfold X7v;simp only[jS,c,jB,if_pos q]
end Nore
namespace Nore
def Wh (r:CoRecord) (l:List Zr):Bool := !(X3i r l).isEmpty
end Nore
open Go Go.Ab
namespace Nore
def WT {α:Type} (m:Nat):Nat->List α->List α
  | _,[]=>[]
  | i,x::xs=>if m.testBit i then WT m (i+1) xs else x::WT m (i+1) xs
def WO {α:Type} (m:Nat):Nat->List α->List Int
  | _,[]=>[]
  | i,x::xs=>if m.testBit i then(i:Int)::WO m (i+1) xs else WO m (i+1) xs
theorem X22 {α:Type} (m i:Nat) (x:α) (xs:List α):WT m i (x::xs)=if m.testBit i then WT m (i+1) xs else x::WT m (i+1) xs:=rfl
theorem X2E {α:Type} (m i:Nat) (x:α) (xs:List α):WO m i (x::xs)=if m.testBit i then(i:Int)::WO m (i+1) xs else WO m (i+1) xs:=rfl
theorem X66 {α:Type} (m:Nat):∀(l:List α) (i:Nat),∀x∈WT m i l,x∈l
  | y::l,i,x,h=>by
    rw[X22]at h;split at h
    · exact List.mem_cons_of_mem _ (X66 m l _ x h)
    · rcases jv.1 h with rfl|h
      · exact List.mem_cons_self
      · exact List.mem_cons_of_mem _ (X66 m l _ x h)
theorem X65 {α:Type} (m:Nat):∀(l:List α) (i:Nat),(WT m i l).length<=l.length
  | [],_=>Nat.le_refl _
  | y::l,i=>by
    have:=X65 m l (i+1);rw[X22];split
    · simp only[List.length_cons];omega
    · simp only[List.length_cons];omega
theorem X6I {α:Type} (m:Nat):∀(l:List α) (i:Nat),(WO m i l).length<=l.length
  | [],_=>Nat.le_refl _
  | y::l,i=>by
    have:=X6I m l (i+1);rw[X2E];split
    · simp only[List.length_cons];omega
    · simp only[List.length_cons];omega
theorem X7q {α:Type} (m N:Nat):∀(l:List α) (i:Nat),i+l.length<=N->WT (m % 2 ^ N) i l=WT m i l
  | [],_,_=>rfl
  | y::l,i,h=>by
    simp only[List.length_cons]at h;rw[X22,X22,X7q m N l (i+1) (by omega),Nat.testBit_mod_two_pow]
    have:decide (i<N)=true:=by simp;omega
    rw[this,Bool.true_and]
theorem X7V {α:Type} (m N:Nat):∀(l:List α) (i:Nat),i+l.length<=N->WO (m % 2 ^ N) i l=WO m i l
  | [],_,_=>rfl
  | y::l,i,h=>by
    simp only[List.length_cons]at h;rw[X2E,X2E,X7V m N l (i+1) (by omega),Nat.testBit_mod_two_pow]
    have:decide (i<N)=true:=by simp;omega
    rw[this,Bool.true_and]
theorem X6Q {α:Type} (N:Nat):∀(l:List α) (i:Nat),i+l.length<=N->WT (2 ^ N-1) i l=[]
  | [],_,_=>rfl
  | y::l,i,h=>by
    simp only[List.length_cons]at h;rw[X22,Nat.testBit_two_pow_sub_one];have:decide (i<N)=true:=by simp;omega
    rw[this,if_pos rfl];exact X6Q N l (i+1) (by omega)
theorem X6R {α:Type} (m:Nat) (x:α):∀(l:List α) (i:Nat),WT m i (l++[x])=WT m i l++if m.testBit (i+l.length)then []else [x]
  | [],i=>by rw[List.nil_append,X22];rfl
  | y::l,i=>by
    rw[List.cons_append,X22,X22,X6R m x l (i+1),show i+(y::l).length=i+1+l.length by simp only[List.length_cons];omega]
    split
    · rfl
    · rfl
theorem X7t {α:Type} (m:Nat) (x:α):∀(l:List α) (i:Nat),WO m i (l++[x])=WO m i l++if m.testBit (i+l.length)then [((i+l.length:Nat):Int)]else []
  | [],i=>by rw[List.nil_append,X2E];rfl
  | y::l,i=>by
    rw[List.cons_append,X2E,X2E,X7t m x l (i+1),show i+(y::l).length=i+1+l.length by simp only[List.length_cons];omega]
    split
    · rfl
    · rfl
theorem X9o (m i:Nat) (a:m<16) (hi:i<4):(IntKind.wrap .i64 (↑(BitVec.toNat (BitVec.ofInt (IntKind.bits .i64) (Int.fdiv (m:Int) (2 ^ min i (IntKind.bits .i64))) &&& BitVec.ofInt (IntKind.bits .i64) 1)):Int)==0) = !m.testBit i:=by
  have:∀m:Fin 16,∀i:Fin 4,(IntKind.wrap .i64 (↑(BitVec.toNat (BitVec.ofInt (IntKind.bits .i64) (Int.fdiv (m.val:Int) (2 ^ min i.val (IntKind.bits .i64))) &&& BitVec.ofInt (IntKind.bits .i64) 1)):Int)==0) = !m.val.testBit i.val:=by decide +kernel
  exact this ⟨m,a⟩ ⟨i,hi⟩
def X6x:List Int->List Int->Int
  | [],[]=>0
  | [],_::_ => -1
  | _::_,[]=>1
  | a::s,b::t=>if a<b then -1 else if a>b then 1 else X6x s t
theorem X5G (a b:Int) (s t:List Int):X6x (a::s) (b::t)=if a<b then -1 else if a>b then 1 else X6x s t:=rfl
theorem X8j (a b:List Int) (f:a.length<=1000000):WW a b=some (X6x a b):=by
  unfold WW X1e;refine Eq.trans (X23 _ _ a.length (fun i (_:Unit)=>(i:Int)) (fun i _=>i<=b.length) (fun i _=>some (X6x (a.drop i) (b.drop i))) ?_ ?_ 0 () (Nat.zero_le _) (Nat.zero_le _)) rfl
  · intro _ d R
    have e1:decide ((a.length:Int)<(a.length:Int))=false:=by simp
    simp only[XW,XF,e1,jA,List.drop_length,jS,jy]
    by_cases h:a.length<b.length
    · have c:decide ((a.length:Int)<(b.length:Int))=true:=by simp;omega
      rw[c,jb h];rfl
    · have c:decide ((a.length:Int)<(b.length:Int))=false:=by simp;omega
      rw[c,jd (by omega)]
      rfl
  · intro i _ hi d R e
    have e1:decide ((i:Int)<(a.length:Int))=true:=by simp;omega
    have w1:=wS i (by omega)
    simp only[XW,XF,e1,z0S,kS,ju,jB,Xg _ _ _ hi,w1];rw[jb hi]
    by_cases h:i<b.length
    · have c1:decide ((i:Int)>=(b.length:Int))=false:=by simp;omega
      have c2:decide ((i:Int)<(b.length:Int))=true:=by simp;omega
      rw[jb h,X5G];simp only[c1,c2,jB,jA,Xg _ _ _ h,X3q];have b1:∀a:Int,(a != a)=false:=fun a=>by simp
      simp only[b1,jA]
      by_cases h1:a[i]<b[i]
      · simp only[h1,decide_true,jB,jS,if_true]
        rfl
      · by_cases h2:a[i]>b[i]
        · simp only[h1,h2,decide_true,decide_false,jB,jA,jS,if_true,if_false]
          rfl
        · simp only[h1,h2,decide_false,jA,jS,if_false]
          exact e () (by omega)
    · have c1:decide ((i:Int)>=(b.length:Int))=true:=by simp;omega
      rw[jd (by omega:b.length<=i)]
      simp only[c1,jB];rfl
theorem X80 (l:List Zr) (v:l.length<=4) (m:Nat) (t:m<16) (fd:Bool) (best:List Int) :
    (∃p,X1F (m:Int) l (l.length:Int) fd best (0,[],[])=some (.inl p)/\fd=true/\best.length<(WO m 0 l).length) ∨
    (X1F (m:Int) l (l.length:Int) fd best (0,[],[])=some (.inr (WT m 0 l,WO m 0 l))/\(fd=true->(WO m 0 l).length<=best.length)):=by
  obtain⟨w,r,o⟩:=WU (X1h (m:Int) l (l.length:Int) fd best) l.length (fun i (b:List Zr×List Int)=>((i:Int),b.1,b.2))
    (fun i b=>b.1=WT m 0 (l.take i)/\b.2=WO m 0 (l.take i)/\(fd=true->b.2.length<=best.length))
    (fun w=>(∃p,w=.inl p/\fd=true/\best.length<(WO m 0 l).length)\/(w=.inr (WT m 0 l,WO m 0 l)/\(fd=true->(WO m 0 l).length<=best.length)))
    (fun b d=>by
      obtain⟨q1,q2,q3⟩:=d;rw[List.take_length]at q1 q2;have e1:decide ((l.length:Int)<(l.length:Int))=false:=by simp
      exact⟨.inr (b.1,b.2),by simp only[X1h,X1o,e1,jA],.inr ⟨by rw[q1,q2],by rw[<-q2];exact q3⟩⟩)
    (fun i b hi d=>by
      obtain⟨q1,q2,q3⟩:=d;obtain⟨br,bs⟩:=b;simp only at q1 q2 q3;have e1:decide ((i:Int)<(l.length:Int))=true:=by simp;omega
      have e2:decide ((i:Int)<0)=false:=by simp
      have w1:=wS i (by omega)
      have ht:l.take (i+1)=l.take i++[l[i]]:=List.take_succ_eq_append_getElem hi;have n:(l.take i).length=i:=by rw[List.length_take];omega
      have s:br.length<=i:=by rw[q1];have:=X65 m (l.take i) 0;omega
      have q:bs.length<=i:=by rw[q2];have:=X6I m (l.take i) 0;omega
      have b1:Nat.ble ((br.length+1)*(32+1)) 200000000000000=true:=by rw[Nat.ble_eq];omega
      have b2:Nat.ble ((bs.length+1)*(8+1)) 200000000000000=true:=by rw[Nat.ble_eq];omega
      have hr:=X6R m l[i] (l.take i) 0;have j:=X7t m l[i] (l.take i) 0;rw[<-ht,n,Nat.zero_add]at hr j;simp only[X1h,X1o,e1,e2,z0S,kS,ju,jB,jA,Xg _ _ _ hi,w1,X9o m i t (by omega),b1,b2,List.length_singleton]
      cases d:m.testBit i with
      | false =>
        right;rw[d]at hr j;simp only[Bool.not_false,jB];refine⟨(br++[l[i]],bs),rfl,?_,?_,q3⟩
        · rw[hr,q1];rfl
        · rw[j,q2];simp
      | true =>
        rw[d]at hr j;simp only[Bool.not_true,jA];have e:br=WT m 0 (l.take (i+1)):=by rw[hr,q1];simp
        have c:bs++[(i:Int)]=WO m 0 (l.take (i+1)):=by rw[j,q2];simp
        cases fd with
        | false =>
          right;exact⟨(br,bs++[(i:Int)]),rfl,e,c,fun h=>by cases h⟩
        | true =>
          by_cases hc:((bs++[(i:Int)]).length:Int)>(best.length:Int)
          · left
            simp only[hc,decide_true,jB];refine⟨_,rfl,.inl ⟨_,rfl,by first|rfl|trivial,?_⟩⟩
            have u:(WO m 0 (l.take (i+1))).length<=(WO m 0 l).length:=by
              have:∀(a b:List Zr) (k:Nat),(WO m k a).length<=(WO m k (a++b)).length:=by
                intro a
                induction a with
                | nil=>intro b k;exact Nat.zero_le _
                | cons x a ih =>
                  intro b k;rw[List.cons_append,X2E,X2E];split
                  · simp only[List.length_cons];exact Nat.succ_le_succ (ih b (k+1))
                  · exact ih b (k+1)
              have h:=this (l.take (i+1)) (l.drop (i+1)) 0
              rwa [List.take_append_drop]at h
            rw[c]at hc;omega
          · right
            simp only[hc,decide_false,jB,jA];exact⟨(br,bs++[(i:Int)]),rfl,e,c,fun _=>by show(bs++[(i:Int)]).length<=best.length;omega⟩) 0 ([],[]) (Nat.zero_le _) ⟨rfl,rfl,fun _=>Nat.zero_le _⟩
  have f:X1F (m:Int) l (l.length:Int) fd best (0,[],[])=some w:=r;rcases o with⟨p,rfl,g1,g2⟩|⟨rfl,g⟩
  · exact .inl ⟨p,f,g1,g2⟩
  · exact .inr ⟨f,g⟩
def Z3z (a b:List Int):Prop:=a.length<b.length\/(a.length=b.length/\X6x a b<=0)
structure X4k (r:CoRecord) (l:List Zr) (k:Nat) (fd:Bool) (best:List Int):Prop where
  yes:fd=true->∃m,m<k/\best=WO m 0 l/\Wh r (WT m 0 l)=true
  least:fd=true->∀m,m<k->Wh r (WT m 0 l)=true->Z3z best (WO m 0 l)
  no:fd=false->best=[]/\∀m,m<k->Wh r (WT m 0 l)=false
theorem X7g:∀{a b c:List Int},X6x a b<=0->X6x b c<=0->X6x a c<=0
  | [],[],[],_,_=>by decide
  | [],_,_::_,_,_=>by show(-1:Int)<=0;decide
  | [],_::_,[],_,h=>absurd h (by show ¬(1:Int)<=0;decide)
  | _::_,[],_,h,_=>absurd h (by show ¬(1:Int)<=0;decide)
  | _::_,_::_,[],_,h=>absurd h (by show ¬(1:Int)<=0;decide)
  | x::a,y::b,z::c,h1,h2=>by
    rw[X5G]at h1 h2⊢
    by_cases e1:x<y
    · by_cases e2:y<z
      · rw[if_pos (by omega)];decide
      · rw[if_neg e2]at h2
        by_cases e3:y>z
        · rw[if_pos e3]at h2;omega
        · rw[if_pos (by omega)];decide
    · rw[if_neg e1]at h1
      by_cases e4:x>y
      · rw[if_pos e4]at h1;omega
      · rw[if_neg e4]at h1
        by_cases e2:y<z
        · rw[if_pos (by omega)];decide
        · rw[if_neg e2]at h2
          by_cases e3:y>z
          · rw[if_pos e3]at h2;omega
          · rw[if_neg e3]at h2
            rw[if_neg (by omega),if_neg (by omega)]
            exact X7g h1 h2
theorem X7P:∀a:List Int,X6x a a=0
  | []=>rfl
  | x::a=>by rw[X5G,if_neg (Int.lt_irrefl x),if_neg (Int.lt_irrefl x),X7P a]
theorem X7O:∀(a b:List Int),X6x a b>0->X6x b a<=0
  | [],[],h=>absurd h (by decide)
  | [],_::_,h=>absurd h (by show ¬(-1:Int)>0;decide)
  | _::_,[],_=>by show(-1:Int)<=0;decide
  | x::a,y::b,h=>by
    rw[X5G]at h⊢
    by_cases e1:x<y
    · rw[if_pos e1]at h;omega
    · rw[if_neg e1]at h
      by_cases e2:x>y
      · rw[if_pos (by omega)];decide
      · rw[if_neg e2]at h
        rw[if_neg (by omega),if_neg (by omega)]
        exact X7O a b h
theorem X8z (a:List Int):Z3z a a:=.inr ⟨rfl,by rw[X7P];exact Int.le_refl 0⟩
theorem X8g {a b c:List Int} (e:Z3z a b) (d:Z3z b c):Z3z a c:=by
  rcases e with e|⟨e,g⟩<;>rcases d with d|⟨d,f⟩
  · exact .inl (by omega)
  · exact .inl (by omega)
  · exact .inl (by omega)
  · exact .inr ⟨by omega,X7g g f⟩
theorem X7Z (r:CoRecord) (l:List Zr) (y:l.length<=4) (u:X68 r l) :
    ∃fd best,X3s ((2 ^ l.length:Nat):Int) l r (0,false,[])=some best/\X4k r l (2 ^ l.length) fd best:=by
  have h16:2 ^ l.length<=16:=by
    have:2 ^ l.length<=2 ^ 4:=Nat.pow_le_pow_right (by omega) y
    omega
  obtain⟨w,h1,fd,z⟩:=WU (X1g ((2 ^ l.length:Nat):Int) l r) (2 ^ l.length) (fun k (b:Bool×List Int)=>((k:Int),b.1,b.2)) (fun k b=>X4k r l k b.1 b.2) (fun w=>∃fd,X4k r l (2 ^ l.length) fd w)
    (fun b g=>⟨b.2,by
      have e1:decide (((2 ^ l.length:Nat):Int)<((2 ^ l.length:Nat):Int))=false:=by simp
      simp only[X1g,X1n,e1,jA],b.1,g⟩)
    (fun k b hk g=>by
      right;obtain⟨fd,best⟩:=b;simp only at g;have e1:decide ((k:Int)<((2 ^ l.length:Nat):Int))=true:=by rw[jk];exact Int.ofNat_lt.2 hk
      have w1:=wS k (by omega)
      have n:X68 r (WT k 0 l):=⟨u.ent,Nat.le_trans (X65 _ _ _) u.many,fun x i=>u.seen x (X66 _ _ _ x i)⟩;have t:X6 ⟨r,WT k 0 l⟩=some (Wh r (WT k 0 l)):=X30 n;have keep:fd=true->Z3z best (WO k 0 l)->X4k r l (k+1) fd best:=fun d f=>⟨fun h=>by
          obtain⟨m,a,b,c⟩:=g.yes h;exact⟨m,by omega,b,c⟩,fun h m q j=>by
          by_cases e:m=k
          · subst e;exact f
          · exact g.least h m (by omega) j,fun h=>by rw[d]at h;cases h⟩
      have drop:Wh r (WT k 0 l)=false->X4k r l (k+1) fd best:=fun j=>⟨fun h=>by
          obtain⟨m,a,b,c⟩:=g.yes h;exact⟨m,by omega,b,c⟩,fun h m q i=>by
          by_cases e:m=k
          · subst e;rw[j]at i;cases i
          · exact g.least h m (by omega) i,fun h=>⟨(g.no h).1,fun m q=>by
          by_cases e:m=k
          · subst e;exact j
          · exact(g.no h).2 m (by omega)⟩⟩
      have take:Wh r (WT k 0 l)=true->(fd=true->Z3z (WO k 0 l) best)->X4k r l (k+1) true (WO k 0 l):=fun j f=>⟨fun _=>⟨k,by omega,rfl,j⟩,fun _ m q i=>by
          by_cases e:m=k
          · subst e;exact X8z _
          · cases d:fd with
            | true=>exact X8g (f d) (g.least d m (by omega) i)
            | false=>rw[(g.no d).2 m (by omega)]at i;(cases i),fun h=>by cases h⟩
      simp only[X1g,X1n,e1,jB,w1];rcases X80 l y k (by omega) fd best with⟨p,v,d,f⟩|⟨v,o⟩
      · simp only[v,jS,jw]
        exact⟨(fd,best),rfl,keep d (.inl f)⟩
      · simp only[v,jS,jy,t]
        have fin:(fd=true->Z3z (WO k 0 l) best)->∃b':Bool×List Int,(bif Wh r (WT k 0 l)then some (Sum.inl (((k+1:Nat):Int),true,WO k 0 l))else some (Sum.inl (((k+1:Nat):Int),fd,best)))=(some (Sum.inl (((k+1:Nat):Int),b'.1,b'.2)):Option ((Int×Bool×List Int)⊕List Int))/\X4k r l (k+1) b'.1 b'.2:=fun s=>by
          cases j:Wh r (WT k 0 l)with
          | true=>exact⟨(true,WO k 0 l),rfl,take j s⟩
          | false=>exact⟨(fd,best),rfl,drop j⟩
        cases d:fd with
        | false =>
          simp only[jA];have:=fin (fun h=>by rw[d]at h;cases h)
          rw[d]at this;exact this
        | true =>
          have o:=o d;simp only[jB]
          by_cases hlen:(WO k 0 l).length=best.length
          · have c1:(((WO k 0 l).length:Int)==(best.length:Int))=true:=by simp[hlen]
            have hc:=X8j (WO k 0 l) best (by have:=X6I k l 0;omega)
            simp only[c1,jB,hc,jS]
            by_cases hgt:X6x (WO k 0 l) best>0
            · simp only[hgt,decide_true,jB]
              refine⟨(true,best),rfl,?_⟩;have:=keep d (.inr ⟨hlen.symm,X7O _ _ hgt⟩);rw[d]at this;exact this
            · simp only[hgt,decide_false,jA]
              have:=fin (fun _=>.inr ⟨hlen,by omega⟩)
              rw[d]at this;exact this
          · have c1:(((WO k 0 l).length:Int)==(best.length:Int))=false:=X3k (by omega)
            simp only[c1,jA];have:=fin (fun _=>.inl (by omega))
            rw[d]at this;exact this) 0 (false,[]) (Nat.zero_le _) ⟨fun h=>(by cases h),fun h=>(by cases h),fun _=>⟨rfl,fun m q=>by omega⟩⟩
  exact⟨fd,w,h1,z⟩
end Nore
open Go Go.Ab
namespace Nore
theorem X6H:∀(l:List Zq) (a:Int) (i:Nat),Xv a i l=(0,0)->∃x:Nat->Int,(∀j (h:j<l.length),l[j].At.Lo<=x j/\x j<=l[j].At.Hi/\a<=x j)/\∀j,j+1<l.length->x j<=x (j+1)
  | [],_,_,_=>⟨fun _=>0,fun j h=>by simp at h,fun j h=>by simp at h⟩
  | e::l,a,i,h=>by
    rw[X4C]at h
    by_cases hc:(if e.At.Lo>a then e.At.Lo else a)>e.At.Hi
    · rw[if_pos hc]at h
      have:=congrArg Prod.snd h;simp at this
    · rw[if_neg hc]at h
      obtain⟨x,d,f⟩:=X6H l _ _ h;generalize hm:(if e.At.Lo>a then e.At.Lo else a)=m at hc d;have b:e.At.Lo<=m/\a<=m:=by rw[<-hm];split<;>omega
      refine⟨fun j=>if j=0 then m else x (j-1),fun j c=>?_,fun j c=>?_⟩
      · cases j with
        | zero=>exact⟨b.1,by simp only[if_true];show m<=e.At.Hi;omega,b.2⟩
        | succ j =>
          have:=d j (by simpa using c)
          simp only[Nat.add_one_ne_zero,if_false,Nat.add_sub_cancel,List.getElem_cons_succ];omega
      · cases j with
        | zero =>
          have:=d 0 (by simpa using c)
          simp only[if_true,Nat.add_one_ne_zero,if_false];exact this.2.2
        | succ j =>
          have:=f j (by simpa using c)
          simp only[Nat.add_one_ne_zero,if_false,Nat.add_sub_cancel];exact this
theorem X8f {r:CoRecord} (h:X4w r):Wh r []=true:=by
  unfold Wh X3i;have b:X8 r.Entries.length (([]:List Zr).map (X27 r)) (X2c (X19 r) [])≠[]:=by
    rw[X5w (X7B r []) (fun p a=>by cases a)]
    obtain⟨x,d,c⟩:=X6H r.Entries 0 0 h.order;have e:∀i (hi:i<r.Entries.length),(X2c (X19 r) []).lo i=r.Entries[i].At.Lo/\(X2c (X19 r) []).hi i=r.Entries[i].At.Hi:=fun i hi=>by
      show((r.Entries.getD i (Zq.mk 0 0 (Y2.mk 0 0))).At).Lo=_/\((r.Entries.getD i (Zq.mk 0 0 (Y2.mk 0 0))).At).Hi=_;rw[Xg _ _ _ hi];exact⟨rfl,rfl⟩
    exact⟨x,⟨⟨fun i hi=>by rw[(e i hi).1];exact(d i hi).1,fun i hi=>c i hi,fun p a=>by cases a⟩,⟨fun i hi=>by rw[(e i hi).2];exact(d i hi).2.1,fun i hi=>c i hi,fun p a=>by cases a⟩⟩,fun w f=>by cases f⟩
  cases hq:X8 r.Entries.length (([]:List Zr).map (X27 r)) (X2c (X19 r) [])with
  | nil=>exact absurd hq b
  | cons=>rfl
theorem X7h {r:CoRecord} {l:List Zr} (h:(WB r l).2=0) :
    ∃m,X45 r l=some (WO m 0 l,0)/\Wh r (WT m 0 l)=true/\∀m',Wh r (WT m' 0 l)=true->Z3z (WO m 0 l) (WO m' 0 l):=by
  obtain⟨hr,f,_⟩:=X6n h;obtain⟨fd,best,i,d⟩:=X7Z r l f (X62 h);have b:fd=true:=by
    cases hf:fd with
    | true=>rfl
    | false =>
      have:=(d.no hf).2 (2 ^ l.length-1) (by have:=Nat.two_pow_pos l.length;omega)
      rw[X6Q l.length l 0 (by omega),X8f hr]at this
      cases this
  obtain⟨m,j,rfl,g⟩:=d.yes b;refine⟨m,?_,g,fun m' h'=>?_⟩
  · rw[X5j];unfold X2H
    rw[X1R];have c:((WB r l).2 != 0)=false:=by simp[h]
    have a:IntKind.wrap .i64 (1*2 ^ min (Int.toNat (l.length:Int)) (IntKind.bits .i64))=((2 ^ l.length:Nat):Int):=by
      have:∀n:Fin 5,IntKind.wrap .i64 (1*2 ^ min (Int.toNat (n.val:Int)) (IntKind.bits .i64))=((2 ^ n.val:Nat):Int):=by decide +kernel
      exact this ⟨l.length,by omega⟩
    simp only[jS,c,jA,a,i]
  · have e:=Nat.two_pow_pos l.length
    have:=d.least b (m' % 2 ^ l.length) (Nat.mod_lt _ e);rw[X7q m' l.length l 0 (by omega),X7V m' l.length l 0 (by omega)]at this
    exact this h'
theorem X6L {α:Type} (f:Nat->α->Int):∀(l:List α) (i:Nat),(∀x∈l,∀j,f j x=0)->X1P f i l=(0,0)
  | [],_,_=>rfl
  | x::l,i,h=>by
    rw[X31,if_neg (fun q=>q (h x (by simp) i))]
    exact X6L f l (i+1) fun y hy=>h y (by simp[hy])
theorem X9i {r:CoRecord} {l:List Zr} (a:(X2z r).2.2=0) (d:l.length<=4) (b:∀x∈l,WV r x.Device x.State x.At=0):WB r l=(0,0):=by
  unfold WB;rw[if_neg (fun q=>q a),if_neg (by omega)]
  exact X6L _ l 0 fun x c _=>b x c
end Nore
open Go Go.Ab
namespace Nore
def X4e (dev t:Int) (ms:Nat->Int):List Zq->Nat->Int->Int
  | [],_,now=>now
  | x::xs,i,now=>X4e dev t ms xs (i+1) (if x.Device=dev/\ms i<=t then x.State else now)
theorem X4d (dev t:Int) (ms:Nat->Int) (x:Zq) (xs:List Zq) (i:Nat) (now:Int):X4e dev t ms (x::xs) i now=X4e dev t ms xs (i+1) (if x.Device=dev/\ms i<=t then x.State else now):=rfl
theorem X5B (dev t:Int) (ms:Nat->Int):∀(e:List Zq) (i:Nat) (now:Int),(∀j,i<=j->j<i+e.length->t<ms j)->X4e dev t ms e i now=now
  | [],_,_,_=>rfl
  | x::e,i,now,h=>by
    have c:=h i (Nat.le_refl _) (by simp only[List.length_cons];omega)
    rw[X4d,if_neg (fun q=>by omega)]
    exact X5B dev t ms e (i+1) now fun j b a=>h j (by omega) (by simp only[List.length_cons];omega)
theorem X6j {n:Nat} {ms:Nat->Int} (h:X7K n ms):∀(d i:Nat),i+d<n->ms i<=ms (i+d)
  | 0,_,_=>Int.le_refl _
  | d+1,i,hi=>Int.le_trans (X6j h d i (by omega)) (h (i+d) (by omega))
theorem X5D {n:Nat} {ms:Nat->Int} (d:X7K n ms) (dev t st lo hi:Int) (c:lo<=t) (b:t<=hi):∀(e:List Zq) (i:Nat) (now fr:Int),i+e.length=n -> -1<=fr->fr<i->(0<=fr->ms fr.toNat<=t)->X4e dev t ms e i now=st →
    ∃s∈X6J dev st e i now fr,X7L n ms (X3h s) lo hi
  | [],i,now,fr,hn,h1,h2,h3,a=>by
    simp only[List.length_nil,Nat.add_zero]at hn;have a:now=st:=a;rw[X5C,if_pos a];refine⟨_,List.mem_singleton.2 rfl,fun h=>?_,fun h=>?_,fun _ h=>?_⟩
    · exact Int.le_trans (h3 h) b
    · simp only[X3h,kS]at h;omega
    · simp only[X3h,kS]at h;omega
  | x::e,i,now,fr,hn,h1,h2,h3,a=>by
    simp only[List.length_cons]at hn;rw[X4d]at a;rw[X4U]
    by_cases hd:x.Device=dev
    · rw[if_pos hd]
      by_cases hit:ms i<=t
      · rw[if_pos ⟨hd,hit⟩]at a
        obtain⟨s,g1,g2⟩:=X5D d dev t st lo hi c b e (i+1) x.State i (by omega) (by omega) (by omega) (fun _=>by rw[kS];exact hit) a
        exact⟨s,List.mem_append.2 (.inr g1),g2⟩
      · rw[if_neg (fun q=>hit q.2)]at a
        have f:X4e dev t ms e (i+1) now=now:=X5B dev t ms e (i+1) now fun j j1 j2=>by
          have:=X6j d (j-i) i (by omega)
          rw[show i+(j-i)=j by omega]at this
          omega
        rw[f]at a;refine⟨⟨fr,i⟩,List.mem_append.2 (.inl ?_),fun h=>?_,fun h=>?_,fun h h'=>?_⟩
        · rw[if_pos a];exact List.mem_singleton.2 rfl
        · exact Int.le_trans (h3 h) b
        · simp only[X3h,kS]at h⊢;omega
        · have:=h3 h
          simp only[X3h,kS]at h'⊢;omega
    · rw[if_neg hd]
      rw[if_neg (fun q=>hd q.1)]at a;exact X5D d dev t st lo hi c b e (i+1) now fr (by omega) h1 (by omega) h3 a
def X6F (r:CoRecord) (dev:Int):Int:=(r.Devices.getD dev.toNat ⟨ByteArray.empty,0,0⟩).First
def X6v (r:CoRecord) (ms:Nat->Int):Prop:=Sol r.Entries.length (X2c (X19 r) []) ms
def X67 (r:CoRecord) (ms:Nat->Int) (x:Zr):Prop:=∃t,x.At.Lo<=t/\t<=x.At.Hi/\X4e x.Device t ms r.Entries 0 (X6F r x.Device)=x.State
theorem X8c {r:CoRecord} {l:List Zr} {ms:Nat->Int} (b:X6v r ms) (f:∀x∈l,X67 r ms x):Wh r l=true:=by
  have a:X8 r.Entries.length (l.map (X27 r)) (X2c (X19 r) [])≠[]:=by
    rw[X5w (X7B r l) (fun p c=>by cases c)]
    refine⟨ms,b,fun w d=>?_⟩;obtain⟨x,i,rfl⟩:=List.mem_map.1 d;obtain⟨t,j,e,g⟩:=f x i;obtain⟨s,g1,g2⟩:=X5D b.1.2.1 x.Device t x.State x.At.Lo x.At.Hi j e r.Entries 0 (X6F r x.Device) (-1) (by omega) (by omega) (by omega) (fun h=>by omega) g
    exact⟨X3h s,List.mem_map.2 ⟨s,g1,rfl⟩,g2⟩
  unfold Wh X3i;cases hq:X8 r.Entries.length (l.map (X27 r)) (X2c (X19 r) [])with
  | nil=>exact absurd hq a
  | cons=>rfl
end Nore
open Go Go.Ab
namespace Nore
def X94 (r:CoRecord) (ms:Nat->Int) (x:Zr):Prop:=∃s∈X6U r x,X7L r.Entries.length ms (X3h s) x.At.Lo x.At.Hi
def TrN (r:CoRecord) (l:List Zr) (ms:Nat->Int):Prop:=X6v r ms/\∀x∈l,X94 r ms x
theorem X7y {r:CoRecord} {l:List Zr} {ms:Nat->Int}:X95 r.Entries.length (X2c (X19 r) []) (l.map (X27 r)) ms↔TrN r l ms:=by
  constructor
  · rintro⟨c,b⟩
    refine⟨c,fun x e=>?_⟩;obtain⟨s,d,a⟩:=b (X27 r x) (List.mem_map.2 ⟨x,e,rfl⟩);obtain⟨t,ht,rfl⟩:=List.mem_map.1 d;exact⟨t,ht,a⟩
  · rintro⟨c,b⟩
    refine⟨c,fun w f=>?_⟩;obtain⟨x,e,rfl⟩:=List.mem_map.1 f;obtain⟨s,d,a⟩:=b x e;exact⟨X3h s,List.mem_map.2 ⟨s,d,rfl⟩,a⟩
theorem X7b (r:CoRecord):X6W r.Entries.length (X2c (X19 r) []).ap:=fun p a=>by cases a
theorem X8y {r:CoRecord} {l:List Zr}:Wh r l=true↔∃ms,TrN r l ms:=by
  have h:=X5w (X7B r l) (X7b r);unfold Wh X3i;constructor
  · intro b
    have:X8 r.Entries.length (l.map (X27 r)) (X2c (X19 r) [])≠[]:=fun e=>by rw[e]at b;cases b
    obtain⟨ms,a⟩:=h.1 this;exact⟨ms,X7y.1 a⟩
  · rintro⟨ms,a⟩
    have:=h.2 ⟨ms,X7y.2 a⟩;cases b:X8 r.Entries.length (l.map (X27 r)) (X2c (X19 r) [])with
    | nil=>exact absurd b this
    | cons=>rfl
theorem X7N (j:Nat):∀(L:List Con) (s:Y2),((L.foldl (X3V j) s).Lo=s.Lo\/∃d∈L,(L.foldl (X3V j) s).Lo=d.lo j)/\((L.foldl (X3V j) s).Hi=s.Hi\/∃d∈L,(L.foldl (X3V j) s).Hi=d.hi j) ∧
    (L.foldl (X3V j) s).Lo<=s.Lo/\s.Hi<=(L.foldl (X3V j) s).Hi/\∀d∈L,(L.foldl (X3V j) s).Lo<=d.lo j/\d.hi j<=(L.foldl (X3V j) s).Hi
  | [],s=>⟨.inl rfl,.inl rfl,Int.le_refl _,Int.le_refl _,fun d a=>by cases a⟩
  | c::L,s=>by
    rw[List.foldl_cons];obtain⟨e,b,h,g,f⟩:=X7N j L (X3V j s c);have a1:(X3V j s c).Lo=s.Lo\/(X3V j s c).Lo=c.lo j:=by
      unfold X3V;simp only;split
      · exact .inr rfl
      · exact .inl rfl
    have a2:(X3V j s c).Hi=s.Hi\/(X3V j s c).Hi=c.hi j:=by
      unfold X3V;simp only;split
      · exact .inr rfl
      · exact .inl rfl
    have a3:(X3V j s c).Lo<=s.Lo/\(X3V j s c).Lo<=c.lo j:=by
      unfold X3V;simp only;split<;>omega
    have a4:s.Hi<=(X3V j s c).Hi/\c.hi j<=(X3V j s c).Hi:=by
      unfold X3V;simp only;split<;>omega
    refine⟨?_,?_,by omega,by omega,fun d a=>?_⟩
    · rcases e with e|⟨d,a,e⟩
      · rcases a1 with a1|a1
        · exact .inl (by rw[e,a1])
        · exact .inr ⟨c,by simp,by rw[e,a1]⟩
      · exact .inr ⟨d,by simp[a],e⟩
    · rcases b with b|⟨d,a,b⟩
      · rcases a2 with a2|a2
        · exact .inl (by rw[b,a2])
        · exact .inr ⟨c,by simp,by rw[b,a2]⟩
      · exact .inr ⟨d,by simp[a],b⟩
    · rcases jv.1 a with rfl|a
      · omega
      · exact f d a
structure X9n (r:CoRecord) (l:List Zr) (j:Nat) (s:Y2):Prop where
  lo:∃ms,TrN r l ms/\ms j=s.Lo
  hi:∃ms,TrN r l ms/\ms j=s.Hi
  all:∀ms,TrN r l ms->s.Lo<=ms j/\ms j<=s.Hi
theorem X7w (n:Nat) (L:List Con):(X3U n L).length=n:=by unfold X3U;simp
theorem X8H {r:CoRecord} {l:List Zr} (h:Wh r l=true) (j:Nat) (u:j<(X3U r.Entries.length (X3i r l)).length):X9n r l j (X3U r.Entries.length (X3i r l))[j]:=by
  have k:j<r.Entries.length:=by rw[X7w]at u;exact u
  have n:X3i r l≠[]:=fun e=>by unfold Wh at h;rw[e]at h;cases h
  have t:=X4Y (l.map (X27 r)) (X2c (X19 r) []) (X7B r l) (X7b r);have w:=X5v (l.map (X27 r)) (X2c (X19 r) []) (X7B r l) (X7b r);have i:(X3U r.Entries.length (X3i r l))[j]=(X3i r l).foldl (X3V j) ⟨((X3i r l).headD ⟨fun _=>0,fun _=>0,[]⟩).lo j,((X3i r l).headD ⟨fun _=>0,fun _=>0,[]⟩).hi j⟩:=by
    unfold X3U;simp
  rw[i];have a:(X3i r l).headD ⟨fun _=>0,fun _=>0,[]⟩∈X3i r l:=by
    cases hA:X3i r l with
    | nil=>exact absurd hA n
    | cons c L=>exact List.mem_cons_self
  generalize (X3i r l).headD ⟨fun _=>0,fun _=>0,[]⟩=c0 at a;obtain⟨g,f,z,h4,y⟩:=X7N j (X3i r l) ⟨c0.lo j,c0.hi j⟩;have p:∃d∈X3i r l,((X3i r l).foldl (X3V j) ⟨c0.lo j,c0.hi j⟩).Lo=d.lo j:=by
    rcases g with g|g
    · exact⟨c0,a,g⟩
    · exact g
  have s:∃d∈X3i r l,((X3i r l).foldl (X3V j) ⟨c0.lo j,c0.hi j⟩).Hi=d.hi j:=by
    rcases f with f|f
    · exact⟨c0,a,f⟩
    · exact f
  obtain⟨d,v,e1⟩:=p;obtain⟨d',q,e2⟩:=s;refine⟨⟨d.lo,X7y.1 (t d v).1,e1.symm⟩,⟨d'.hi,X7y.1 (t d' q).2.1,e2.symm⟩,fun ms m=>?_⟩;obtain⟨b,x,o⟩:=w ms (X7y.2 m);have:=o j k;have:=y b x;omega
theorem X7u {n:Nat} {ms:Nat->Int} (f:X7K n ms) (dev t st lo hi:Int) (d:lo=t) (b:hi=t):∀(e:List Zq) (i:Nat) (now fr:Int),i+e.length=n -> -1<=fr->fr<i →
    (∃s∈X6J dev st e i now fr,X7L n ms (X3h s) lo hi)->X4e dev t ms e i now=st
  | [],i,now,fr,hn,h1,h2,⟨s,a,hq⟩=>by
    rw[X5C]at a;split at a
    · rename_i h;exact h
    · cases a
  | x::e,i,now,fr,hn,h1,h2,⟨s,a,hq⟩=>by
    simp only[List.length_cons]at hn;rw[X4d];rw[X4U]at a
    by_cases hd:x.Device=dev
    · rw[if_pos hd]at a
      rcases List.mem_append.1 a with q|q
      · split at q
        · rename_i c
          rw[List.mem_singleton.1 q]at hq;have o:=hq.2.1 (by simp only[X3h,kS];omega)
          simp only[X3h,kS]at o;rw[if_neg (fun k=>by have:=k.2;omega)]
          rw[X5B dev t ms e (i+1) now fun j j1 j2=>by
            have:=X6j f (j-i) i (by omega)
            rw[show i+(j-i)=j by omega]at this
            omega]
          exact c
        · cases q
      · have g:∀(e:List Zq) (k:Nat) (now:Int) (fr:Int),0<=fr->fr<k->∀s∈X6J dev st e k now fr,fr<=s.from_:=by
          intro e
          induction e with
          | nil =>
            intro k now fr m _ s a;rw[X5C]at a;split at a
            · rw[List.mem_singleton.1 a];exact Int.le_refl _
            · cases a
          | cons y e ih =>
            intro k now fr m u s a;rw[X4U]at a;split at a
            · rcases List.mem_append.1 a with w|w
              · split at w
                · rw[List.mem_singleton.1 w];exact Int.le_refl _
                · cases w
              · have:=ih (k+1) y.State k (by omega) (by omega) s w
                omega
            · exact ih (k+1) now fr m (by omega) s a
        have r:=g e (i+1) x.State i (by omega) (by omega) s q
        have p:=(X78 dev st n e (i+1) x.State i (by omega) (by omega) (by omega)).2 s q
        have o:ms s.from_.toNat<=hi:=hq.1 (by show 0<=s.from_;omega)
        have l:=X6j f (s.from_.toNat-i) i (by omega)
        rw[show i+(s.from_.toNat-i)=s.from_.toNat by omega]at l
        rw[if_pos ⟨hd,by omega⟩]
        exact X7u f dev t st lo hi d b e (i+1) x.State i (by omega) (by omega) (by omega) ⟨s,q,hq⟩
    · rw[if_neg hd]at a
      rw[if_neg (fun k=>hd k.1)];exact X7u f dev t st lo hi d b e (i+1) now fr (by omega) h1 (by omega) ⟨s,a,hq⟩
def X4I (r:CoRecord) (ms:Nat->Int) (dev t:Int):Int:=X4e dev t ms r.Entries 0 (X6F r dev)
theorem X8Q {r:CoRecord} {ms:Nat->Int} (h:X6v r ms) (dev st t:Int):X94 r ms ⟨dev,st,⟨t,t⟩⟩↔X4I r ms dev t=st:=by
  constructor
  · intro a
    exact X7u h.1.2.1 dev t st t t rfl rfl r.Entries 0 (X6F r dev) (-1) (by omega) (by omega) (by omega) a
  · intro a
    exact X5D h.1.2.1 dev t st t t (Int.le_refl _) (Int.le_refl _) r.Entries 0 (X6F r dev) (-1) (by omega) (by omega) (by omega) (fun h=>by omega) a
end Nore
open Go Go.Ab
namespace Nore
def X8v (l:List Int) (n:Nat):Int:=if l.length=0 then 0 else l.getD (n % l.length) 0
theorem X93 (l:List Int) (h:∀v∈l,0<=v/\v<=65535) (n:Nat):X4X l (n:Int)=some (X8v l n)/\0<=X8v l n/\X8v l n<=65535:=by
  rw[X5U];unfold X35 X8v
  by_cases h0:l.length=0
  · simp[h0]
  · have a:n % l.length<l.length:=Nat.mod_lt _ (by omega)
    have e0:((l.length:Int)==0)=false:=X3k (by omega)
    have e1:Int.tmod (n:Int) (l.length:Int)=((n % l.length:Nat):Int):=by
      rw[Int.tmod_eq_emod_of_nonneg (by omega)];rfl
    have c1:decide ((0:Int)<=((n % l.length:Nat):Int))=true:=by rw[jk];omega
    have c2:decide (((n % l.length:Nat):Int)<(l.length:Int))=true:=by rw[jk];omega
    have hv:=h _ (jl a);have w:IntKind.wrap .i64 l[n % l.length]=l[n % l.length]:=by rw[w64]<;>omega
    simp only[e0,jA,e1,c1,c2,ju,jB,kS,Xg _ _ _ a,w,if_neg h0];exact⟨by first|rfl|trivial,hv⟩
theorem X8V (lo hi v:Int) (d:0<=lo) (b:lo<=hi) (e:hi<=1000000) (hv:0<=v/\v<=65535):∃m,X4z ⟨lo,hi⟩ v=some m/\lo<=m/\m<=hi:=by
  rw[X5r];unfold X2R;have w1:IntKind.wrap .i64 (hi-lo)=hi-lo:=by rw[w64]<;>omega
  have w2:IntKind.wrap .i64 (hi-lo+1)=hi-lo+1:=by rw[w64]<;>omega
  have c:(hi-lo+1==0)=false:=X3k (by omega)
  have a:Int.tmod v (hi-lo+1)=v % (hi-lo+1):=Int.tmod_eq_emod_of_nonneg hv.1;have g1:=Int.emod_nonneg v (by omega:hi-lo+1≠0)
  have g2:=Int.emod_lt_of_pos v (by omega:0<hi-lo+1)
  have w3:IntKind.wrap .i64 (lo+v % (hi-lo+1))=lo+v % (hi-lo+1):=by rw[w64]<;>omega
  simp only[w1,w2,c,jA,a,w3];exact⟨_,rfl,by omega,by omega⟩
theorem X8A {r:CoRecord} (h:X4w r) (i:Nat) (hi:i<r.Entries.length):0<=r.Entries[i].At.Lo/\r.Entries[i].At.Lo<=r.Entries[i].At.Hi/\r.Entries[i].At.Hi<=9999:=by
  have:=(X76 (x:=⟨r.Entries[i].Device,r.Entries[i].State,r.Entries[i].At⟩) (h.ent _ (jl hi))).2;simpa using this
theorem X91 {r:CoRecord} (h:X4w r) (i k:Nat) (f:i<=k) (c:k<r.Entries.length):(r.Entries[i]'(by omega)).At.Lo<=r.Entries[k].At.Hi:=by
  obtain⟨x,a,e⟩:=X6H r.Entries 0 0 h.order;have b:X7K r.Entries.length x:=fun j d=>e j d;have g1:=(a i (by omega)).1
  have g2:=(a k c).2.1;have g3:=X6j b (k-i) i (by omega)
  rw[show i+(k-i)=k by omega]at g3
  omega
theorem X98 {r:CoRecord} (h:X4w r) (i:Nat) (hi:i<r.Entries.length):∃m,X33 r (((i+1:Nat):Int),r.Entries[i].At.Hi)=some m/\(∀k (a:k<r.Entries.length),i<=k->m<=r.Entries[k].At.Hi)/\∃k,∃a:k<r.Entries.length,i<=k/\m=r.Entries[k].At.Hi:=by
  obtain⟨w,l,g⟩:=WU (WZ r) r.Entries.length (fun k (b:Int)=>((k:Int),b))
    (fun k b=>i<k/\(∀j (c:j<r.Entries.length),i<=j->j<k->b<=r.Entries[j].At.Hi)/\∃j,∃c:j<r.Entries.length,i<=j/\b=r.Entries[j].At.Hi)
    (fun w=>(∀k (a:k<r.Entries.length),i<=k->w<=r.Entries[k].At.Hi)/\∃k,∃a:k<r.Entries.length,i<=k/\w=r.Entries[k].At.Hi)
    (fun b d=>⟨b,by simp[WZ,X18],fun k a f=>d.2.1 k a f a,d.2.2⟩)
    (fun k b a d=>by
      right;obtain⟨q0,q1,q2⟩:=d;have e1:decide ((k:Int)<(r.Entries.length:Int))=true:=by simp;omega
      have w1:=wS k (by have:=h.many;omega)
      simp only[WZ,X18,e1,z0S,kS,ju,jB,Xg _ _ _ a,w1]
      by_cases hc:r.Entries[k].At.Hi<b
      · simp only[hc,decide_true,jB]
        refine⟨_,rfl,by omega,fun j c j1 j2=>?_,k,a,by omega,rfl⟩
        by_cases e:j=k
        · subst e;exact Int.le_refl _
        · have:=q1 j c j1 (by omega);omega
      · simp only[hc,decide_false,jA]
        refine⟨_,rfl,by omega,fun j c j1 j2=>?_,q2⟩
        by_cases e:j=k
        · subst e;omega
        · exact q1 j c j1 (by omega)) (i+1) r.Entries[i].At.Hi (by omega) ⟨by omega,fun j c j1 j2=>by
      have:j=i:=by omega
      subst this;exact Int.le_refl _,i,hi,Nat.le_refl _,rfl⟩
  exact⟨w,l,g⟩
theorem X8w {r:CoRecord} (h:X4w r) (x:Za) (hx:∀v∈x.Minutes,0<=v/\v<=65535) :
    ∃out,X2V r x=some out/\out.length=r.Entries.length/\X6v r (fun j=>out.getD j 0)/\∀v∈out,0<=v/\v<=9999:=by
  rw[X4P];unfold X1W;obtain⟨w,h1,h2⟩:=WU (WY x r) r.Entries.length (fun i (b:Int×List Int)=>((i:Int),b.1,b.2))
    (fun i b=>b.2.length=i/\(∀v∈b.2,0<=v/\v<=9999)/\0<=b.1/\(∀k (hk:k<r.Entries.length),i<=k->b.1<=r.Entries[k].At.Hi)/\(∀j (a:j<i) (z:j<r.Entries.length),r.Entries[j].At.Lo<=b.2.getD j 0/\b.2.getD j 0<=r.Entries[j].At.Hi/\b.2.getD j 0<=b.1)/\∀j,j+1<i->b.2.getD j 0<=b.2.getD (j+1) 0)
    (fun w=>w.length=r.Entries.length/\(∀v∈w,0<=v/\v<=9999)/\(∀j (a:j<r.Entries.length),r.Entries[j].At.Lo<=w.getD j 0/\w.getD j 0<=r.Entries[j].At.Hi)/\∀j,j+1<r.Entries.length->w.getD j 0<=w.getD (j+1) 0)
    (fun b c=>⟨b.2,by simp[WY,X17],c.1,c.2.1,fun j a=>⟨(c.2.2.2.2.1 j a a).1,(c.2.2.2.2.1 j a a).2.1⟩,c.2.2.2.2.2⟩)
    (fun i b hi c=>by
      right;obtain⟨before,out⟩:=b;obtain⟨q1,q2,q3,q4,q5,q6⟩:=c;simp only at q1 q2 q3 q4 q5 q6;have hn:=h.many;have e1:decide ((i:Int)<(r.Entries.length:Int))=true:=by simp;omega
      have w1:=wS i (by omega)
      obtain⟨m,hm,t,k0,n,g,hm2⟩:=X98 h i hi;have hbd:=X8A h i hi;have hk0b:=X8A h k0 n;have ha:=X91 h i k0 g n;have hb4:=q4 k0 n g;have hf:(bif decide (r.Entries[i].At.Lo>before)then r.Entries[i].At.Lo else before)=(if r.Entries[i].At.Lo>before then r.Entries[i].At.Lo else before):=by by_cases q:r.Entries[i].At.Lo>before<;>simp[q]
      have f:r.Entries[i].At.Lo<=(if r.Entries[i].At.Lo>before then r.Entries[i].At.Lo else before)/\before<=(if r.Entries[i].At.Lo>before then r.Entries[i].At.Lo else before)/\(if r.Entries[i].At.Lo>before then r.Entries[i].At.Lo else before)<=m:=by
        split<;>omega
      generalize hF:(if r.Entries[i].At.Lo>before then r.Entries[i].At.Lo else before)=first at hf f
      obtain⟨t1,t2,t3⟩:=X93 x.Minutes hx i;have l:(bif decide (m>first)then m else first)=m:=by
        by_cases q:m>first
        · simp[q]
        · simp[q];omega
      have o:X3w first m=some ⟨first,m⟩:=by rw[X42];rfl
      obtain⟨v,hv,hv1,hv2⟩:=X8V first m (X8v x.Minutes i) (by omega) (by omega) (by omega) ⟨t2,t3⟩
      have b1:Nat.ble ((i+1)*(8+1)) 200000000000000=true:=by rw[Nat.ble_eq];omega
      simp only[WY,X17,e1,z0S,kS,ju,jB,Xg _ _ _ hi,w1,hm,jS,hf,l,o,t1,hv,q1,List.length_singleton,b1];have hvi:=t i hi (Nat.le_refl _);have d:∀j,j<i->(out++[v]).getD j 0=out.getD j 0:=fun j a=>by
        simp only[List.getD_eq_getElem?_getD,List.getElem?_append_left (by omega:j<out.length)]
      have s:(out++[v]).getD i 0=v:=by
        simp only[List.getD_eq_getElem?_getD,<-q1];simp
      refine⟨(v,out++[v]),rfl,by simp[q1],fun u y=>?_,by show 0<=v;omega,fun k hk hik=>?_,fun j a z=>?_,fun j a=>?_⟩
      · rcases List.mem_append.1 y with y|y
        · exact q2 u y
        · rw[List.mem_singleton.1 y];omega
      · have:=t k hk (by omega)
        show v<=r.Entries[k].At.Hi;omega
      · show r.Entries[j].At.Lo<=(out++[v]).getD j 0/\(out++[v]).getD j 0<=r.Entries[j].At.Hi/\(out++[v]).getD j 0<=v
        by_cases e:j=i
        · subst e
          rw[s];omega
        · rw[d j (by omega)]
          have:=q5 j (by omega) z
          omega
      · show(out++[v]).getD j 0<=(out++[v]).getD (j+1) 0
        by_cases e:j+1=i
        · subst e
          rw[s,d j (by omega)]
          have:=(q5 j (by omega) (by omega)).2.2
          omega
        · rw[d j (by omega),d (j+1) (by omega)]
          exact q6 j (by omega)) 0 (0,[]) (Nat.zero_le _) ⟨rfl,(fun v hv=>by cases hv),Int.le_refl _,(fun k hk _=>by have:=X8A h k hk;omega),(fun j a=>by omega),(fun j a=>by omega)⟩
  have h1':X32 x r (0,0,[])=some w:=h1;obtain⟨g1,g2,g3,g4⟩:=h2;refine⟨w,by rw[h1'];rfl,g1,?_,g2⟩
  have c:∀i (hi:i<r.Entries.length),(X2c (X19 r) []).lo i=r.Entries[i].At.Lo/\(X2c (X19 r) []).hi i=r.Entries[i].At.Hi:=fun i hi=>by
    show((r.Entries.getD i (Zq.mk 0 0 (Y2.mk 0 0))).At).Lo=_/\((r.Entries.getD i (Zq.mk 0 0 (Y2.mk 0 0))).At).Hi=_;rw[Xg _ _ _ hi];exact⟨rfl,rfl⟩
  exact⟨⟨fun i hi=>by rw[(c i hi).1];exact(g3 i hi).1,fun i hi=>g4 i hi,fun p hp=>by cases hp⟩,⟨fun i hi=>by rw[(c i hi).2];exact(g3 i hi).2,fun i hi=>g4 i hi,fun p hp=>by cases hp⟩⟩
theorem X7M {r:CoRecord} (h:r.Entries.length<=10) (ms:List Int) (e:ms.length=r.Entries.length) {dev:Int} (d:0<=dev/\dev<r.Devices.length) (t:Int) :
    X48 r ms dev t=some (X4I r (fun j=>ms.getD j 0) dev t):=by
  rw[X5p];unfold X2Q;have c1:decide (0<=dev)=true:=by simp[d.1]
  have c2:decide (dev<(r.Devices.length:Int))=true:=by simp[d.2]
  simp only[c1,c2,ju,jB];obtain⟨w,g,f⟩:=WU (X1i t ms dev r) r.Entries.length (fun i (b:Int)=>(b,(i:Int)))
    (fun i b=>X4e dev t (fun j=>ms.getD j 0) (r.Entries.drop i) i b=X4I r (fun j=>ms.getD j 0) dev t) (fun w=>w=X4I r (fun j=>ms.getD j 0) dev t)
    (fun b a=>⟨b,by simp[X1i,X1q,e],by rw[List.drop_length]at a;exact a⟩)
    (fun i b hi a=>by
      right;have e1:decide ((i:Int)<(r.Entries.length:Int))=true:=by simp;omega
      have w1:=wS i (by omega)
      rw[jb hi,X4d]at a;simp only[X1i,X1q,e,e1,z0S,kS,ju,jB,Xg _ _ _ hi,w1]
      by_cases hdv:r.Entries[i].Device=dev
      · have d1:(r.Entries[i].Device==dev)=true:=by simp[hdv]
        simp only[d1,jB]
        by_cases ht:ms.getD i 0<=t
        · simp only[ht,decide_true,jB]
          rw[if_pos ⟨hdv,ht⟩]at a;exact⟨_,rfl,a⟩
        · simp only[ht,decide_false,jA]
          rw[if_neg (fun q=>ht q.2)]at a;exact⟨_,rfl,a⟩
      · have d1:(r.Entries[i].Device==dev)=false:=X3k hdv
        simp only[d1,jA];rw[if_neg (fun q=>hdv q.1)]at a;exact⟨_,rfl,a⟩) 0 (r.Devices.getD dev.toNat (Zm.mk ByteArray.empty 0 0)).First (Nat.zero_le _) rfl
  have c:X3v t ms dev r ((r.Devices.getD dev.toNat (Zm.mk ByteArray.empty 0 0)).First,0)=some w:=g;rw[c,f];rfl
end Nore
open Go Go.Ab
namespace Nore
end Nore
open Go Go.Ab
namespace Nore
def X60 (l:List Zr) (dev s t:Int):List Zr:=l++[⟨dev,s,⟨t,t⟩⟩]
def Wv (r:CoRecord) (l:List Zr) (dev t:Int) (k:Nat):List Int:=((List.range k).filter fun s:Nat=>Wh r (X60 l dev (s:Int) t)).map fun s:Nat=>(s:Int)
theorem X4J (r:CoRecord) (l:List Zr) (dev t:Int) (k:Nat):Wv r l dev t (k+1)=Wv r l dev t k++if Wh r (X60 l dev (k:Int) t)then [(k:Int)]else []:=by
  unfold Wv;rw[List.range_succ,List.filter_append,List.map_append];congr 1;cases h:Wh r (X60 l dev (k:Int) t)<;>simp[h]
theorem X6T (r:CoRecord) (l:List Zr) (dev t:Int) (k:Nat):∀v∈Wv r l dev t k,0<=v/\v<(k:Int):=fun v hv=>by
  obtain⟨s,a,rfl⟩:=List.mem_map.1 hv;have:=List.mem_range.1 (List.mem_filter.1 a).1;omega
theorem X4j (r:CoRecord) (l:List Zr) (dev t:Int) (k:Nat):(Wv r l dev t k).length<=k:=by
  unfold Wv;rw[List.length_map];exact Nat.le_trans (List.length_filter_le _ _) (by simp)
theorem X6q (r:CoRecord) (l:List Zr) (dev t:Int):∀k,(Wv r l dev t k).Pairwise (· < ·)
  | 0=>List.Pairwise.nil
  | k+1=>by
    rw[X4J];refine List.pairwise_append.2 ⟨X6q r l dev t k,?_,fun a d b c=>?_⟩
    · split
      · exact List.pairwise_singleton _ _
      · exact List.Pairwise.nil
    · have:=X6T r l dev t k a d
      split at c
      · rw[List.mem_singleton.1 c];exact this.2
      · cases c
theorem X8C (n:Int):∀(l:List Int),(∀v∈l,n<v)->ZeB n l=n::l
  | [],_=>rfl
  | v::l,h=>by
    have:=h v (by simp)
    unfold ZeB;simp[Int.le_of_lt this]
theorem X7X:∀(l:List Int),l.Pairwise (· < ·)->Z3s l=l
  | [],_=>rfl
  | n::l,h=>by
    obtain⟨a,b⟩:=List.pairwise_cons.1 h;show ZeB n (Z3s l)=n::l;rw[X7X l b];exact X8C n l a
theorem X7l (k:Int):∀(m:List (Int×Int)),(∀v∈m.map Prod.fst,v≠k)->Z9O (fun a b=>a==b) k m=none
  | [],_=>rfl
  | (a,b)::m,h=>by
    have c:(k==a)=false:=X3k fun e=>h a (by simp) e.symm
    unfold Z9O;simp only[c,jA];exact X7l k m fun v hv=>h v (by simp only[jr,jv];exact .inr hv)
theorem X8m (k v:Int):∀(m:List (Int×Int)),(∀w∈m.map Prod.fst,w≠k)->Zj0 (fun a b=>a==b) k v m=m++[(k,v)]
  | [],_=>rfl
  | (a,b)::m,h=>by
    have d:(k==a)=false:=X3k fun e=>h a (by simp) e.symm
    unfold Zj0;simp only[d,jA];rw[X8m k v m fun w c=>h w (by simp only[jr,jv];exact .inr c)]
    rfl
theorem X9k {r:CoRecord} {l:List Zr} (h:X68 r l) (c:l.length<=4) {dev t s:Int} (a:0<=dev/\dev<r.Devices.length) (ht:0<=t/\t<=9999):X68 r (X60 l dev s t) :=
  ⟨h.ent,by unfold X60;rw[List.length_append,List.length_singleton];omega,fun x b=>by
    rcases List.mem_append.1 b with q|q
    · exact h.seen x q
    · rw[List.mem_singleton.1 q]
      exact⟨a,by simp only;omega,by simp only;omega⟩⟩
theorem X4O {r:CoRecord} {l:List Zr} (h:X68 r l) (q:l.length<=4) {dev t:Int} (g:0<=dev/\dev<r.Devices.length) (ht:0<=t/\t<=9999) {S:Nat} (u:(r.Devices.getD dev.toNat (Zm.mk ByteArray.empty 0 0)).States=(S:Int)) (m:S<=1000) :
    X1c ⟨r,l⟩ dev t=some (Wv r l dev t S):=by
  rw[X3G];unfold Wo;have c1:decide (0<=dev)=true:=by simp[g.1]
  have c2:decide (dev<(r.Devices.length:Int))=true:=by simp[g.2]
  simp only[c1,c2,ju,jB,u];obtain⟨w,o,f⟩:=WU (XE dev (S:Int) t ⟨r,l⟩) S (fun i (b:List (Int×Int))=>((i:Int),b)) (fun i b=>b.map Prod.fst=Wv r l dev t i) (fun w=>w.map Prod.fst=Wv r l dev t S)
    (fun b d=>⟨b,by simp[XE,XV],d⟩)
    (fun i b hi d=>by
      right;have e1:decide ((i:Int)<(S:Int))=true:=by simp;omega
      have w1:=wS i (by omega)
      have b1:Nat.ble (l.length*(32+1)) 100000000000000=true:=by rw[Nat.ble_eq];omega
      have b2:Nat.ble ((l.length+1)*(32+1)) 200000000000000=true:=by rw[Nat.ble_eq];omega
      have b3:Nat.blt 0 4=true:=rfl;have e:X2B ⟨r,l⟩ [⟨dev,(i:Int),⟨t,t⟩⟩]=some ⟨r,X60 l dev (i:Int) t⟩:=by
        rw[X3W];unfold WR;simp only[b1,b3,ju,jB,List.length_singleton,b2];rfl
      have s:X6 ⟨r,X60 l dev (i:Int) t⟩=some (Wh r (X60 l dev (i:Int) t)):=X30 (X9k h q g ht);have a:∀v∈b.map Prod.fst,v≠(i:Int):=fun v hv=>by
        rw[d]at hv;have:=X6T r l dev t i v hv;omega
      simp only[XE,XV,e1,jB,e,s,jS,w1,X7l _ b a,X8m _ _ b a];cases hag:Wh r (X60 l dev (i:Int) t)with
      | true=>exact⟨_,rfl,by rw[List.map_append,d,X4J,hag];rfl⟩
      | false=>exact⟨b,rfl,by rw[d,X4J,hag];simp⟩) 0 [] (Nat.zero_le _) rfl
  have k:X1y dev (S:Int) t ⟨r,l⟩ (0,[])=some w:=o;have n:w.length<=S:=by
    have:=X4j r l dev t S;rw[<-f,List.length_map]at this;exact this
  have b1:Nat.ble w.length 100000=true:=by rw[Nat.ble_eq];omega
  have b2:Nat.ble (w.map fun p=>p.fst).length 1000000=true:=by rw[Nat.ble_eq,List.length_map];omega
  have b2':Nat.ble (Wv r l dev t S).length 1000000=true:=by have:=X4j r l dev t S;rw[Nat.ble_eq];omega
  have b4:Nat.beq w.length w.length=true:=Nat.beq_refl _;have b5:(Nat.beq 3 3&&Nat.beq 2 2)=true:=rfl;have b6:(Nat.beq 3 3&&Nat.beq 0 0)=true:=rfl;have j:(w.map fun p=>p.fst)=Wv r l dev t S:=f;rw[k];simp only[jS,b5,b4,b1,ju,Bool.true_and,jB];cases e:w with
  | nil =>
    rw[e]at f;rw[<-f];rfl
  | cons p ps =>
    rw[<-e];have c:Nat.beq w.length 0=false:=by rw[e];rfl
    have b7:(Nat.beq 3 3&&Nat.beq 0 0&&Nat.ble (w.map fun p=>p.fst).length 1000000)=true:=by rw[b2];rfl
    have b8:(Nat.beq 1 1&&Nat.ble 8 1000&&Nat.testBit 688269427663 6)=true:=by decide +kernel
    simp only[c,jA,b2',b6,ju,Bool.true_and,jB,j,X7X _ (X6q r l dev t S)]
    first
    | rfl
    | (have b9:Nat.testBit 688269427663 6=true:=by decide +kernel
       have b10:Nat.beq 1 1=true:=rfl;have b11:Nat.ble 8 1000=true:=rfl;simp only[b9,b10,b11,b2',ju,jB])
def X77 (r:CoRecord) (l:List Zr) (dev t:Int):List Int×Int :=
  if(WB r l).2≠0 then([],(WB r l).2)else if X1b 0 ((r.Devices.length:Int)-1) [dev]then([],4)else if X1b 0 9999 [t]then([],7)else
  if Wh r l then(Wv r l dev t (r.Devices.getD dev.toNat (Zm.mk ByteArray.empty 0 0)).States.toNat,0)else([],9)
theorem X3t {r:CoRecord} (h:X4w r) {dev:Int} (a:0<=dev/\dev<r.Devices.length):∃S:Nat,(r.Devices.getD dev.toNat (Zm.mk ByteArray.empty 0 0)).States=(S:Int)/\2<=S/\S<=4:=by
  rw[Xg _ _ _ (by omega)]
  have:=(h.dev _ (jl (by omega:dev.toNat<r.Devices.length))).1
  exact⟨r.Devices[dev.toNat].States.toNat,by omega,by omega,by omega⟩
theorem X6z (r:CoRecord) (l:List Zr) (dev t:Int):X4h r l dev t=some (X77 r l dev t):=by
  rw[X58];unfold X2e;rw[X1R r l];simp only[jS];unfold X77
  by_cases q:(WB r l).2=0
  · obtain⟨hr,e,_⟩:=X6n q
    have g:=hr.devs;have c:((WB r l).2 != 0)=false:=by simp[q]
    have w1:IntKind.wrap .i64 ((r.Devices.length:Int)-1)=(r.Devices.length:Int)-1:=by rw[w64]<;>omega
    simp only[c,jA,if_neg (fun h:(WB r l).2≠0=>h q),w1,Wj _ _ [dev] (by simp),Wj _ _ [t] (by simp),jS,X30 (X62 q)]
    cases q1:X1b 0 ((r.Devices.length:Int)-1) [dev]with
    | true=>rfl
    | false =>
      cases q2:X1b 0 9999 [t]with
      | true=>rfl
      | false =>
        have i:=X2l q1;have ht:=X2l q2;have a:0<=dev/\dev<(r.Devices.length:Int):=by omega
        obtain⟨S,d,_,f⟩:=X3t hr a;have b:=X4O (X62 q) e a ht d (by omega)
        simp only[jA,jg,if_false,b,jS,d,kS];unfold Wh;cases(X3i r l).isEmpty with
        | true=>rfl
        | false=>rfl
  · have c:((WB r l).2 != 0)=true:=X3M q
    simp only[c,jB,if_pos q]
end Nore
open Go Go.Ab
namespace Nore
theorem X53 (v k:Int) (hv:0<=v) (a:0<k):0<=Int.tmod v k/\Int.tmod v k<k:=⟨Int.tmod_nonneg k hv,Int.tmod_lt_of_pos v a⟩
theorem X8s {r:CoRecord} (h:X4w r) (ms:Nat->Int) {dev:Int} (j:0<=dev/\dev<r.Devices.length) (t:Int) {S:Nat} (c:(r.Devices.getD dev.toNat (Zm.mk ByteArray.empty 0 0)).States=(S:Int)) :
    0<=X4I r ms dev t/\X4I r ms dev t<(S:Int):=by
  have a:∀(e:List Zq) (i:Nat) (now:Int),(∀x∈e,x∈r.Entries)->0<=now/\now<(S:Int)->0<=X4e dev t ms e i now/\X4e dev t ms e i now<(S:Int):=by
    intro e
    induction e with
    | nil=>intro i now _ d;exact d
    | cons x e ih =>
      intro i now b d;rw[X4d];refine ih (i+1) _ (fun y hy=>b y (by simp[hy])) ?_
      split
      · rename_i hc
        have hE:=h.ent x (b x (by simp))
        unfold WV at hE;have k:=h.devs;have q1:X1b 0 ((r.Devices.length:Int)-1) [x.Device]=false:=by
          cases q:X1b 0 ((r.Devices.length:Int)-1) [x.Device]with
          | false=>rfl
          | true=>rw[q]at hE;exact absurd hE (by simp)
        rw[q1,hc.1,c]at hE;have m:2<=S/\S<=4:=by
          obtain⟨S',l,n,o⟩:=X3t h j;rw[c]at l;omega
        have w1:IntKind.wrap .i64 ((S:Int)-1)=(S:Int)-1:=by rw[w64]<;>omega
        rw[w1]at hE;have q2:X1b 0 ((S:Int)-1) [x.State]=false:=by
          cases q:X1b 0 ((S:Int)-1) [x.State]with
          | false=>rfl
          | true=>rw[q]at hE;exact absurd hE (by simp)
        have:=X2l q2;omega
      · exact d
  refine a r.Entries 0 _ (fun x b=>b) ?_;have g:r.Devices.getD dev.toNat (Zm.mk ByteArray.empty 0 0)=r.Devices[dev.toNat]'(by omega):=Xg _ _ _ (by omega)
  have f:=(h.dev _ (jl (by omega:dev.toNat<r.Devices.length))).2
  rw[g]at c;rw[c]at f;show 0<=(r.Devices.getD dev.toNat ⟨ByteArray.empty,0,0⟩).First/\(r.Devices.getD dev.toNat ⟨ByteArray.empty,0,0⟩).First<(S:Int);rw[g];exact f
theorem X8p {r:CoRecord} (h:X4w r) {dev st lo hi:Int} (b:0<=dev/\dev<r.Devices.length) {S:Nat} (a:(r.Devices.getD dev.toNat (Zm.mk ByteArray.empty 0 0)).States=(S:Int)) (d:0<=st/\st<(S:Int)) (e:0<=lo) (g:lo<=hi) (c:hi<=9999):WV r dev st ⟨lo,hi⟩=0:=by
  unfold WV;have q1:X1b 0 ((r.Devices.length:Int)-1) [dev]=false:=by
    simp only[X3c,X3Q,Bool.or_false,Bool.or_eq_false_iff,decide_eq_false_iff_not];omega
  have i:2<=S/\S<=4:=by
    obtain⟨S',f,j,k⟩:=X3t h b;rw[a]at f;omega
  have w1:IntKind.wrap .i64 ((S:Int)-1)=(S:Int)-1:=by rw[w64]<;>omega
  have q2:X1b 0 ((S:Int)-1) [st]=false:=by
    simp only[X3c,X3Q,Bool.or_false,Bool.or_eq_false_iff,decide_eq_false_iff_not];omega
  have q3:X1b 0 9999 [lo,hi]=false:=by
    simp only[X3c,X3Q,Bool.or_false,Bool.or_eq_false_iff,decide_eq_false_iff_not];omega
  rw[q1,a,w1,q2,q3];simp only[jg,if_false];rw[if_neg (by omega)]
set_option maxHeartbeats 1000000 in
theorem X9d {r:CoRecord} (h:X4w r) (x:Za) (hx:∀v∈x.Minutes,0<=v/\v<=65535) (hy:∀v∈x.Taken,0<=v/\v<=65535) :
    ∃ms out,X2V r x=some ms/\ms.length=r.Entries.length/\X6v r (fun j=>ms.getD j 0)/\(∀v∈ms,0<=v/\v<=9999)/\X3m (x,r)=some out/\out.length<=4/\∀w∈out,WV r w.Device w.State w.At=0/\X67 r (fun j=>ms.getD j 0) w:=by
  obtain⟨ms,m1,m2,m3,m4⟩:=X8w h x hx;obtain⟨w,z,p⟩:=WU (Wi ms x r) 4 (fun i (b:List Zr)=>(((4*i:Nat):Int),b))
    (fun i b=>b.length=i/\∀w∈b,WV r w.Device w.State w.At=0/\X67 r (fun j=>ms.getD j 0) w) (fun b=>b.length<=4/\∀w∈b,WV r w.Device w.State w.At=0/\X67 r (fun j=>ms.getD j 0) w)
    (fun b g=>⟨b,by
      have e1:decide (((b.length:Int))<4)=false:=by rw[g.1];rfl
      simp only[Wi,Wl,e1,jA,Bool.cond_self],by omega,g.2⟩)
    (fun i b hi g=>by
      obtain⟨q1,q2⟩:=g;have w3:IntKind.wrap .i64 (((4*i:Nat):Int)+3)=((4*i+3:Nat):Int):=by rw[w64]<;>omega
      by_cases hc:4*i+3<x.Taken.length
      · right
        have w1:IntKind.wrap .i64 (((4*i:Nat):Int)+1)=((4*i+1:Nat):Int):=by rw[w64]<;>omega
        have w2:IntKind.wrap .i64 (((4*i:Nat):Int)+2)=((4*i+2:Nat):Int):=by rw[w64]<;>omega
        have w4:IntKind.wrap .i64 (((4*i:Nat):Int)+4)=((4*(i+1):Nat):Int):=by rw[w64]<;>omega
        have k0:decide (((4*i:Nat):Int)<(x.Taken.length:Int))=true:=by rw[jk];omega
        have k1:decide (((4*i+1:Nat):Int)<(x.Taken.length:Int))=true:=by rw[jk];omega
        have k2:decide (((4*i+2:Nat):Int)<(x.Taken.length:Int))=true:=by rw[jk];omega
        have k3:decide (((4*i+3:Nat):Int)<(x.Taken.length:Int))=true:=by rw[jk];omega
        have kl:decide ((b.length:Int)<4)=true:=by rw[jk];omega
        have hdv:=h.devs;have kd:((r.Devices.length:Int)==0)=false:=X3k (by omega)
        have v0:=hy _ (jl (by omega:4*i<x.Taken.length))
        have v1:=hy _ (jl (by omega:4*i+1<x.Taken.length))
        have v2:=hy _ (jl (by omega:4*i+2<x.Taken.length))
        have v3:=hy _ (jl (by omega:4*i+3<x.Taken.length))
        have u0:IntKind.wrap .i64 x.Taken[4*i]=x.Taken[4*i]:=by rw[w64]<;>omega
        have u1:IntKind.wrap .i64 x.Taken[4*i+1]=x.Taken[4*i+1]:=by rw[w64]<;>omega
        have u2:IntKind.wrap .i64 x.Taken[4*i+2]=x.Taken[4*i+2]:=by rw[w64]<;>omega
        have u3:IntKind.wrap .i64 x.Taken[4*i+3]=x.Taken[4*i+3]:=by rw[w64]<;>omega
        have d:=X53 x.Taken[4*i] (r.Devices.length:Int) v0.1 (by omega)
        have ht:=X53 x.Taken[4*i+1] 10000 v1.1 (by omega)
        have hA:=X53 x.Taken[4*i+2] 30 v2.1 (by omega)
        have hB:=X53 x.Taken[4*i+3] 30 v3.1 (by omega)
        have k:=X7M h.many ms m2 (dev:=Int.tmod x.Taken[4*i] (r.Devices.length:Int)) d (Int.tmod x.Taken[4*i+1] 10000);have o:Nat.ble ((b.length+1)*(32+1)) 200000000000000=true:=by rw[Nat.ble_eq];omega
        simp only[Wi,Wl,w1,w2,w3,w4,k0,k1,k2,k3,kl,kd,z0S,kS,ju,jB,jA,Xg _ _ _ (by omega:4*i<x.Taken.length),Xg _ _ _ (by omega:4*i+1<x.Taken.length),Xg _ _ _ (by omega:4*i+2<x.Taken.length),Xg _ _ _ (by omega:4*i+3<x.Taken.length),u0,u1,u2,u3,k,jS,List.length_singleton,o]
        generalize hdE:Int.tmod x.Taken[4*i] (r.Devices.length:Int)=dev at d;generalize htE:Int.tmod x.Taken[4*i+1] 10000=t at ht;generalize hAE:Int.tmod x.Taken[4*i+2] 30=a at hA;generalize hBE:Int.tmod x.Taken[4*i+3] 30=c at hB;have wa:IntKind.wrap .i64 (t-a)=t-a:=by rw[w64]<;>omega
        have wc:IntKind.wrap .i64 (t+c)=t+c:=by rw[w64]<;>omega
        have n:(bif decide (t-a>0)then t-a else 0)=(if t-a>0 then t-a else 0):=by by_cases q:t-a>0<;>simp[q]
        have l:(bif decide (t+c<9999)then t+c else 9999)=(if t+c<9999 then t+c else 9999):=by by_cases q:t+c<9999<;>simp[q]
        have f:∀u v,X3w u v=some ⟨u,v⟩:=fun u v=>by rw[X42];rfl
        simp only[wa,wc,n,l,f,jS];obtain⟨S,s,_,y⟩:=X3t h d;refine⟨_,rfl,by simp[q1],fun w e=>?_⟩
        rcases List.mem_append.1 e with e|e
        · exact q2 w e
        · rw[List.mem_singleton.1 e]
          refine⟨X8p h d s (X8s h _ d t s) ?_ ?_ ?_,t,?_,?_,rfl⟩
          · split<;>omega
          · split<;>split<;>omega
          · split<;>omega
          · show(if t-a>0 then t-a else 0)<=t
            split<;>omega
          · show t<=(if t+c<9999 then t+c else 9999)
            split<;>omega
      · left
        have e1:decide (((4*i+3:Nat):Int)<(x.Taken.length:Int))=false:=by rw[decide_eq_false_iff_not];omega
        exact⟨b,by simp only[Wi,Wl,w3,e1,jA],by omega,q2⟩) 0 [] (Nat.zero_le _) ⟨rfl,fun w e=>by cases e⟩
  have m:X34 ms x r (0,[])=some w:=z;refine⟨ms,w,m1,m2,m3,m4,?_,p.1,p.2⟩;rw[X4R];unfold X1X;simp only[m1,jS,m]
end Nore
open Go Go.Ab
namespace Nore
theorem X71 (r:CoRecord):X4A r=some ((X2z r).2.2==0):=by
  rw[X5t];unfold X2S;rw[X73];rfl
theorem X8I {n:Int} (h:(Lit.int .u16 n).wf=true):0<=n/\n<=65535:=by
  simp[Lit.wf,IntKind.has,IntKind.min,IntKind.max,IntKind.signed,IntKind.bits]at h;omega
end Nore
open Go Go.Ab
namespace Nore
theorem X8Y (l:List Int) (f:l.length<=1000000) (v:Int):∃k,X24 l v=some k/\(decide (k>=0)=decide (v∈l)):=by
  rw[X3I];unfold Wu;obtain⟨w,e,d⟩:=WU (XG (l.length:Int) v l) l.length (fun i (_:Unit)=>(i:Int)) (fun i _=>¬v∈l.take i)
    (fun w=>(∃i:Nat,w=.inl (i:Int)/\v∈l)\/(w=.inr ()/\¬v∈l))
    (fun _ b=>⟨.inr (),by simp[XG,XX],.inr ⟨rfl,by rwa [List.take_length]at b⟩⟩)
    (fun i _ hi b=>by
      have e1:decide ((i:Int)<(l.length:Int))=true:=by simp;omega
      have w1:=wS i (by omega)
      simp only[XG,XX,e1,z0S,kS,ju,jB,Xg _ _ _ hi,w1]
      by_cases he:v=l[i]
      · left
        have c:(v==l[i])=true:=by simp[he]
        simp only[c,jB];exact⟨_,rfl,.inl ⟨i,rfl,he▸jl hi⟩⟩
      · right
        have c:(v==l[i])=false:=X3k he;simp only[c,jA];refine⟨(),by first|rfl|trivial,fun h=>?_⟩
        rw[List.take_succ_eq_append_getElem hi]at h;rcases List.mem_append.1 h with h|h
        · exact b h
        · exact he (List.mem_singleton.1 h)) 0 () (Nat.zero_le _) (by simp)
  have a:X1A (l.length:Int) v l 0=some w:=e;rw[a];rcases d with⟨i,rfl,h⟩|⟨rfl,h⟩
  · exact⟨(i:Int),rfl,by simp[h]⟩
  · exact⟨-1,rfl,by simp[h]⟩
theorem X81 (l:List Int) (b:l.length<=1000000) (v:Int):X1j l v=some (decide (v∈l)):=by
  rw[X37];unfold W6;obtain⟨k,a,c⟩:=X8Y l b v;simp only[a,jS,c]
theorem X9f (l:List Int) (f:l.length<=1000000) (v:Int):X5K l v=some (decide (v∈l)):=by
  rw[X6e];unfold X3n;obtain⟨w,e,d⟩:=WU (X1S v l) l.length (fun i (_:Unit)=>(i:Int)) (fun i _=>¬v∈l.take i)
    (fun w=>(w=.inl true/\v∈l)\/(w=.inr ()/\¬v∈l))
    (fun _ b=>⟨.inr (),by simp[X1S,X1Y],.inr ⟨rfl,by rwa [List.take_length]at b⟩⟩)
    (fun i _ hi b=>by
      have e1:decide ((i:Int)<(l.length:Int))=true:=by simp;omega
      have w1:=wS i (by omega)
      simp only[X1S,X1Y,e1,z0S,kS,ju,jB,Xg _ _ _ hi,w1]
      by_cases he:l[i]=v
      · left
        have c:(l[i]==v)=true:=by simp[he]
        simp only[c,jB];exact⟨_,rfl,.inl ⟨rfl,he▸jl hi⟩⟩
      · right
        have c:(l[i]==v)=false:=X3k he;simp only[c,jA];refine⟨(),by first|rfl|trivial,fun h=>?_⟩
        rw[List.take_succ_eq_append_getElem hi]at h;rcases List.mem_append.1 h with h|h
        · exact b h
        · exact he (List.mem_singleton.1 h).symm) 0 () (Nat.zero_le _) (by simp)
  have a:X40 v l 0=some w:=e;rw[a];rcases d with⟨rfl,h⟩|⟨rfl,h⟩
  · simp[h]
  · simp[h]
def X3d (r:CoRecord) (l:List Zr) (dev t:Int):List Int:=Wv r l dev t (r.Devices.getD dev.toNat (Zm.mk ByteArray.empty 0 0)).States.toNat
def X74 (L:List Int) (st:Int):Int:=if st∈L then(if L.length=1 then 2 else 1)else 0
def X6w (r:CoRecord) (l:List Zr) (x:Zr):Int :=
  if(WB r l).2≠0 then(WB r l).2 else if WV r x.Device x.State x.At≠0 then WV r x.Device x.State x.At else if x.At.Lo≠x.At.Hi then 2 else if Wh r l then 0 else 9
theorem X7j (r:CoRecord) (l:List Zr) (x:Zr):X4W r l x=some (⟨r,l⟩,X6w r l x):=by
  rw[X5P];unfold X2Y;rw[X1R r l];simp only[jS];unfold X6w
  by_cases q:(WB r l).2=0
  · obtain⟨hr,b,_⟩:=X6n q
    have a:=hr.devs;have c:((WB r l).2==0)=true:=by simp[q]
    simp only[c,jB,if_neg (fun h:(WB r l).2≠0=>h q),X4o r x (by omega:r.Devices.length<=1000000),jS,X30 (X62 q)]
    by_cases q1:WV r x.Device x.State x.At=0
    · have c1:(WV r x.Device x.State x.At != 0)=false:=by simp[q1]
      simp only[c1,jA,if_neg (fun h:WV r x.Device x.State x.At≠0=>h q1)]
      by_cases q2:x.At.Lo=x.At.Hi
      · have c2:(x.At.Lo != x.At.Hi)=false:=by simp[q2]
        simp only[c2,jA,if_neg (fun h:x.At.Lo≠x.At.Hi=>h q2)];unfold Wh;cases(X3i r l).isEmpty<;>rfl
      · have c2:(x.At.Lo != x.At.Hi)=true:=X3M q2
        simp only[c2,jB,if_pos q2]
    · have c1:(WV r x.Device x.State x.At != 0)=true:=X3M q1
      simp only[c1,jB,if_pos q1]
  · have c:((WB r l).2==0)=false:=X3k q
    have c':((WB r l).2 != 0)=true:=X3M q;simp only[c,c',jB,jA,if_pos q]
theorem X6B {r:CoRecord} {l:List Zr} (j:X68 r l) (hr:X4w r) (h:l.length<=4) {x:Zr} (i:WV r x.Device x.State x.At=0) :
    X1U ⟨r,l⟩ x=some (X74 (X3d r l x.Device x.At.Lo) x.State):=by
  rw[X3C];unfold Wm;obtain⟨d,a,m,n⟩:=X76 i;obtain⟨S,e,_,g⟩:=X3t hr d.dev;have b:=X4O j h d.dev ⟨a,by omega⟩ e (by omega)
  have k:X3d r l x.Device x.At.Lo=Wv r l x.Device x.At.Lo S:=by unfold X3d;rw[e,kS]
  rw[k];have f:=X4j r l x.Device x.At.Lo S;simp only[b,jS,X81 _ (by omega:(Wv r l x.Device x.At.Lo S).length<=1000000)]
  unfold X74
  by_cases hm:x.State∈Wv r l x.Device x.At.Lo S
  · simp only[hm,decide_true,Bool.not_true,jA,if_true]
    by_cases a:(Wv r l x.Device x.At.Lo S).length=1
    · have c:(((Wv r l x.Device x.At.Lo S).length:Int)==1)=true:=by simp[a]
      simp only[c,jB,if_pos a]
    · have c:(((Wv r l x.Device x.At.Lo S).length:Int)==1)=false:=X3k (by omega)
      simp only[c,jA,if_neg a]
  · simp only[hm,decide_false,Bool.not_false,jB,if_false]
theorem X9l {r:CoRecord} {l:List Zr} {x:Zr} (h:X6w r l x=0):(WB r l).2=0/\WV r x.Device x.State x.At=0/\x.At.Lo=x.At.Hi/\Wh r l=true:=by
  unfold X6w at h
  by_cases q:(WB r l).2=0
  · rw[if_neg (fun k=>k q)]at h
    by_cases q1:WV r x.Device x.State x.At=0
    · rw[if_neg (fun k=>k q1)]at h
      by_cases q2:x.At.Lo=x.At.Hi
      · rw[if_neg (fun k=>k q2)]at h
        cases q3:Wh r l with
        | true=>exact⟨q,q1,q2,rfl⟩
        | false=>rw[q3]at h;exact absurd h (by simp)
      · rw[if_pos q2]at h;exact absurd h (by simp)
    · rw[if_pos q1]at h;exact absurd h q1
  · rw[if_pos q]at h;exact absurd h q
theorem X6y (r:CoRecord) (l:List Zr) (x:Zr):X4g r l x=some (if X6w r l x≠0 then(0,X6w r l x)else(X74 (X3d r l x.Device x.At.Lo) x.State,0)):=by
  rw[X56];unfold X2d;rw[X7j];simp only[jS]
  by_cases q:X6w r l x=0
  · obtain⟨a,d,_,_⟩:=X9l q
    obtain⟨hr,b,_⟩:=X6n a;have c:(X6w r l x != 0)=false:=by simp[q]
    simp only[c,jA,if_neg (fun k:X6w r l x≠0=>k q),X6B (X62 a) hr b d,jS]
  · have c:(X6w r l x != 0)=true:=X3M q
    simp only[c,jB,if_pos q]
theorem X8G {r:CoRecord} {l:List Zr} (hr:X4w r) {dev:Int} (e:0<=dev/\dev<r.Devices.length) (t st:Int):st∈X3d r l dev t↔∃ms,TrN r l ms/\X4I r ms dev t=st:=by
  obtain⟨S,f,_,_⟩:=X3t hr e;have d:∀s,Wh r (X60 l dev s t)=true↔∃ms,TrN r l ms/\X4I r ms dev t=s:=fun s=>by
    rw[X8y];constructor
    · rintro⟨ms,c,a⟩
      exact⟨ms,⟨c,fun x b=>a x (List.mem_append.2 (.inl b))⟩,(X8Q c dev s t).1 (a _ (List.mem_append.2 (.inr (List.mem_singleton.2 rfl))))⟩
    · rintro⟨ms,⟨c,a⟩,g⟩
      refine⟨ms,c,fun x b=>?_⟩;rcases List.mem_append.1 b with b|b
      · exact a x b
      · rw[List.mem_singleton.1 b]
        exact(X8Q c dev s t).2 g
  unfold X3d Wv;rw[f,kS];constructor
  · intro h
    obtain⟨s,j,rfl⟩:=List.mem_map.1 h;exact(d _).1 (List.mem_filter.1 j).2
  · rintro⟨ms,c,a⟩
    have i:=X8s hr ms e t f;rw[a]at i;refine List.mem_map.2 ⟨st.toNat,List.mem_filter.2 ⟨List.mem_range.2 (by omega),?_⟩,by omega⟩
    rw[show((st.toNat:Nat):Int)=st by omega]
    exact(d st).2 ⟨ms,c,a⟩
end Nore
open Go Go.Ab
namespace Nore
theorem X8l {r:CoRecord} {ms:Nat->Int} (a:X6v r ms) {x:Zr} (h:X67 r ms x):X94 r ms x:=by
  obtain⟨t,c,b,d⟩:=h;exact X5D a.1.2.1 x.Device t x.State x.At.Lo x.At.Hi c b r.Entries 0 (X6F r x.Device) (-1) (by omega) (by omega) (by omega) (fun h=>by omega) d
theorem X7r {α:Type}:∀(l:List α) (i:Nat),WT 0 i l=l
  | [],_=>rfl
  | x::l,i=>by rw[X22,Nat.zero_testBit,if_neg (by decide),X7r l (i+1)]
theorem X7W {α:Type}:∀(l:List α) (i:Nat),WO 0 i l=[]
  | [],_=>rfl
  | x::l,i=>by rw[X2E,Nat.zero_testBit,if_neg (by decide),X7W l (i+1)]
theorem X8x {r:CoRecord} {l:List Zr} (h:(WB r l).2=0) (a:Wh r l=true):X45 r l=some ([],0):=by
  obtain⟨m,b,_,d⟩:=X7h h;have:=d 0 (by rw[X7r];exact a)
  rw[X7W]at this;have c:WO m 0 l=[]:=by
    rcases this with q|q
    · exact absurd q (Nat.not_lt_zero _)
    · exact List.eq_nil_of_length_eq_zero q.1
  rw[b,c]
theorem X9e (a:List Y2) (m:List Int) (c:a.length=m.length) (e:m.length<=1000) (h:∀i (hi:i<a.length) (b:i<m.length),a[i].Lo<=m[i]/\m[i]<=a[i].Hi):X1z a m 0=some (.inr ()):=by
  obtain⟨y,g1,g2⟩:=WU (Wk a m) m.length (fun i (_:Unit)=>(i:Int)) (fun _ _=>True) (fun y=>y=.inr ())
    (fun _ _=>⟨.inr (),by simp[Wk,WA],rfl⟩)
    (fun i _ hi _=>by
      right;refine⟨(),?_,trivial⟩;have e1:decide ((i:Int)<(m.length:Int))=true:=by simp;omega
      have e2:decide ((i:Int)<(a.length:Int))=true:=by simp;omega
      have w1:=wS i (by omega)
      have d:=h i (by omega) hi
      have c1:decide (m[i]<(a[i]'(by omega)).Lo)=false:=by simp;omega
      have c2:decide (m[i]>(a[i]'(by omega)).Hi)=false:=by simp;omega
      simp only[Wk,WA,e1,e2,z0S,kS,ju,jB,Xg _ _ _ hi,Xg _ _ _ (by omega:i<a.length),w1,c1,c2,jA]) 0 () (Nat.zero_le _) trivial
  have g1':X1z a m 0=some y:=g1;rw[g1',g2]
set_option maxHeartbeats 1000000 in
theorem X79 (r:CoRecord) (x:Za) (y:Nat->Int) (hx:∀v∈x.Minutes,0<=v/\v<=65535) (hx2:∀v∈x.Taken,0<=v/\v<=65535) (hy:∀j,j<3->0<=y j/\y j<=65535):X2P r x y=some true:=by
  rw[X4p];unfold X1p;rw[X71]
  by_cases hc:(X2z r).2.2=0
  · have hz:((X2z r).2.2==0)=true:=by simp[hc]
    have hr:=X7f hc;obtain⟨ms,l,hM,hMl,h,hmb,hT,hl,g⟩:=X9d hr x hx hx2;have hs:WB r l=(0,0):=X9i hc hl fun w z=>(g w z).1;have a:(WB r l).2=0:=by rw[hs]
    have m:Wh r l=true:=X8c h fun w z=>(g w z).2;have a0:TrN r l (fun j=>ms.getD j 0):=⟨h,fun w z=>X8l h (g w z).2⟩;have hA:X61 r l=(true,0):=by
      unfold X61;rw[if_neg (fun k=>k a)];exact congrArg (fun b=>(b,(0:Int))) m
    have hTm:X7v r l=(X3U r.Entries.length (X3i r l),0):=by
      unfold X7v X8b;rw[if_neg (fun k=>k a),if_neg];intro k;unfold Wh at m;rw[k]at m;cases m
    have hn:=hr.many;have hlen:=X7w r.Entries.length (X3i r l);have p:=X9e (X3U r.Entries.length (X3i r l)) ms (by omega) (by omega) fun i hi hi'=>by
      have:=(X8H m i hi).all _ a0;simp only[Xg _ _ _ hi']at this;exact this
    have hdv:=hr.devs;have y0:=hy 0 (by omega)
    have y1:=hy 1 (by omega)
    have y2:=hy 2 (by omega)
    have u0:IntKind.wrap .i64 (y 0)=y 0:=by rw[w64]<;>omega
    have u1:IntKind.wrap .i64 (y 1)=y 1:=by rw[w64]<;>omega
    have u2:IntKind.wrap .i64 (y 2)=y 2:=by rw[w64]<;>omega
    have z0:Int.toNat 0=0:=rfl;have z1:Int.toNat 1=1:=rfl;have z2:Int.toNat 2=2:=rfl;have n:=X53 (y 0) (r.Devices.length:Int) y0.1 (by omega)
    have ht:=X53 (y 2) 10000 y2.1 (by omega)
    have c0:((r.Devices.length:Int)==0)=false:=X3k (by omega)
    have b1:((X3U r.Entries.length (X3i r l)).length:Int)=(ms.length:Int):=by omega
    have b2:((ms.length:Int) != (ms.length:Int))=false:=by simp
    have b3:((0:Int) != 0)=false:=rfl;have b4:((0:Int)==0)=true:=rfl;have b5:decide (((([]:List Int).length:Nat):Int)>0)=false:=rfl;simp only[jS,hz,Bool.not_true,jA,hT,hM,X55,hA,X6Z,hTm,X8x a m,b1,b2,b3,b5,p,jy,c0,z0,z1,z2,u0,u1,u2];generalize Int.tmod (y 0) (r.Devices.length:Int)=d at n;generalize Int.tmod (y 2) 10000=t at ht;have c1:decide (0<=d)=true:=by simp[n.1]
    have c2:decide (d<(r.Devices.length:Int))=true:=by simp[n.2]
    obtain⟨S,hS,hS2,hS4⟩:=X3t hr n;have c3:((S:Int)==0)=false:=X3k (by omega)
    have q:=X53 (y 1) (S:Int) y1.1 (by omega)
    simp only[c1,c2,ju,jB,hS,c3,jA];generalize Int.tmod (y 1) (S:Int)=s at q;have u:X5J d s t=some ⟨d,s,⟨t,t⟩⟩:=by
      rw[X6c];unfold X3l;rw[X42];rfl
    have hE:WV r d s ⟨t,t⟩=0:=X8p hr n hS q ht.1 (Int.le_refl _) (by omega)
    have o:X6w r l ⟨d,s,⟨t,t⟩⟩=0:=by
      unfold X6w;simp only[a,hE,m];simp
    have a1:X77 r l d t=(X3d r l d t,0):=by
      unfold X77 X3d;have q1:X1b 0 ((r.Devices.length:Int)-1) [d]=false:=by
        simp only[X3c,X3Q,Bool.or_false,Bool.or_eq_false_iff,decide_eq_false_iff_not];omega
      have q2:X1b 0 9999 [t]=false:=by
        simp only[X3c,X3Q,Bool.or_false,Bool.or_eq_false_iff,decide_eq_false_iff_not];omega
      rw[if_neg (fun k=>k a),q1,q2,m];rfl
    have f:X4I r (fun j=>ms.getD j 0) d t∈X3d r l d t:=(X8G hr n t _).2 ⟨_,a0,rfl⟩;have hsl:(X3d r l d t).length<=1000000:=by
      unfold X3d;rw[hS,kS];have:=X4j r l d t S;omega
    simp only[X7M hn ms hMl n t,jS,X6z,a1,u,X6y,if_neg (fun k:X6w r l ⟨d,s,⟨t,t⟩⟩≠0=>k o),b4,jB,X9f _ hsl,f,decide_true];generalize X4I r (fun j=>ms.getD j 0) d t=now at f;unfold X74
    by_cases h:s∈X3d r l d t
    · rw[if_pos h]
      by_cases h1:(X3d r l d t).length=1
      · rw[if_pos h1]
        obtain⟨c,hc⟩:=List.length_eq_one_iff.1 h1;rw[hc]at h f;have e:now=s:=by rw[List.mem_singleton.1 h,List.mem_singleton.1 f]
        have e1:(now==s)=true:=by simp[e]
        simp only[e1];rfl
      · rw[if_neg h1];rfl
    · rw[if_neg h]
      have e:¬now=s:=fun e=>h (e▸f);have e1:(now != s)=true:=X3M e;simp only[e1];rfl
  · have hz:((X2z r).2.2==0)=false:=X3k hc
    have hA:(X61 r []).2≠0:=by
      have hs:(WB r []).2=(X2z r).2.2:=by
        unfold WB;rw[if_pos hc]
      unfold X61;rw[if_pos (by rw[hs];exact hc)]
      show(WB r []).2≠0;rw[hs];exact hc
    have c:((X61 r []).2 != 0)=true:=X3M hA;simp only[jS,hz,Bool.not_false,jB,X55,c]
theorem X7a (r:CoRecord) (x:Za) (y:Nat->Int) (c:∀v,List.Mem v x.Minutes->(Lit.int .u16 v).wf=true) (a:∀v,List.Mem v x.Taken->(Lit.int .u16 v).wf=true) (hy:∀j,j<3->(Lit.int .u16 (y j)).wf=true):X2P r x y=some true :=
  X79 r x y (fun v hv=>X8I (c v hv)) (fun v hv=>X8I (a v hv)) fun j b=>X8I (hy j b)
end Nore
