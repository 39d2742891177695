/- The plain functions of the program and of the document answer alike. -/
import Derived.Test.YtlngokonhalcdaaGreatDoorY
import Derived.Test.YtlngokonhalcdaaGreatDoorD
set_option linter.unusedSectionVars false
set_option linter.unusedVariables false
set_option linter.unusedSimpArgs false
open Go Go.Ab
namespace Nore
theorem w64 {x:Int} (a : -9223372036854775808<=x) (b:x<=9223372036854775807):IntKind.wrap .i64 x=x:=by
  simp only[IntKind.wrap,IntKind.signed,IntKind.bits];simp;omega
theorem jS {α β:Type} (a:α) (f:α->Option β):Option.bind (some a) f=f a:=rfl
theorem kS (n:Nat):Int.toNat (n:Int)=n:=rfl
theorem wS (i:Nat) (h:i<9223372036854775807):IntKind.wrap .i64 ((i:Int)+1)=((i+1:Nat):Int):=by rw[w64]<;>omega
theorem z0S (i:Nat):decide ((0:Int)<=↑i)=true:=by simp
theorem X7L {σ ω γ:Type} (st:σ->Option (σ⊕ω)) (k:ω->Option γ) (s:σ):Option.bind (Za6 st s) k=Option.bind (st s) (Sum.elim (fun s'=>Option.bind (Za6 st s') k) k):=by
  rw[ZjH];cases st s with
  | none=>rfl
  | some r=>cases r<;>rfl
theorem X1S {β σ ω γ:Type} (st:σ->Option (σ⊕ω)) (k:ω->Option γ) (n:Nat) (emb:Nat->β->σ) (P:Nat->β->Prop) (nice:Nat->β->Option γ)
    (d:∀b,P n b->∀R:σ->Option γ,Option.bind (st (emb n b)) (Sum.elim R k)=nice n b)
    (e:∀i b,i<n->P i b->∀R:σ->Option γ,(∀b',P (i+1) b'->R (emb (i+1) b')=nice (i+1) b')->Option.bind (st (emb i b)) (Sum.elim R k)=nice i b) :
    ∀i b,i<=n->P i b->Option.bind (Za6 st (emb i b)) k=nice i b:=by
  intro i b hi c
  induction hj:n-i generalizing i b with
  | zero =>
    have:i=n:=by omega
    subst this;rw[X7L];exact d b c _
  | succ j ih =>
    rw[X7L];exact e i b (by omega) c _ fun b' a=>ih (i+1) b' (by omega) a (by omega)
theorem X2O {a b:Int} (h:¬a=b):(a==b)=false:=beq_eq_false_iff_ne.2 h
theorem X3V {a b:Int} (h:¬a=b):(a != b)=true:=bne_iff_ne.2 h
theorem Xe {α:Type} (l:List α) (i:Nat) (d:α) (h:i<l.length):l.getD i d=l[i]:=by simp[List.getD,h]
theorem Wv {β σ ω:Type} (st:σ->Option (σ⊕ω)) (n:Nat) (emb:Nat->β->σ) (P:Nat->β->Prop) (Q:ω->Prop)
    (e:∀b,P n b->∃w,st (emb n b)=some (.inr w)/\Q w)
    (g:∀i b,i<n->P i b->(∃w,st (emb i b)=some (.inr w)/\Q w)\/∃b',st (emb i b)=some (.inl (emb (i+1) b'))/\P (i+1) b') :
    ∀i b,i<=n->P i b->∃w,Za6 st (emb i b)=some w/\Q w:=by
  intro i b hi d
  induction hj:n-i generalizing i b with
  | zero =>
    have:i=n:=by omega
    subst this;obtain⟨w,c,a⟩:=e b d;exact⟨w,by rw[ZjH,c];rfl,a⟩
  | succ j ih =>
    rcases g i b (by omega) d with⟨w,c,a⟩|⟨b',c,a⟩
    · exact⟨w,by rw[ZjH,c];rfl,a⟩
    · obtain⟨w,f,h⟩:=ih (i+1) b' (by omega) a (by omega)
      exact⟨w,by rw[ZjH,c];exact f,h⟩
end Nore
namespace Nore
structure Con where
  lo:Nat->Int
  hi:Nat->Int
  ap:List (Nat×Nat)
def X7c (n:Nat) (x:Nat->Int):Prop:=∀i,i+1<n->x i<=x (i+1)
def ApN (ap:List (Nat×Nat)) (x:Nat->Int):Prop:=∀p∈ap,x p.1+1<=x p.2
def UpN (n:Nat) (c:Con) (x:Nat->Int):Prop:=(∀i,i<n->c.lo i<=x i)/\X7c n x/\ApN c.ap x
def DnN (n:Nat) (c:Con) (x:Nat->Int):Prop:=(∀i,i<n->x i<=c.hi i)/\X7c n x/\ApN c.ap x
def Sol (n:Nat) (c:Con) (x:Nat->Int):Prop:=UpN n c x/\DnN n c x
structure X64 (n:Nat) (c:Con) (L:Nat->Int):Prop where
  up:UpN n c L
  least:∀x,UpN n c x->∀i,i<n->L i<=x i
structure X63 (n:Nat) (c:Con) (H:Nat->Int):Prop where
  dn:DnN n c H
  great:∀x,DnN n c x->∀i,i<n->x i<=H i
def X6q (n:Nat) (ap:List (Nat×Nat)):Prop:=∀p∈ap,p.1<p.2/\p.2<n
theorem X8G {n:Nat} {c c':Con} {L L':Nat->Int} (h:X64 n c L) (h':X64 n c' L') (e:∀x,UpN n c x↔UpN n c' x):∀i,i<n->L i=L' i:=fun i hi =>
  Int.le_antisymm (h.least _ ((e _).2 h'.up) i hi) (h'.least _ ((e _).1 h.up) i hi)
theorem X8E {n:Nat} {c c':Con} {H H':Nat->Int} (h:X63 n c H) (h':X63 n c' H') (e:∀x,DnN n c x↔DnN n c' x):∀i,i<n->H i=H' i:=fun i hi =>
  Int.le_antisymm (h'.great _ ((e _).1 h.dn) i hi) (h.great _ ((e _).2 h'.dn) i hi)
theorem X7l {n:Nat} {c:Con} {L H:Nat->Int} (hL:X64 n c L) (a:X63 n c H) (h:∀i,i<n->L i<=H i):Sol n c L :=
  ⟨hL.up,fun i hi=>Int.le_trans (h i hi) (a.dn.1 i hi),hL.up.2.1,hL.up.2.2⟩
theorem X8v {n:Nat} {c:Con} {L H:Nat->Int} (hL:X64 n c L) (a:X63 n c H) (h:∀i,i<n->L i<=H i):Sol n c H :=
  ⟨⟨fun i hi=>Int.le_trans (hL.up.1 i hi) (h i hi),a.dn.2.1,a.dn.2.2⟩,a.dn⟩
theorem X8i {n:Nat} {c:Con} {L H:Nat->Int} (hL:X64 n c L) (a:X63 n c H):(∃x,Sol n c x)↔∀i,i<n->L i<=H i :=
  ⟨fun⟨x,h1,h2⟩ i hi=>Int.le_trans (hL.least x h1 i hi) (a.great x h2 i hi),fun h=>⟨L,X7l hL a h⟩⟩
def X5U (L:Nat->Int):List (Nat×Nat)->Nat->Int->Int
  | [],_,a=>a
  | p::ps,i,a=>X5U L ps i (if p.2=i then(if L p.1+1>a then L p.1+1 else a)else a)
def up1 (ap:List (Nat×Nat)) (L:Nat->Int) (i:Nat):Int:=X5U L ap i (if 0<i then(if L (i-1)>L i then L (i-1)else L i)else L i)
def WB (ap:List (Nat×Nat)):Nat->(Nat->Int)->Nat->Int
  | 0,L=>L
  | k+1,L=>fun j=>if j=k then up1 ap (WB ap k L) k else WB ap k L j
theorem X7t (L:Nat->Int) (i:Nat):∀(ap:List (Nat×Nat)) (a:Int),a<=X5U L ap i a/\∀p∈ap,p.2=i->L p.1+1<=X5U L ap i a
  | [],a=>⟨Int.le_refl _,by simp⟩
  | p::ps,a=>by
    unfold X5U;have b:a<=(if p.2=i then(if L p.1+1>a then L p.1+1 else a)else a)/\(p.2=i->L p.1+1<=(if p.2=i then(if L p.1+1>a then L p.1+1 else a)else a)):=by
      by_cases e:p.2=i
      · by_cases e2:L p.1+1>a
        · simp only[e,e2,if_true];exact⟨by omega,fun _=>Int.le_refl _⟩
        · simp only[e,e2,if_true,if_false];exact⟨Int.le_refl _,fun _=>by omega⟩
      · simp only[e,if_false];exact⟨Int.le_refl _,fun h=>h.elim⟩
    generalize (if p.2=i then(if L p.1+1>a then L p.1+1 else a)else a)=a' at b⊢;obtain⟨d,f⟩:=X7t L i ps a';refine⟨Int.le_trans b.1 d,fun q c e=>?_⟩;rcases jv.1 c with rfl|c
    · exact Int.le_trans (b.2 e) d
    · exact f q c e
theorem X7u (L:Nat->Int) (i:Nat) (b:Int):∀(ap:List (Nat×Nat)) (a:Int),a<=b->(∀p∈ap,p.2=i->L p.1+1<=b)->X5U L ap i a<=b
  | [],_,h,_=>h
  | p::ps,a,h,hp=>by
    unfold X5U;refine X7u L i b ps _ ?_ fun q c=>hp q (by simp[c])
    have:=hp p (by simp)
    split
    · rename_i e
      have:=this e;split<;>omega
    · exact h
theorem X8k (ap:List (Nat×Nat)) (L:Nat->Int):∀(k j:Nat),k<=j->WB ap k L j=L j
  | 0,_,_=>rfl
  | k+1,j,h=>by
    unfold WB;rw[if_neg (by omega)]
    exact X8k ap L k j (by omega)
theorem X35 {n:Nat} {c:Con} (g:X6q n c.ap):X64 n c (WB c.ap n c.lo):=by
  have main:∀k,k<=n->(∀i,i<k->c.lo i<=WB c.ap k c.lo i)/\(∀i,i+1<k->WB c.ap k c.lo i<=WB c.ap k c.lo (i+1))/\(∀p∈c.ap,p.2<k->WB c.ap k c.lo p.1+1<=WB c.ap k c.lo p.2) ∧
      ∀x,UpN n c x->∀i,i<k->WB c.ap k c.lo i<=x i:=by
    intro k
    induction k with
    | zero=>intro _;exact⟨fun i h=>by omega,fun i h=>by omega,fun p _ h=>by omega,fun x _ i h=>by omega⟩
    | succ k ih =>
      intro w;obtain⟨r,o,q,m⟩:=ih (by omega)
      have a:∀j,j≠k->WB c.ap (k+1) c.lo j=WB c.ap k c.lo j:=fun j v=>by show(if j=k then _ else _)=_;rw[if_neg v]
      have b:WB c.ap (k+1) c.lo k=up1 c.ap (WB c.ap k c.lo) k:=by show(if k=k then _ else _)=_;rw[if_pos rfl]
      have f:WB c.ap k c.lo k=c.lo k:=X8k _ _ _ _ (Nat.le_refl _);obtain⟨g1,g2⟩:=X7t (WB c.ap k c.lo) k c.ap (if 0<k then(if WB c.ap k c.lo (k-1)>WB c.ap k c.lo k then WB c.ap k c.lo (k-1)else WB c.ap k c.lo k)else WB c.ap k c.lo k);have g0:WB c.ap k c.lo k<=(if 0<k then(if WB c.ap k c.lo (k-1)>WB c.ap k c.lo k then WB c.ap k c.lo (k-1)else WB c.ap k c.lo k)else WB c.ap k c.lo k):=by
        split
        · split<;>omega
        · exact Int.le_refl _
      refine⟨fun i hi=>?_,fun i hi=>?_,fun p d hi=>?_,fun x l i hi=>?_⟩
      · by_cases e:i=k
        · subst e;rw[b,<-f];exact Int.le_trans g0 g1
        · rw[a i e];exact r i (by omega)
      · by_cases e:i+1=k
        · subst e
          rw[b,a i (by omega)]
          refine Int.le_trans ?_ g1;rw[if_pos (by omega),Nat.add_sub_cancel]
          split<;>omega
        · rw[a i (by omega),a (i+1) e];exact o i (by omega)
      · have:=g p d
        by_cases e:p.2=k
        · rw[e,b,a p.1 (by omega)];exact g2 p d e
        · rw[a p.1 (by omega),a p.2 e];exact q p d (by omega)
      · by_cases e:i=k
        · subst e
          rw[b];refine X7u _ _ _ _ _ ?_ fun p d e=>?_
          · have s:=l.1 i (by omega)
            rw[f];split
            · have:=m x l (i-1) (by omega)
              have t:=l.2.1 (i-1) (by omega)
              rw[Nat.sub_add_cancel (by omega)]at t
              split<;>omega
            · exact s
          · have y:=g p d
            have:=m x l p.1 (by omega)
            have u:=l.2.2 p d;rw[e]at u;omega
        · rw[a i e];exact m x l i (by omega)
  obtain⟨r,o,q,m⟩:=main n (Nat.le_refl _);exact⟨⟨r,o,fun p d=>q p d (g p d).2⟩,m⟩
def X5V (H:Nat->Int):List (Nat×Nat)->Nat->Int->Int
  | [],_,a=>a
  | p::ps,i,a=>X5V H ps i (if p.1=i then(if H p.2-1<a then H p.2-1 else a)else a)
def dn1 (n:Nat) (ap:List (Nat×Nat)) (H:Nat->Int) (i:Nat):Int:=X5V H ap i (if i+1<n then(if H (i+1)<H i then H (i+1)else H i)else H i)
def WA (n:Nat) (ap:List (Nat×Nat)):Nat->(Nat->Int)->Nat->Int
  | 0,H=>H
  | k+1,H=>fun j=>if j=n-1-k then dn1 n ap (WA n ap k H) (n-1-k)else WA n ap k H j
theorem X7w (H:Nat->Int) (i:Nat):∀(ap:List (Nat×Nat)) (a:Int),X5V H ap i a<=a/\∀p∈ap,p.1=i->X5V H ap i a<=H p.2-1
  | [],a=>⟨Int.le_refl _,by simp⟩
  | p::ps,a=>by
    unfold X5V;have b:(if p.1=i then(if H p.2-1<a then H p.2-1 else a)else a)<=a/\(p.1=i->(if p.1=i then(if H p.2-1<a then H p.2-1 else a)else a)<=H p.2-1):=by
      by_cases e:p.1=i
      · by_cases e2:H p.2-1<a
        · simp only[e,e2,if_true];exact⟨by omega,fun _=>Int.le_refl _⟩
        · simp only[e,e2,if_true,if_false];exact⟨Int.le_refl _,fun _=>by omega⟩
      · simp only[e,if_false];exact⟨Int.le_refl _,fun h=>h.elim⟩
    generalize (if p.1=i then(if H p.2-1<a then H p.2-1 else a)else a)=a' at b⊢;obtain⟨d,f⟩:=X7w H i ps a';refine⟨Int.le_trans d b.1,fun q c e=>?_⟩;rcases jv.1 c with rfl|c
    · exact Int.le_trans d (b.2 e)
    · exact f q c e
theorem X7v (H:Nat->Int) (i:Nat) (b:Int):∀(ap:List (Nat×Nat)) (a:Int),b<=a->(∀p∈ap,p.1=i->b<=H p.2-1)->b<=X5V H ap i a
  | [],_,h,_=>h
  | p::ps,a,h,hp=>by
    unfold X5V;refine X7v H i b ps _ ?_ fun q c=>hp q (by simp[c])
    have:=hp p (by simp)
    split
    · rename_i e
      have:=this e;split<;>omega
    · exact h
theorem X8b (n:Nat) (ap:List (Nat×Nat)) (H:Nat->Int):∀(k j:Nat),k<=n->j+k<n->WA n ap k H j=H j
  | 0,_,_,_=>rfl
  | k+1,j,hk,h=>by
    unfold WA;rw[if_neg (by omega)]
    exact X8b n ap H k j (by omega) (by omega)
theorem X2Y {n:Nat} {c:Con} (l:X6q n c.ap):X63 n c (WA n c.ap n c.hi):=by
  have main:∀k,k<=n->(∀i,i<n->n<=i+k->WA n c.ap k c.hi i<=c.hi i)/\(∀i,i+1<n->n<=i+k->WA n c.ap k c.hi i<=WA n c.ap k c.hi (i+1))/\(∀p∈c.ap,n<=p.1+k->WA n c.ap k c.hi p.1+1<=WA n c.ap k c.hi p.2) ∧
      ∀x,DnN n c x->∀i,i<n->n<=i+k->x i<=WA n c.ap k c.hi i:=by
    intro k
    induction k with
    | zero=>intro _;exact⟨fun i h h'=>by omega,fun i h h'=>by omega,fun p d h=>by have:=l p d;omega,fun x _ i h h'=>by omega⟩
    | succ k ih =>
      intro y;obtain⟨t,r,s,o⟩:=ih (by omega)
      have a:∀j,j≠n-1-k->WA n c.ap (k+1) c.hi j=WA n c.ap k c.hi j:=fun j v=>by show(if j=n-1-k then _ else _)=_;rw[if_neg v]
      have b:WA n c.ap (k+1) c.hi (n-1-k)=dn1 n c.ap (WA n c.ap k c.hi) (n-1-k):=by show(if n-1-k=n-1-k then _ else _)=_;rw[if_pos rfl]
      have f:WA n c.ap k c.hi (n-1-k)=c.hi (n-1-k):=X8b _ _ _ _ _ (by omega) (by omega)
      obtain⟨g1,g2⟩:=X7w (WA n c.ap k c.hi) (n-1-k) c.ap (if n-1-k+1<n then(if WA n c.ap k c.hi (n-1-k+1)<WA n c.ap k c.hi (n-1-k)then WA n c.ap k c.hi (n-1-k+1)else WA n c.ap k c.hi (n-1-k))else WA n c.ap k c.hi (n-1-k));have g0:(if n-1-k+1<n then(if WA n c.ap k c.hi (n-1-k+1)<WA n c.ap k c.hi (n-1-k)then WA n c.ap k c.hi (n-1-k+1)else WA n c.ap k c.hi (n-1-k))else WA n c.ap k c.hi (n-1-k))<=WA n c.ap k c.hi (n-1-k):=by
        split
        · split<;>omega
        · exact Int.le_refl _
      refine⟨fun i hi m=>?_,fun i hi m=>?_,fun p d hi=>?_,fun x g i hi m=>?_⟩
      · by_cases e:i=n-1-k
        · rw[e,b,<-f];exact Int.le_trans g1 g0
        · rw[a i e];exact t i hi (by omega)
      · by_cases e:i=n-1-k
        · rw[e,b,a (n-1-k+1) (by omega)]
          refine Int.le_trans g1 ?_;rw[if_pos (by omega)]
          split<;>omega
        · rw[a i e,a (i+1) (by omega)];exact r i hi (by omega)
      · have:=l p d
        by_cases e:p.1=n-1-k
        · have:=g2 p d e
          rw[e,b,a p.2 (by omega)]
          unfold dn1;omega
        · rw[a p.1 e,a p.2 (by omega)];exact s p d (by omega)
      · by_cases e:i=n-1-k
        · rw[e,b]
          refine X7v _ _ _ _ _ ?_ fun p d e'=>?_
          · have q:=g.1 i hi
            rw[e]at q;rw[f];split
            · have:=o x g (n-1-k+1) (by omega) (by omega)
              have w:=g.2.1 (n-1-k) (by omega)
              split<;>omega
            · exact q
          · have z:=l p d
            have:=o x g p.2 (by omega) (by omega)
            have u:=g.2.2 p d;rw[e']at u;omega
        · rw[a i e];exact o x g i hi (by omega)
  obtain⟨t,r,s,o⟩:=main n (Nat.le_refl _);exact⟨⟨fun i hi=>t i hi (by omega),fun i hi=>r i hi (by omega),fun p d=>s p d (by omega)⟩,fun x g i hi=>o x g i hi (by omega)⟩
def X4z (n:Nat) (c:Con):Nat->Int:=WB c.ap n c.lo
def X4y (n:Nat) (c:Con):Nat->Int:=WA n c.ap n c.hi
def okN (n:Nat) (c:Con):Bool:=(List.range n).all fun i=>decide (X4z n c i<=X4y n c i)
theorem X5X {n:Nat} {c:Con}:okN n c=true↔∀i,i<n->X4z n c i<=X4y n c i:=by
  unfold okN;rw[List.all_eq_true];exact⟨fun h i hi=>by simpa using h i (List.mem_range.2 hi),fun h i hi=>by simpa using h i (List.mem_range.1 hi)⟩
abbrev Str:=Int×Nat
def X32 (n:Nat) (c:Con) (s:Str) (a b:Int):Con where
  hi:=fun i=>if 0<=s.1/\i=s.1.toNat then(if b<c.hi i then b else c.hi i)else c.hi i
  lo:=fun i=>if s.2<n/\i=s.2 then(if a+1>c.lo i then a+1 else c.lo i)else c.lo i
  ap:=if 0<=s.1/\s.2<n then c.ap++[(s.1.toNat,s.2)]else c.ap
def X6g (n:Nat) (s:Str):Prop:=s.1<s.2/\s.2<=n /\ -1<=s.1
theorem X8d {n:Nat} {c:Con} (h:X6q n c.ap) {s:Str} (e:X6g n s) (a b:Int):X6q n (X32 n c s a b).ap:=by
  unfold X32;simp only;split
  · rename_i hc
    intro p d;rcases List.mem_append.1 d with d|d
    · exact h p d
    · simp only[List.mem_singleton]at d
      subst d;unfold X6g at e;simp only;omega
  · exact h
def X7d (n:Nat) (x:Nat->Int) (s:Str) (a b:Int):Prop:=(0<=s.1->x s.1.toNat<=b)/\(s.2<n->a+1<=x s.2)/\(0<=s.1->s.2<n->x s.1.toNat+1<=x s.2)
theorem X6o {n:Nat} {c:Con} {s:Str} {a b:Int} {x:Nat->Int}:ApN (X32 n c s a b).ap x↔ApN c.ap x/\(0<=s.1->s.2<n->x s.1.toNat+1<=x s.2):=by
  unfold X32 ApN;simp only;split
  · rename_i hc
    constructor
    · intro h
      exact⟨fun p d=>h p (List.mem_append.2 (.inl d)),fun _ _=>h (s.1.toNat,s.2) (List.mem_append.2 (.inr (by simp)))⟩
    · rintro⟨f,e⟩ p d
      rcases List.mem_append.1 d with d|d
      · exact f p d
      · simp only[List.mem_singleton]at d
        subst d;exact e hc.1 hc.2
  · rename_i hc
    exact⟨fun h=>⟨h,fun f e=>absurd ⟨f,e⟩ hc⟩,fun h=>h.1⟩
theorem X8Q {n:Nat} {c:Con} {s:Str} {a b:Int} {x:Nat->Int}:UpN n (X32 n c s a b) x↔UpN n c x/\(s.2<n->a+1<=x s.2)/\(0<=s.1->s.2<n->x s.1.toNat+1<=x s.2):=by
  unfold UpN;rw[X6o];have e:(∀i,i<n->(X32 n c s a b).lo i<=x i)↔(∀i,i<n->c.lo i<=x i)/\(s.2<n->a+1<=x s.2):=by
    unfold X32;simp only;constructor
    · intro h
      refine⟨fun i hi=>?_,fun l=>?_⟩
      · have:=h i hi
        split at this
        · split at this<;>omega
        · exact this
      · have:=h s.2 l
        rw[if_pos ⟨l,rfl⟩]at this;split at this<;>omega
    · rintro⟨f,d⟩ i hi
      have:=f i hi;split
      · rename_i hc
        have g:=d hc.1;rw[<-hc.2]at g;split<;>omega
      · exact this
  rw[e];constructor
  · rintro⟨⟨f,d⟩,g,j,k⟩;exact⟨⟨f,g,j⟩,d,k⟩
  · rintro⟨⟨f,g,j⟩,d,k⟩;exact⟨⟨f,d⟩,g,j,k⟩
theorem X8P {n:Nat} {c:Con} {s:Str} (m:X6g n s) {a b:Int} {x:Nat->Int}:DnN n (X32 n c s a b) x↔DnN n c x/\(0<=s.1->x s.1.toNat<=b)/\(0<=s.1->s.2<n->x s.1.toNat+1<=x s.2):=by
  unfold DnN;rw[X6o];have e:(∀i,i<n->x i<=(X32 n c s a b).hi i)↔(∀i,i<n->x i<=c.hi i)/\(0<=s.1->x s.1.toNat<=b):=by
    unfold X32;unfold X6g at m;simp only;constructor
    · intro h
      refine⟨fun i hi=>?_,fun l=>?_⟩
      · have:=h i hi
        split at this
        · split at this<;>omega
        · exact this
      · have:=h s.1.toNat (by omega)
        rw[if_pos ⟨l,rfl⟩]at this;split at this<;>omega
    · rintro⟨g,d⟩ i hi
      have:=g i hi;split
      · rename_i hc
        have f:=d hc.1;rw[<-hc.2]at f;split<;>omega
      · exact this
  rw[e];constructor
  · rintro⟨⟨g,d⟩,f,j,k⟩;exact⟨⟨g,f,j⟩,d,k⟩
  · rintro⟨⟨g,f,j⟩,d,k⟩;exact⟨⟨g,d⟩,f,j,k⟩
theorem X7M {n:Nat} {c:Con} {s:Str} (i:X6g n s) {a b:Int} {x:Nat->Int}:Sol n (X32 n c s a b) x↔Sol n c x/\X7d n x s a b:=by
  unfold Sol X7d;rw[X8Q,X8P i];constructor
  · rintro⟨⟨g,e,d⟩,f,h,_⟩;exact⟨⟨g,f⟩,h,e,d⟩
  · rintro⟨⟨g,f⟩,h,e,d⟩;exact⟨⟨g,e,d⟩,f,h,d⟩
def EqC (n:Nat) (c c':Con):Prop:=(∀x,UpN n c x↔UpN n c' x)/\∀x,DnN n c x↔DnN n c' x
theorem EqC.lo {n:Nat} {c c':Con} (h:EqC n c c') (a:X6q n c.ap) (b:X6q n c'.ap) (i:Nat) (hi:i<n):X4z n c i=X4z n c' i:=X8G (X35 a) (X35 b) h.1 i hi
theorem EqC.hi {n:Nat} {c c':Con} (h:EqC n c c') (a:X6q n c.ap) (b:X6q n c'.ap) (i:Nat) (hi:i<n):X4y n c i=X4y n c' i:=X8E (X2Y a) (X2Y b) h.2 i hi
def X7x (n:Nat) (c:Con):Con:=⟨X4z n c,X4y n c,c.ap⟩
structure Wit where
  strs:List Str
  a:Int
  b:Int
def X89 (n:Nat) (w:Wit):Prop:=∀s∈w.strs,X6g n s
def Xm (n:Nat):List Wit->Con->List Con
  | [],c=>if okN n c then [X7x n c]else []
  | w::ws,c=>if okN n c then w.strs.flatMap fun s=>Xm n ws (X32 n c s w.a w.b)else []
def X8A (n:Nat) (c:Con) (ws:List Wit) (x:Nat->Int):Prop:=Sol n c x/\∀w∈ws,∃s∈w.strs,X7d n x s w.a w.b
theorem X5T {n:Nat}:∀(ws:List Wit) (c:Con),(∀w∈ws,X89 n w)->X6q n c.ap->∀d∈Xm n ws c,X8A n c ws d.lo/\X8A n c ws d.hi/\∀i,i<n->d.lo i<=d.hi i
  | [],c,_,h1,d,a=>by
    unfold Xm at a;split at a
    · rename_i g
      simp only[List.mem_singleton]at a;subst a;have b:=X5X.1 g;exact⟨⟨X7l (X35 h1) (X2Y h1) b,by simp⟩,⟨X8v (X35 h1) (X2Y h1) b,by simp⟩,b⟩
    · cases a
  | w::ws,c,hw,h1,d,a=>by
    unfold Xm at a;split at a
    · obtain⟨s,f,a⟩:=List.mem_flatMap.1 a
      have e:=hw w (by simp) s f
      obtain⟨⟨k1,k2⟩,⟨k3,k4⟩,k5⟩:=X5T ws _ (fun v hv=>hw v (by simp[hv])) (X8d h1 e _ _) d a
      rw[X7M e]at k1 k3;refine⟨⟨k1.1,fun v hv=>?_⟩,⟨k3.1,fun v hv=>?_⟩,k5⟩
      · rcases jv.1 hv with rfl|hv
        · exact⟨s,f,k1.2⟩
        · exact k2 v hv
      · rcases jv.1 hv with rfl|hv
        · exact⟨s,f,k3.2⟩
        · exact k4 v hv
    · cases a
theorem X6j {n:Nat}:∀(ws:List Wit) (c:Con),(∀w∈ws,X89 n w)->X6q n c.ap->∀x,X8A n c ws x->∃d∈Xm n ws c,∀i,i<n->d.lo i<=x i/\x i<=d.hi i
  | [],c,_,h1,x,hx=>by
    have g:okN n c=true:=X5X.2 ((X8i (X35 h1) (X2Y h1)).1 ⟨x,hx.1⟩);unfold Xm;rw[if_pos g];exact⟨X7x n c,List.mem_singleton.2 rfl,fun i hi=>⟨(X35 h1).least x hx.1.1 i hi,(X2Y h1).great x hx.1.2 i hi⟩⟩
  | w::ws,c,hw,h1,x,hx=>by
    have g:okN n c=true:=X5X.2 ((X8i (X35 h1) (X2Y h1)).1 ⟨x,hx.1⟩);unfold Xm;rw[if_pos g];obtain⟨s,j,e⟩:=hx.2 w (by simp)
    have f:=hw w (by simp) s j
    obtain⟨d,k,h⟩:=X6j ws (X32 n c s w.a w.b) (fun v hv=>hw v (by simp[hv])) (X8d h1 f _ _) x ⟨(X7M f).2 ⟨hx.1,e⟩,fun v hv=>hx.2 v (by simp[hv])⟩
    exact⟨d,List.mem_flatMap.2 ⟨s,j,k⟩,h⟩
theorem X5c {n:Nat} {ws:List Wit} {c:Con} (b:∀w∈ws,X89 n w) (e:X6q n c.ap):Xm n ws c≠[]↔∃x,X8A n c ws x:=by
  constructor
  · intro h
    obtain⟨d,a⟩:=List.exists_mem_of_ne_nil _ h;exact⟨_,(X5T ws c b e d a).1⟩
  · rintro⟨x,f⟩ h
    obtain⟨d,a,_⟩:=X6j ws c b e x f;rw[h]at a;cases a
end Nore
open Go Go.Ab
namespace Nore
def WP (lo hi:Int) (l:List Int):Bool:=l.any fun n=>decide (n<lo)||decide (n>hi)
theorem X43 (lo hi:Int):WP lo hi []=false:=rfl
theorem X3z (lo hi n:Int) (l:List Int):WP lo hi (n::l)=(decide (n<lo)||decide (n>hi)||WP lo hi l):=rfl
def inN (n lo hi:Int):Bool:=decide (lo<=n)&&decide (n<=hi)
theorem X5f (n lo hi:Int):X45 n lo hi=some (inN n lo hi):=by
  unfold X45 inN
  by_cases h:lo<=n<;>simp[h]
def X5d:Int->List UInt8->Option Int
  | last,[]=>some last
  | last,c::l=>if 97<=(c.toNat:Int)/\(c.toNat:Int)<=122 then X5d c.toNat l else if(c.toNat:Int)≠45\/last=45 then none else X5d c.toNat l
def X4e:Option Int->Bool
  | none=>false
  | some last=>last != 45
def X5B (s:ByteArray):Bool:=decide (s.size<=14)&&X4e (X5d 45 s.toList)
theorem X8q (s:ByteArray) (i:Nat) (h:(s.get! i).toNat<128):Utf8.decode s i=((s.get! i).toNat,1):=by
  unfold Utf8.decode;simp only[Nat.add_zero];rw[if_pos h]
theorem X8p (s:ByteArray) (i:Nat) (h:¬(s.get! i).toNat<128):128<=(Utf8.decode s i).1:=by
  unfold Utf8.decode;simp only[Nat.add_zero,Utf8.runeError];rw[if_neg h]
  repeat' split
  all_goals simp_all
  all_goals omega
theorem X20 (s:ByteArray):s.toList.length=s.size:=by rw[ByteArray.toList_eq];rfl
theorem X7X (s:ByteArray) (i:Nat) (h:i<s.toList.length):s.get! i=s.toList[i]:=by
  have a:i<s.size:=by rw[<-X20];exact h
  simp only[ByteArray.toList_eq];show(s.data[i]!)=_;have b:i<s.data.size:=a;rw[getElem!_pos s.data i b];rfl
theorem X74 (s:ByteArray):X4w s=some (X5B s):=by
  have key:=X1S (X1h s s) (fun o0=>Sum.elim (fun y1:Bool×Nat=>some y1.fst) (fun y2:Int×Nat=>bif decide ((↑(ByteArray.size s):Int)<=14)then some (y2.fst != 45)else some false) o0) s.toList.length (fun i (b:Int)=>(b,i)) (fun _ _=>True) (fun i b=>some (decide (s.size<=14)&&X4e (X5d b (s.toList.drop i))))
    (by
      intro b _ R;have hh:(decide ((↑s.size:Int)<=14))=decide (s.size<=14):=by rw[decide_eq_decide];omega
      have j:s.toList.drop s.size=[]:=jd (by rw[X20];exact Nat.le_refl _)
      simp only[j,X5d,X4e,X1h,X1j,X20,hh,Nat.lt_irrefl,decide_false,jA,jS,jy];cases decide (s.size<=14)<;>simp)
    (by
      intro i b hi _ R k;have f:i<s.size:=by rw[<-X20];exact hi
      have g:=X7X s i hi;simp only[X1h,X1j];rw[jb hi];simp only[X5d]
      by_cases h:(s.get! i).toNat<128
      · rw[X8q s i h]
        have e:=k ((s.get! i).toNat:Int) trivial;rw[g]at *;generalize s.toList[i]=c at *;simp only[f,decide_true,jB]
        by_cases h1:97<=(c.toNat:Int)
        · have q1:decide ((c.toNat:Int)>=97)=true:=decide_eq_true h1
          by_cases h2:(c.toNat:Int)<=122
          · have q2:decide ((c.toNat:Int)<=122)=true:=decide_eq_true h2
            simp only[decide_true,decide_false,q1,q2,jB,jS,jw,h1,h2,and_self,if_true];exact e
          · have q2:decide ((c.toNat:Int)<=122)=false:=decide_eq_false h2
            have a:¬((c.toNat:Int)=45):=by omega
            have q3:((c.toNat:Int) != 45)=true:=bne_iff_ne.2 a;simp only[decide_true,decide_false,q1,q2,q3,jB,jA,jS,jw,jy,h2,and_false,if_false,ne_eq,a,not_false_iff,true_or,if_true,X4e,Bool.and_false]
        · have q1:decide ((c.toNat:Int)>=97)=false:=decide_eq_false h1
          by_cases a:(c.toNat:Int)=45
          · have q3:((c.toNat:Int) != 45)=false:=by rw[a];rfl
            by_cases h4:b=45
            · have q4:(b==45)=true:=by rw[h4];rfl
              rw[q1,q3,q4,if_neg (fun hc=>h1 hc.1),if_pos (Or.inr h4)];simp[X4e]
            · have q4:(b==45)=false:=beq_eq_false_iff_ne.2 h4
              simp only[decide_true,decide_false,q1,q3,q4,jB,jA,jS,jw,jy,h1,false_and,if_false,h4,ne_eq,a,not_true,or_self,if_true];rw[a]at e;exact e
          · have q3:((c.toNat:Int) != 45)=true:=bne_iff_ne.2 a
            simp only[decide_true,decide_false,q1,q3,jB,jA,jS,jw,jy,h1,false_and,if_false,ne_eq,a,not_false_iff,true_or,if_true,X4e,Bool.and_false]
      · have h':=X8p s i h
        rw[g]at h;generalize s.toList[i]=c at *;simp only[f,decide_true,jB];generalize (Utf8.decode s i)=d at *;have e1:((d.1:Nat):Int)>=97:=by omega
        have e2:¬((d.1:Nat):Int)<=122:=by omega
        have e3:¬((d.1:Nat):Int)=45:=by omega
        have e4:¬((c.toNat:Int)<=122):=by omega
        have e5:¬((c.toNat:Int)=45):=by omega
        have q1:decide (((d.1:Nat):Int)>=97)=true:=decide_eq_true e1;have q2:decide (((d.1:Nat):Int)<=122)=false:=decide_eq_false e2;have q3:(((d.1:Nat):Int) != 45)=true:=bne_iff_ne.2 e3;simp only[decide_true,decide_false,q1,q2,q3,jB,jA,jS,jw,jy,e4,and_false,if_false,ne_eq,e5,not_false_iff,true_or,if_true,X4e,Bool.and_false])
  exact(key 0 45 (by omega) trivial).trans (by simp[X5B])
theorem X78 (s:ByteArray):X44 s=some (X5B s):=by
  unfold X44;rw[X5f];simp only[jS]
  by_cases hsz:1<=s.size/\s.size<=14
  · have e1:inN (↑s.size) 1 14=true:=by simp[inN];omega
    rw[e1];simp only[Bool.not_true,jA];have o:=X20 s;have key:=X1S (X1i s) (fun o0=>Sum.elim (fun y76:Bool=>some y76) (fun _:Unit=>some true) o0) s.toList.length (fun i (_:Int)=>(i:Int)) (fun i b=>b=if i=0 then 45 else((s.toList.getD (i-1) 0).toNat:Int)) (fun i b=>some (if i<s.toList.length then X4e (X5d b (s.toList.drop i))else true))
      (by
        intro b _ R;simp[X1i,X1p,X20])
      (by
        intro i b hi j R n;have m:i<s.size:=by rw[<-X20];exact hi
        simp only[X1i,X1p];rw[jb hi];have a:=n ((s.toList[i]).toNat:Int) (by simp[List.getD,hi])
        have l:=wS i (by omega)
        have f:IntKind.wrap .i64 ((i:Int)-1)=((i:Int)-1):=by rw[w64]<;>omega
        have e:IntKind.wrap .i64 ((s.size:Int)-1)=((s.size:Int)-1):=by rw[w64]<;>omega
        simp only[X5d,kS,Xe _ _ _ hi,l,f,e];have d1:decide ((i:Int)<↑s.size)=true:=by simp[m]
        have d2:=z0S i;simp only[d1,d2,ju,jB,hi,if_true];generalize hc:s.toList[i]=c at *
        by_cases h1:97<=(c.toNat:Int)/\(c.toNat:Int)<=122
        · have q1:decide ((c.toNat:Int)>=97)=true:=decide_eq_true h1.1
          have q2:decide ((c.toNat:Int)<=122)=true:=decide_eq_true h1.2;simp only[decide_true,decide_false,q1,q2,jB,jS,jw,h1,and_self,if_true];have d:¬((c.toNat:Int)=45):=by omega
          rw[a]
          by_cases hi2:i+1<s.toList.length
          · simp[hi2]
          · have:s.toList.drop (i+1)=[]:=jd (by omega)
            simp[hi2,this,X5d,X4e,d]
        · have g:(bif decide ((c.toNat:Int)>=97)then bif decide ((c.toNat:Int)<=122)then true else false else false)=false:=by
            by_cases a1:(c.toNat:Int)>=97
            · by_cases a2:(c.toNat:Int)<=122
              · exact absurd ⟨a1,a2⟩ h1
              · simp[a1,a2]
            · simp[a1]
          have g2:∀(Z:Type) (x y:Z),(bif decide ((c.toNat:Int)>=97)then bif decide ((c.toNat:Int)<=122)then x else y else y)=y:=by
            intro Z x y
            by_cases a1:(c.toNat:Int)>=97
            · by_cases a2:(c.toNat:Int)<=122
              · exact absurd ⟨a1,a2⟩ h1
              · simp[a1,a2]
            · simp[a1]
          rw[g2,if_neg h1]
          by_cases h2:(c.toNat:Int)=45
          · simp only[h2,bne_self_eq_false,jA]
            by_cases h3:i=0
            · subst h3
              simp[j,X4e]
            · by_cases h4:i+1=s.size
              · have:s.toList.drop (i+1)=[]:=jd (by omega)
                have e5:(i:Int)=(s.size:Int)-1:=by omega
                have e6:((s.size:Int)-1==0)=false:=by simp;omega
                simp only[e5,e6,this,X5d]
                by_cases h5:b=45<;>simp[h5,X4e]
              · have e5:((i:Int)==(s.size:Int)-1)=false:=by simp;omega
                have e6:((i:Int)==0)=false:=by simp;omega
                have e7:(0:Int)<=(i:Int)-1:=by omega
                have e8:(i:Int)-1<(s.size:Int):=by omega
                have e9:((i:Int)-1).toNat=i-1:=by omega
                simp only[e5,e6,e7,e8,e9,jA,decide_true,ju,jB];simp only[h3,if_false]at j;rw[<-j]
                by_cases h5:b=45
                · simp[h5,X4e]
                · have q5:(b==45)=false:=beq_eq_false_iff_ne.2 h5
                  rw[h2]at a;rw[q5];simp only[jA,jS,jw,ne_eq,not_true,false_or,h5,if_false];rw[a];simp[show i+1<s.toList.length by omega]
          · have:((c.toNat:Int) != 45)=true:=by simp[h2]
            simp[this,h2,X4e])
    have:=key 0 45 (by omega) (by simp)
    refine this.trans ?_;simp[X5B,show 0<s.toList.length by omega,hsz.2]
  · have e1:inN (↑s.size) 1 14=false:=by
      simp[inN];omega
    rw[e1];simp only[Bool.not_false,jB,X5B]
    by_cases h:s.size<=14
    · have k:s.toList=[]:=by
        apply List.eq_nil_of_length_eq_zero;rw[X20];omega
      simp[k,X5d,X4e]
    · simp[h]
theorem X5o (n lo hi:Int):inN n lo hi = !WP lo hi [n]:=by
  simp only[inN,X3z,X43,Bool.or_false,Bool.not_or];congr 1<;>rw[<-decide_not,decide_eq_decide]<;>omega
def X5q (lo hi:Int):Int->List Y2->Int
  | e,[]=>e
  | e,s::l=>if WP lo hi [s.Lo,s.Hi]then 7 else X5q lo hi (if s.Lo>s.Hi then 2 else e) l
theorem X6A (l:List Y2) (lo hi:Int) (h:l.length<1000000):X3m l lo hi=some (X5q lo hi 0 l):=by
  unfold X3m;exact X1S (WJ lo l hi) _ l.length (fun i (b:Int)=>(b,(i:Int))) (fun _ _=>True) (fun i b=>some (X5q lo hi b (l.drop i)))
      (by
        intro b _ R;simp[WJ,WM,X5q])
      (by
        intro i b c _ R d;simp only[WJ,WM];rw[jb c];have e:=wS i (by omega)
        simp only[kS,Xe _ _ _ c,X5q,e];rw[X5f,X5f,X5o,X5o];have g:decide ((i:Int)<↑l.length)=true:=by simp[c]
        have f:=z0S i;simp only[g,f,ju,jB,jS];have a:WP lo hi [l[i].Lo,l[i].Hi]=(WP lo hi [l[i].Lo]||WP lo hi [l[i].Hi]):=by simp[WP]
        rw[a];cases h3:WP lo hi [l[i].Lo]
        · cases h4:WP lo hi [l[i].Hi]
          · by_cases h5:l[i].Lo>l[i].Hi
            · have:=d 2 trivial
              simp only[h5];simp;simpa using this
            · have:=d b trivial
              simp only[h5];simp;simpa using this
          · simp
        · simp) 0 0 (by omega) trivial
theorem Z98 (a b:ByteArray):(a==b)=(a.data==b.data):=by cases a;cases b;rfl
instance:LawfulBEq ByteArray where
  rfl:=by intro a;rw[Z98];simp
  eq_of_beq:=by
    intro a b h;rw[Z98]at h;have:=eq_of_beq h;cases a;cases b;simp only at this;rw[this]
instance:DecidableEq ByteArray:=fun a b=>if h:(a==b)=true then isTrue (eq_of_beq h)else isFalse (fun e=>h (by rw[e];simp))
def X54 (s:ByteArray) (names:List ByteArray):Int:=if X5B s then(if s∈names then 5 else 0)else 6
theorem X72 {a b:ByteArray} (h:a.toList=b.toList):a=b:=by
  cases a;cases b;simp only[ByteArray.toList_eq]at h;congr 1;exact Array.ext' h
theorem X6S (s:ByteArray) (names:List ByteArray) (j:names.length<1000000):X3H s names=some (X54 s names):=by
  unfold X3H X54;rw[X78];simp only[jS];cases X5B s
  · simp
  · simp only[Bool.not_true,jA,if_true]
    unfold X4g;have key:=X1S (Wu s names) (fun o78=>Option.bind (Sum.elim (fun y79:Int=>some y79) (fun _:Unit=>some (-1)) o78) fun r82=>bif decide (r82>=0)then some (5:Int)else some 0) names.length (fun i (_:Unit)=>(i:Int)) (fun _ _=>True) (fun i _=>some (if s∈names.drop i then 5 else 0))
      (by
        intro b _ R;simp[Wu,X14])
      (by
        intro i b hi _ R f;have c:=f () trivial;simp only[Wu,X14];rw[jb hi];have d:=wS i (by omega)
        simp only[kS,Xe _ _ _ hi,d];have g:decide ((i:Int)<↑names.length)=true:=by simp[hi]
        have e:=z0S i;simp only[g,e,ju,jB]
        by_cases h:names[i]=s
        · simp[h]
        · have h':(names[i].toList==s.toList)=false:=by
            simp only[beq_eq_false_iff_ne];intro hh;exact h (X72 hh)
          have a:¬s=names[i]:=fun hh=>h hh.symm;simp only[h',jA,jS,jw,jv,a,false_or];exact c)
    have:=key 0 () (by omega) trivial
    simp only[List.drop_zero]at this;rw[<-this];show Option.bind (Option.bind _ _) _=Option.bind _ _;unfold X30;simp only[Int.natCast_zero];cases Za6 (Wu s names) 0<;>rfl
end Nore
open Go Go.Ab
namespace Nore
end Nore
open Go Go.Ab
namespace Nore
def spN (L H:Nat->Int):Nat->Y2:=fun j=>⟨L j,H j⟩
def X2N (f:Nat->Y2) (k:Nat) (s:Y2):Nat->Y2:=fun j=>bif Nat.beq j k then s else f j
theorem X7P (f:Nat->Y2) (k:Nat) (s s':Y2):(fun j=>bif Nat.beq j k then s' else X2N f k s j)=X2N f k s':=by
  funext j;unfold X2N;cases Nat.beq j k<;>rfl
theorem X7O (f:Nat->Y2) (k:Nat) (s:Y2):X2N f k s k=s:=by unfold X2N;simp
theorem X6W (f:Nat->Y2) {k j:Nat} (s:Y2) (h:j≠k):X2N f k s j=f j:=by
  unfold X2N;cases e:Nat.beq j k with
  | false=>rfl
  | true=>exact absurd (je e) h
def X1 (ap:List Zb):List (Nat×Nat):=ap.map fun s=>(s.from_.toNat,s.to_.toNat)
def X7D (ap:List Zb):Prop:=ap.length<=1000/\∀s∈ap,0<=s.from_/\s.from_<s.to_/\s.to_<10
def BdN (L:Nat->Int):Prop:=∀i,-1000000<=L i/\L i<=1000000
theorem X8s (L:Nat->Int) (p:Nat×Nat) (ps:List (Nat×Nat)) (i:Nat) (a:Int):X5U L (p::ps) i a=X5U L ps i (if p.2=i then(if L p.1+1>a then L p.1+1 else a)else a):=rfl
theorem X8t (H:Nat->Int) (p:Nat×Nat) (ps:List (Nat×Nat)) (i:Nat) (a:Int):X5V H (p::ps) i a=X5V H ps i (if p.1=i then(if H p.2-1<a then H p.2-1 else a)else a):=rfl
theorem X5Z (ap:List Zb) (f:X7D ap) (L H:Nat->Int) (hL:BdN L) (k:Nat) (t:k<10) (a:Int) (s : -1000000<=a/\a<=1000001) (x1 x3:Int) (x6:List Zb) (x9:Zc) (x10:Nat->Y2) :
    Wl (ap.length:Int) x1 (k:Int) x3 (k:Int) x6 ap x9 x10 (0,X2N (spN L H) k ⟨a,H k⟩)=some (X2N (spN L H) k ⟨X5U L (X1 ap) k a,H k⟩):=by
  obtain⟨w,o,n⟩:=Wv (Xu (ap.length:Int) x1 (k:Int) x3 (k:Int) x6 ap x9 x10) ap.length (fun i (b:Nat->Y2)=>((i:Int),b))
    (fun i b=>∃a',(-1000000<=a'/\a'<=1000001)/\b=X2N (spN L H) k ⟨a',H k⟩/\X5U L (X1 (ap.drop i)) k a'=X5U L (X1 ap) k a) (fun w=>w=X2N (spN L H) k ⟨X5U L (X1 ap) k a,H k⟩)
    (fun b ⟨a',_,e,h⟩=>⟨_,by simp[Xu,X7];rfl,by
      rw[e,<-h,List.drop_length];rfl⟩)
    (fun i b hi ⟨a',m,e,h⟩=>by
      right;have g:ap[i]∈ap:=jl hi;obtain⟨s1,s2,s3⟩:=f.2 _ g;have j:ap.getD i ⟨0,0⟩=ap[i]:=Xe _ _ _ hi;have e1:decide ((i:Int)<(ap.length:Int))=true:=by simp;omega
      have w1:=wS i (by have:=f.1;omega)
      have c:X1 (ap.drop i)=(ap[i].from_.toNat,ap[i].to_.toNat)::X1 (ap.drop (i+1)):=by
        rw[jb hi];rfl
      rw[c,X8s]at h;simp only at h;simp only[Xu,X7,e1,z0S,ju,jB,kS,j,w1]
      by_cases ht:ap[i].to_=(k:Int)
      · have p:ap[i].from_.toNat≠k:=by omega
        have c1:(ap[i].to_==(k:Int))=true:=by simp[ht]
        have c2:decide ((k:Int)<(10:Int))=true:=by simp;omega
        have c3:Nat.blt k 10=true:=by simp[Nat.blt_eq];omega
        have c4:decide (0<=ap[i].from_)=true:=by simp[s1]
        have c5:decide (ap[i].from_<(10:Int))=true:=by simp;omega
        have c6:Nat.blt ap[i].from_.toNat 10=true:=by rw[Nat.blt_eq];omega
        have hv:=hL ap[i].from_.toNat;have r:(b ap[i].from_.toNat).Lo=L ap[i].from_.toNat:=by rw[e,X6W _ _ p];rfl
        have q:b k=⟨a',H k⟩:=by rw[e,X7O]
        have w2:IntKind.wrap .i64 (L ap[i].from_.toNat+1)=L ap[i].from_.toNat+1:=by rw[w64]<;>omega
        simp only[c1,c2,c3,c4,c5,c6,jB,ju,r,q,w2];have d:ap[i].to_.toNat=k:=by omega
        rw[if_pos d]at h;refine⟨_,rfl,(if L ap[i].from_.toNat+1>a' then L ap[i].from_.toNat+1 else a'),by split<;>omega,?_,h⟩
        rw[e,X7P]
        by_cases hc:L ap[i].from_.toNat+1>a'<;>simp[hc]
      · have c1:(ap[i].to_==(k:Int))=false:=X2O ht
        simp only[c1,jA];have d:¬ap[i].to_.toNat=k:=by omega
        rw[if_neg d]at h;exact⟨_,rfl,a',m,e,h⟩) 0 _ (Nat.zero_le _) ⟨a,s,rfl,rfl⟩
  have l:Wl (ap.length:Int) x1 (k:Int) x3 (k:Int) x6 ap x9 x10 (0,X2N (spN L H) k ⟨a,H k⟩)=some w:=o;rw[l,n]
theorem X7z (ap:List Zb) (b:X7D ap) (L H:Nat->Int) (hL:BdN L) (k:Nat) (c:k<10) (a:Int) (d : -1000000<=a/\a<=1000001) (x1 x3:Int) (x6:List Zb) (x9:Zc) (x10:Nat->Y2) :
    X1a (ap.length:Int) x1 (k:Int) x3 (k:Int) x6 ap x9 x10 (0,X2N (spN L H) k ⟨a,H k⟩)=some (X2N (spN L H) k ⟨X5U L (X1 ap) k a,H k⟩) :=
  X5Z ap b L H hL k c a d x1 x3 x6 x9 x10
theorem X60 (ap:List Zb) (f:X7D ap) (L H:Nat->Int) (r:BdN H) (k:Nat) (u:k<10) (a:Int) (t : -1000001<=a/\a<=1000000) (x2:Int) (x5:List Zb) (x7:Zc) (x8:Nat->Y2) :
    Wn ap x2 (ap.length:Int) (k:Int) x5 x7 x8 (0,X2N (spN L H) k ⟨L k,a⟩)=some (X2N (spN L H) k ⟨L k,X5V H (X1 ap) k a⟩):=by
  obtain⟨w,o,n⟩:=Wv (Xw ap x2 (ap.length:Int) (k:Int) x5 x7 x8) ap.length (fun i (b:Nat->Y2)=>((i:Int),b))
    (fun i b=>∃a',(-1000001<=a'/\a'<=1000000)/\b=X2N (spN L H) k ⟨L k,a'⟩/\X5V H (X1 (ap.drop i)) k a'=X5V H (X1 ap) k a) (fun w=>w=X2N (spN L H) k ⟨L k,X5V H (X1 ap) k a⟩)
    (fun b ⟨a',_,e,h⟩=>⟨_,by simp[Xw,X8];rfl,by
      rw[e,<-h,List.drop_length];rfl⟩)
    (fun i b hi ⟨a',m,e,h⟩=>by
      right;have g:ap[i]∈ap:=jl hi;obtain⟨s1,s2,s3⟩:=f.2 _ g;have j:ap.getD i ⟨0,0⟩=ap[i]:=Xe _ _ _ hi;have e1:decide ((i:Int)<(ap.length:Int))=true:=by simp;omega
      have w1:=wS i (by have:=f.1;omega)
      have c:X1 (ap.drop i)=(ap[i].from_.toNat,ap[i].to_.toNat)::X1 (ap.drop (i+1)):=by
        rw[jb hi];rfl
      rw[c,X8t]at h;simp only at h;simp only[Xw,X8,e1,z0S,ju,jB,kS,j,w1]
      by_cases ht:ap[i].from_=(k:Int)
      · have p:ap[i].to_.toNat≠k:=by omega
        have c1:(ap[i].from_==(k:Int))=true:=by simp[ht]
        have c2:decide ((k:Int)<(10:Int))=true:=by simp;omega
        have c3:Nat.blt k 10=true:=by simp[Nat.blt_eq];omega
        have c4:decide (0<=ap[i].to_)=true:=by simp;omega
        have c5:decide (ap[i].to_<(10:Int))=true:=by simp;omega
        have c6:Nat.blt ap[i].to_.toNat 10=true:=by rw[Nat.blt_eq];omega
        have hv:=r ap[i].to_.toNat;have s:(b ap[i].to_.toNat).Hi=H ap[i].to_.toNat:=by rw[e,X6W _ _ p];rfl
        have q:b k=⟨L k,a'⟩:=by rw[e,X7O]
        have w2:IntKind.wrap .i64 (H ap[i].to_.toNat-1)=H ap[i].to_.toNat-1:=by rw[w64]<;>omega
        simp only[c1,c2,c3,c4,c5,c6,jB,ju,s,q,w2];have d:ap[i].from_.toNat=k:=by omega
        rw[if_pos d]at h;refine⟨_,rfl,(if H ap[i].to_.toNat-1<a' then H ap[i].to_.toNat-1 else a'),by split<;>omega,?_,h⟩
        rw[e,X7P]
        by_cases hc:H ap[i].to_.toNat-1<a'<;>simp[hc]
      · have c1:(ap[i].from_==(k:Int))=false:=X2O ht
        simp only[c1,jA];have d:¬ap[i].from_.toNat=k:=by omega
        rw[if_neg d]at h;exact⟨_,rfl,a',m,e,h⟩) 0 _ (Nat.zero_le _) ⟨a,t,rfl,rfl⟩
  have l:Wn ap x2 (ap.length:Int) (k:Int) x5 x7 x8 (0,X2N (spN L H) k ⟨L k,a⟩)=some w:=o;rw[l,n]
theorem X7B (ap:List Zb) (b:X7D ap) (L H:Nat->Int) (e:BdN H) (k:Nat) (c:k<10) (a:Int) (d : -1000001<=a/\a<=1000000) (x2:Int) (x5:List Zb) (x7:Zc) (x8:Nat->Y2) :
    X1b ap x2 (ap.length:Int) (k:Int) x5 x7 x8 (0,X2N (spN L H) k ⟨L k,a⟩)=some (X2N (spN L H) k ⟨L k,X5V H (X1 ap) k a⟩) :=
  X60 ap b L H e k c a d x2 x5 x7 x8
end Nore
open Go Go.Ab
namespace Nore
theorem X8j (ap:List (Nat×Nat)) (L:Nat->Int) (a b:Int) (hL:∀i,a<=L i/\L i<=b):∀(k j:Nat),a<=WB ap k L j/\WB ap k L j<=b+k
  | 0,j=>by
    have:=hL j;show a<=L j/\L j<=b+((0:Nat):Int);omega
  | k+1,j=>by
    have ih:=X8j ap L a b hL k;unfold WB;split
    · unfold up1
      obtain⟨g,_⟩:=X7t (WB ap k L) k ap (if 0<k then(if WB ap k L (k-1)>WB ap k L k then WB ap k L (k-1)else WB ap k L k)else WB ap k L k);have i1:=ih k;have i2:=ih (k-1);refine⟨Int.le_trans ?_ g,X7u _ _ _ _ _ ?_ fun p _ _=>?_⟩
      · split
        · split<;>omega
        · omega
      · split
        · split<;>omega
        · omega
      · have:=ih p.1
        omega
    · have:=ih j
      omega
theorem X8a (n:Nat) (ap:List (Nat×Nat)) (H:Nat->Int) (a b:Int) (c:∀i,a<=H i/\H i<=b):∀(k j:Nat),a-k<=WA n ap k H j/\WA n ap k H j<=b
  | 0,j=>by
    have:=c j;show a-((0:Nat):Int)<=H j/\H j<=b;omega
  | k+1,j=>by
    have ih:=X8a n ap H a b c k;unfold WA;split
    · unfold dn1
      obtain⟨g,_⟩:=X7w (WA n ap k H) (n-1-k) ap (if n-1-k+1<n then(if WA n ap k H (n-1-k+1)<WA n ap k H (n-1-k)then WA n ap k H (n-1-k+1)else WA n ap k H (n-1-k))else WA n ap k H (n-1-k));have i1:=ih (n-1-k);have i2:=ih (n-1-k+1);refine⟨X7v _ _ _ _ _ ?_ fun p _ _=>?_,Int.le_trans g ?_⟩
      · split
        · split<;>omega
        · omega
      · have:=ih p.2
        omega
      · split
        · split<;>omega
        · omega
    · have:=ih j
      omega
theorem X7k (f:Nat->Y2) (k:Nat):X2N f k (f k)=f:=by
  funext j;unfold X2N;cases e:Nat.beq j k with
  | false=>rfl
  | true=>rw[je e];rfl
theorem X8g (ap:List (Nat×Nat)) (L H:Nat->Int) (i:Nat):X2N (spN (WB ap i L) H) i ⟨up1 ap (WB ap i L) i,H i⟩=spN (WB ap (i+1) L) H:=by
  funext j;unfold X2N spN;cases e:Nat.beq j i with
  | false =>
    have:j≠i:=fun h=>by subst h;simp at e
    show(⟨WB ap i L j,H j⟩:Y2)=⟨if j=i then _ else _,H j⟩;rw[if_neg this]
  | true =>
    have:=je e;subst this;show(⟨_,_⟩:Y2)=⟨if j=j then _ else _,H j⟩;rw[if_pos rfl]
theorem X8R (n:Nat) (ap:List (Nat×Nat)) (L H:Nat->Int) (i:Nat):X2N (spN L (WA n ap i H)) (n-1-i) ⟨L (n-1-i),dn1 n ap (WA n ap i H) (n-1-i)⟩=spN L (WA n ap (i+1) H):=by
  funext j;unfold X2N spN;cases e:Nat.beq j (n-1-i)with
  | false =>
    have:j≠n-1-i:=fun h=>by subst h;simp at e
    show(⟨L j,WA n ap i H j⟩:Y2)=⟨L j,if j=n-1-i then _ else _⟩;rw[if_neg this]
  | true =>
    have:=je e;subst this;show(⟨_,_⟩:Y2)=⟨L (n-1-i),if n-1-i=n-1-i then _ else _⟩;rw[if_pos rfl]
theorem X7y (ap:List Zb) (c:X7D ap) (L H:Nat->Int) (hL:∀i,-900000<=L i/\L i<=900000) (n:Nat) (p:n<=10) (x1:Int) (x5:Zc) (x6:Nat->Y2) :
    Wk (n:Int) x1 ap x5 x6 (0,spN L H)=some (spN (WB (X1 ap) n L) H):=by
  obtain⟨w,m,k⟩:=Wv (Xt (n:Int) x1 ap x5 x6) n (fun i (b:Nat->Y2)=>((i:Int),b))
    (fun i b=>b=spN (WB (X1 ap) i L) H) (fun w=>w=spN (WB (X1 ap) n L) H)
    (fun b d=>⟨b,by simp[Xt,XH],d⟩)
    (fun i b hi d=>by
      right;have e1:decide ((i:Int)<(n:Int))=true:=by simp;omega
      have w1:=wS i (by omega)
      have f:=X8j (X1 ap) L _ _ hL i;have h:BdN (WB (X1 ap) i L):=fun j=>by have:=f j;omega
      have o:=f i;simp only[Xt,XH,e1,jB,w1,kS]
      by_cases h0:0<i
      · have l:=f (i-1)
        have c1:decide ((i:Int)>0)=true:=by simp;omega
        have c2:decide ((i:Int)<(10:Int))=true:=by simp;omega
        have c3:Nat.blt i 10=true:=by rw[Nat.blt_eq];omega
        have w2:IntKind.wrap .i64 ((i:Int)-1)=((i-1:Nat):Int):=by rw[w64]<;>omega
        have c4:decide (((i-1:Nat):Int)<(10:Int))=true:=by simp;omega
        have c5:Nat.blt (i-1) 10=true:=by rw[Nat.blt_eq];omega
        simp only[c1,c2,c3,w2,c4,c5,z0S,kS,ju,jB];have a:(fun j=>bif Nat.beq j i then(⟨bif decide ((b (i-1)).Lo>(b i).Lo)then(b (i-1)).Lo else(b i).Lo,(b i).Hi⟩:Y2)else b j)=X2N (spN (WB (X1 ap) i L) H) i ⟨if WB (X1 ap) i L (i-1)>WB (X1 ap) i L i then WB (X1 ap) i L (i-1)else WB (X1 ap) i L i,H i⟩:=by
          rw[d];funext j;unfold X2N spN
          by_cases hc:WB (X1 ap) i L (i-1)>WB (X1 ap) i L i<;>simp[hc]
        rw[a,X5Z ap c _ H h i (by omega) _ (by split<;>omega)]
        refine⟨_,rfl,?_⟩;rw[<-X8g];unfold up1;rw[if_pos h0]
      · have g:i=0:=by omega
        subst g;have c1:decide (((0:Nat):Int)>0)=false:=rfl;simp only[c1,jA];have a:b=X2N (spN (WB (X1 ap) 0 L) H) 0 ⟨WB (X1 ap) 0 L 0,H 0⟩:=by
          rw[d];exact(X7k (spN (WB (X1 ap) 0 L) H) 0).symm
        rw[a,X7z ap c _ H h 0 (by omega) _ (by omega)]
        refine⟨_,rfl,?_⟩;rw[<-X8g];rfl) 0 _ (Nat.zero_le _) rfl
  have e:Wk (n:Int) x1 ap x5 x6 (0,spN L H)=some w:=m;rw[e,k]
theorem X7A (ap:List Zb) (d:X7D ap) (L H:Nat->Int) (r:∀i,-900000<=H i/\H i<=900000) (n:Nat) (t:n<=10) (x4:Zc) (x5:Nat->Y2) :
    Wm (n:Int) ap x4 x5 ((n:Int)-1,spN L H)=some (spN L (WA n (X1 ap) n H)):=by
  obtain⟨w,l,o⟩:=Wv (Xv (n:Int) ap x4 x5) n (fun i (b:Nat->Y2)=>((n:Int)-1-i,b))
    (fun i b=>b=spN L (WA n (X1 ap) i H)) (fun w=>w=spN L (WA n (X1 ap) n H))
    (fun b e=>⟨b,by
      have e1:decide ((n:Int)-1-(n:Int)>=0)=false:=by simp;omega
      simp only[Xv,XI,e1,jA],e⟩)
    (fun i b hi e=>by
      right;obtain⟨k,q⟩:∃k:Nat,k=n-1-i:=⟨_,rfl⟩;have f:(n:Int)-1-i=(k:Int):=by omega
      have e1:decide ((k:Int)>=0)=true:=by simp
      have w1:=wS k (by omega)
      have w3:IntKind.wrap .i64 ((k:Int)-1)=(n:Int)-1-((i+1:Nat):Int):=by rw[w64]<;>omega
      have g:=X8a n (X1 ap) H _ _ r i;have m:BdN (WA n (X1 ap) i H):=fun j=>by have:=g j;omega
      have p:=g k;have a:=X8R n (X1 ap) L H i;rw[<-q]at a;unfold dn1 at a;simp only[f,Xv,XI,e1,jB,w1,kS,w3]
      by_cases h0:k+1<n
      · have s:=g (k+1)
        have c1:decide (((k+1:Nat):Int)<(n:Int))=true:=by simp;omega
        have c2:decide ((k:Int)<(10:Int))=true:=by simp;omega
        have c3:Nat.blt k 10=true:=by rw[Nat.blt_eq];omega
        have c4:decide (((k+1:Nat):Int)<(10:Int))=true:=by simp;omega
        have c5:Nat.blt (k+1) 10=true:=by rw[Nat.blt_eq];omega
        simp only[c1,c2,c3,c4,c5,z0S,kS,ju,jB];have c:(fun j=>bif Nat.beq j k then(⟨(b k).Lo,bif decide ((b (k+1)).Hi<(b k).Hi)then(b (k+1)).Hi else(b k).Hi⟩:Y2)else b j)=X2N (spN L (WA n (X1 ap) i H)) k ⟨L k,if WA n (X1 ap) i H (k+1)<WA n (X1 ap) i H k then WA n (X1 ap) i H (k+1)else WA n (X1 ap) i H k⟩:=by
          rw[e];funext j;unfold X2N spN
          by_cases hc:WA n (X1 ap) i H (k+1)<WA n (X1 ap) i H k<;>simp[hc]
        rw[c,X60 ap d L _ m k (by omega) _ (by split<;>omega)]
        refine⟨_,rfl,?_⟩;rw[if_pos h0]at a;exact a
      · have c1:decide (((k+1:Nat):Int)<(n:Int))=false:=by simp;omega
        simp only[c1,jA];have c:b=X2N (spN L (WA n (X1 ap) i H)) k ⟨L k,WA n (X1 ap) i H k⟩:=by
          rw[e];exact(X7k (spN L (WA n (X1 ap) i H)) k).symm
        rw[c,X7B ap d L _ m k (by omega) _ (by omega)]
        refine⟨_,rfl,?_⟩;rw[if_neg h0]at a;exact a) 0 _ (Nat.zero_le _) rfl
  have e0:(n:Int)-1-((0:Nat):Int)=(n:Int)-1:=by omega
  rw[e0]at l;have h:Wm (n:Int) ap x4 x5 ((n:Int)-1,spN L H)=some w:=l;rw[h,o]
def X75 (L H:Nat->Int) (ap:List Zb):Con:=⟨L,H,X1 ap⟩
theorem X85 (q:Zc) (L H:Nat->Int) (ap:List Zb) (g:X7D ap) (hL:∀i,-900000<=L i/\L i<=900000) (s:∀i,-900000<=H i/\H i<=900000) (m:q.CoRecord.Entries.length<=10) :
    Wi q (spN L H) ap=some (spN (X4z q.CoRecord.Entries.length (X75 L H ap)) (X4y q.CoRecord.Entries.length (X75 L H ap)),okN q.CoRecord.Entries.length (X75 L H ap)):=by
  rw[X39];unfold W9;generalize q.CoRecord.Entries.length=n at m;have w1:IntKind.wrap .i64 ((n:Int)-1)=(n:Int)-1:=by rw[w64]<;>omega
  rw[X7y ap g L H hL n m];simp only[jS,w1];rw[X7A ap g _ H s n m];have c1:decide ((n:Int)<=(10:Int))=true:=by simp;omega
  simp only[jS,z0S,c1,ju,jB,kS,List.drop_zero];have c:(List.map (spN (WB (X1 ap) n L) (WA n (X1 ap) n H)) (List.range 10)).take n=(List.range n).map (spN (X4z n (X75 L H ap)) (X4y n (X75 L H ap))):=by
    rw[<-List.map_take,List.take_range,Nat.min_eq_left m];rfl
  rw[c];generalize hA:X4z n (X75 L H ap)=A;generalize hB:X4y n (X75 L H ap)=B;have a:((List.range n).map (spN A B)).length=n:=by simp
  obtain⟨w,u,r⟩:=Wv (Xx (n:Int) ((List.range n).map (spN A B))) n (fun i (_:Unit)=>(i:Int)) (fun i _=>∀j,j<i->A j<=B j)
    (fun w=>(∃j:Nat,w=.inl (j:Int)/\¬∀i,i<n->A i<=B i)\/(w=.inr ()/\∀i,i<n->A i<=B i))
    (fun _ h=>⟨.inr (),by simp[Xx,XJ],.inr ⟨rfl,h⟩⟩)
    (fun i _ hi h=>by
      have e1:decide ((i:Int)<(n:Int))=true:=by simp;omega
      have l:((List.range n).map (spN A B)).getD i ⟨0,0⟩=⟨A i,B i⟩:=by
        rw[Xe _ _ _ (by rw[a];exact hi)]
        simp[spN]
      have w1:=wS i (by omega)
      simp only[Xx,XJ,e1,a,z0S,ju,jB,kS,l,w1];rw[X2L];unfold XZ;simp only[jS]
      by_cases hc:A i>B i
      · left
        exact⟨.inl (i:Int),by simp[hc],.inl ⟨i,rfl,fun k=>by have:=k i hi;omega⟩⟩
      · right
        refine⟨(),by simp[hc],fun j t=>?_⟩
        by_cases e:j=i
        · subst e;omega
        · exact h j (by omega)) 0 () (Nat.zero_le _) (fun j t=>by omega)
  have p:X1c (n:Int) ((List.range n).map (spN A B)) 0=some w:=u;have d:WB (X1 ap) n L=A:=hA;have b:WA n (X1 ap) n H=B:=hB;rw[a,p,d,b];rcases r with⟨k,rfl,o⟩|⟨rfl,f⟩
  · have:okN n (X75 L H ap)=false:=by
      rw[Bool.eq_false_iff];intro h;rw[X5X,hA,hB]at h;exact o h
    rw[this];simp
  · have:okN n (X75 L H ap)=true:=by
      rw[X5X,hA,hB];exact f
    rw[this];simp
end Nore
open Go Go.Ab
namespace Nore
def gtN (l:List Int) (i:Nat):Int:=l.getD i 0
structure X8Z (n:Nat) (c:Con) (A B:Nat->Int) (lo hi:List Int):Prop where
  l1:lo.length=n
  l2:hi.length=n
  bd:∀i,i<n->c.lo i<=gtN lo i/\gtN lo i<=A i/\B i<=gtN hi i/\gtN hi i<=c.hi i
end Nore
open Go Go.Ab
namespace Nore
def OkR (n:Nat) (ap:List Z6):Prop:=ap.length<=1000000/\∀s∈ap,0<=s.from_/\s.from_<s.to_/\s.to_<n
end Nore
open Go Go.Ab
namespace Nore
structure X8Y (n:Nat) (x:Z8):Prop where
  l1:x.lo.length=n
  l2:x.hi.length=n
  ap:OkR n x.later
  bd:∀i,i<n -> -900000<=gtN x.lo i/\gtN x.lo i<=900000 /\ -900000<=gtN x.hi i/\gtN x.hi i<=900000
end Nore
open Go Go.Ab
namespace Nore
def X5M (dev st:Int):List Zq->Nat->Int->Int->List Z6
  | [],i,now,fr=>if now=st then [⟨fr,i⟩]else []
  | x::xs,i,now,fr=>if x.Device=dev then(if now=st then [⟨fr,i⟩]else [])++X5M dev st xs (i+1) x.State i else X5M dev st xs (i+1) now fr
theorem X5j (dev st:Int) (i:Nat) (now fr:Int):X5M dev st [] i now fr=if now=st then [⟨fr,i⟩]else []:=rfl
theorem X3B (dev st:Int) (x:Zq) (xs:List Zq) (i:Nat) (now fr:Int):X5M dev st (x::xs) i now fr=if x.Device=dev then(if now=st then [⟨fr,i⟩]else [])++X5M dev st xs (i+1) x.State i else X5M dev st xs (i+1) now fr:=rfl
theorem X6D {c d:Con} (g:∀i,c.lo i=d.lo i) (f:∀i,c.hi i=d.hi i) (h:c.ap=d.ap):c=d:=by
  obtain⟨a,b,e⟩:=c;obtain⟨a',b',e'⟩:=d;have g:a=a':=funext g;have f:b=b':=funext f;simp only at h;rw[g,f,h]
end Nore
open Go Go.Ab
namespace Nore
end Nore
open Go Go.Ab
namespace Nore
theorem X8H {σ ω:Type} {st st':σ->Option (σ⊕ω)} (h:∀s x,st s=some x->st' s=some x) {s:σ} {w:ω} (hr:Za6 st s=some w):Za6 st' s=some w:=by
  rw[Z29]at hr⊢
  induction hr with
  | done e=>exact .done (h _ _ e)
  | next e _ ih=>exact .next (h _ _ e) ih
theorem X7h {α β:Type} {t:(α->Option β)->α->Option β} (ht:∀f g:α->Option β,(∀x r,f x=some r->g x=some r)->∀x r,t f x=some r->t g x=some r) :
    ∀(n:Nat) (x:α) (r:β),Z9C t n x=some r->Z9C t (n+1) x=some r
  | 0,_,_,h=>by cases h
  | n+1,x,r,h=>ht _ _ (X7h ht n) x r h
theorem ZfI {α β:Type} {t:(α->Option β)->α->Option β} (ht:∀f g:α->Option β,(∀x r,f x=some r->g x=some r)->∀x r,t f x=some r->t g x=some r) (n:Nat) :
    ∀(k:Nat) (x:α) (r:β),Z9C t n x=some r->Z9C t (n+k) x=some r
  | 0,_,_,h=>h
  | k+1,x,r,h=>X7h ht (n+k) x r (ZfI ht n k x r h)
theorem X83 {α β:Type} {t:(α->Option β)->α->Option β} (ht:∀f g:α->Option β,(∀x r,f x=some r->g x=some r)->∀x r,t f x=some r->t g x=some r) {n:Nat} {x:α} {r:β} (h:Z9C t n x=some r):Zba t x=some r:=by
  refine Zk8 (fun m q b=>?_) ⟨n,r,h⟩;have c:=ZfI ht n m x r h;have a:=ZfI ht m n x q b;rw[Nat.add_comm]at a;rw[c]at a;exact(Option.some.inj a).symm
theorem X6E (dev st:Int) (n:Nat):∀(e:List Zq) (i:Nat) (now fr:Int),i+e.length=n -> -1<=fr->fr<i->((X5M dev st e i now fr).length<=e.length+1)/\∀s∈X5M dev st e i now fr,-1<=s.from_/\s.from_<s.to_/\s.to_<=n
  | [],i,now,fr,h,h1,h2=>by
    simp only[List.length_nil,Nat.add_zero]at h;rw[X5j];split
    · refine⟨by simp,fun s a=>?_⟩
      rw[List.mem_singleton.1 a];simp only;omega
    · exact⟨by simp,fun s a=>by cases a⟩
  | x::xs,i,now,fr,h,h1,h2=>by
    simp only[List.length_cons]at h;rw[X3B];split
    · obtain⟨g1,g2⟩:=X6E dev st n xs (i+1) x.State i (by omega) (by omega) (by omega)
      split
      · refine⟨by simp only[List.length_append,List.length_cons,List.length_nil];omega,fun s a=>?_⟩
        rcases List.mem_append.1 a with q|q
        · rw[List.mem_singleton.1 q]
          simp only;omega
        · exact g2 s q
      · refine⟨by simp only[List.nil_append,List.length_cons];omega,fun s a=>g2 s (by simpa using a)⟩
    · obtain⟨g1,g2⟩:=X6E dev st n xs (i+1) now fr (by omega) h1 (by omega)
      exact⟨by simp only[List.length_cons];omega,g2⟩
end Nore
open Go Go.Ab
namespace Nore
def X62 (r:CoRecord) (x:Zr):List Z6:=X5M x.Device x.State r.Entries 0 (r.Devices.getD x.Device.toNat ⟨ByteArray.empty,0,0⟩).First (-1)
def X3u (s:Z6):Str:=(s.from_,s.to_.toNat)
def X3q (r:CoRecord) (x:Zr):Wit:=⟨(X62 r x).map X3u,x.At.Lo,x.At.Hi⟩
structure X4Q (r:CoRecord) (x:Zr):Prop where
  dev:0<=x.Device/\x.Device<r.Devices.length
  lo : -900000<=x.At.Lo/\x.At.Lo<900000
  hi : -900000<=x.At.Hi/\x.At.Hi<=900000
theorem X8I {r:CoRecord} (x:Zr) {n:Nat} (d:r.Entries.length=n):(X62 r x).length<=n+1/\∀s∈X62 r x,0<=s.to_/\X6g n (X3u s):=by
  obtain⟨a,c⟩:=X6E x.Device x.State n r.Entries 0 (r.Devices.getD x.Device.toNat ⟨ByteArray.empty,0,0⟩).First (-1) (by omega) (by omega) (by omega)
  rw[d]at a;refine⟨a,fun s b=>?_⟩;have:=c s b;unfold X6g X3u;simp only;omega
end Nore
open Go Go.Ab
namespace Nore
end Nore
open Go Go.Ab
namespace Nore
def X88 (r:CoRecord):Prop:=r.Entries.length<=10/\∀x∈r.Entries,-900000<=x.At.Lo/\x.At.Lo<=900000 /\ -900000<=x.At.Hi/\x.At.Hi<=900000
end Nore
open Go Go.Ab
namespace Nore
def LeO {β:Type} (a b:Option β):Prop:=∀r,a=some r->b=some r
theorem LeO.same {β:Type} (a:Option β):LeO a a:=fun _ h=>h
theorem LeO.cond {β:Type} {c:Bool} {a a' b b':Option β} (d:LeO a a') (e:LeO b b'):LeO (bif c then a else b) (bif c then a' else b'):=by
  cases c
  · exact e
  · exact d
theorem LeO.bind {α β:Type} {o o':Option α} {k k':α->Option β} (b:LeO o o') (c:∀a,LeO (k a) (k' a)):LeO (o.bind k) (o'.bind k'):=fun r h=>by
  cases o with
  | none=>cases h
  | some a=>rw[b a rfl];exact c a r h
theorem LeO.run {σ ω:Type} {st st':σ->Option (σ⊕ω)} (h:∀s,LeO (st s) (st' s)) (s:σ):LeO (Za6 st s) (Za6 st' s):=fun _ hr=>X8H h hr
theorem X73 (f g:((Nat->Y2)×Int×(List Zb)×Zc×Bool×Zc×Zc)->Option ((Bool×Zc×Bool×Zc×Zc)⊕(Bool×Zc×Bool×Zc×Zc))) (h:∀x,LeO (f x) (g x)) (x):LeO (X2 f x) (X2 g x):=by
  unfold X2 X9;refine .bind (.same _) fun a=>.cond (.same _) (.cond (.same _) (.cond (.cond (.cond (.cond (.bind ?_ fun _=>.same _) (.same _)) (.same _)) (.same _)) (.same _)));unfold XF;refine LeO.run (fun s=>?_) _;unfold X6 X0;dsimp only
  repeat' (first|with_reducible exact LeO.same _|with_reducible exact LeO.bind (h _) fun _=>LeO.same _|with_reducible apply LeO.cond)
end Nore
open Go Go.Ab
namespace Nore
def X2J (u:Nat->Y2) (ap:List Zb):Con:=X75 (fun j=>(u j).Lo) (fun j=>(u j).Hi) ap
def UBd (u:Nat->Y2):Prop:=∀i,-900000<=(u i).Lo/\(u i).Lo<=900000 /\ -900000<=(u i).Hi/\(u i).Hi<=900000
def ApK (n k:Nat) (ap:List Zb):Prop:=ap.length<=k/\∀s∈ap,0<=s.from_/\s.from_<s.to_/\s.to_<n
theorem ApK.bd {n k:Nat} {ap:List Zb} (h:ApK n k ap) (c:n<=10) (a:k<=1000):X7D ap:=⟨Nat.le_trans h.1 a,fun s b=>by have:=h.2 s b;omega⟩
theorem ApK.keep {n k:Nat} {ap:List Zb} (h:ApK n k ap):ApK n (k+1) ap:=⟨Nat.le_succ_of_le h.1,h.2⟩
theorem ApK.add {n k:Nat} {ap:List Zb} (h:ApK n k ap) {f t:Nat} (c:f<t) (b:t<n):ApK n (k+1) (ap++[⟨(f:Int),(t:Int)⟩]) :=
  ⟨by rw[List.length_append,List.length_singleton];exact Nat.succ_le_succ h.1,fun s a=>by
    rcases List.mem_append.1 a with q|q
    · exact h.2 s q
    · rw[List.mem_singleton.1 q];simp only;omega⟩
theorem X6X (q:Zc) (u:Nat->Y2) (ap:List Zb) {k:Nat} (a:UBd u) (b:ApK q.CoRecord.Entries.length k ap) (d:k<=1000) (c:q.CoRecord.Entries.length<=10) :
    Wi q u ap=some (spN (X4z q.CoRecord.Entries.length (X2J u ap)) (X4y q.CoRecord.Entries.length (X2J u ap)),okN q.CoRecord.Entries.length (X2J u ap)) :=
  X85 q (fun j=>(u j).Lo) (fun j=>(u j).Hi) ap (b.bd c d) (fun i=>⟨(a i).1,(a i).2.1⟩) (fun i=>⟨(a i).2.2.1,(a i).2.2.2⟩) c
def X4R (u:Nat->Y2) (f:Nat) (b:Int):Nat->Y2:=fun j=>bif Nat.beq j f then Y2.mk (u f).Lo (bif decide (b<(u f).Hi)then b else(u f).Hi)else u j
def X4S (u:Nat->Y2) (t:Nat) (a:Int):Nat->Y2:=fun j=>bif Nat.beq j t then Y2.mk (bif decide (a>(u t).Lo)then a else(u t).Lo) (u t).Hi else u j
theorem X5N (u:Nat->Y2) (f:Nat) (b:Int) (j:Nat):(X4R u f b j).Lo=(u j).Lo:=by
  unfold X4R;cases e:Nat.beq j f with
  | true=>rw[je e];rfl
  | false=>rfl
theorem X6G (u:Nat->Y2) (f:Nat) (b:Int) (j:Nat):(X4R u f b j).Hi=if j=f then(if b<(u f).Hi then b else(u f).Hi)else(u j).Hi:=by
  unfold X4R;cases e:Nat.beq j f with
  | true =>
    rw[if_pos (je e)]
    by_cases c:b<(u f).Hi<;>simp[c]
  | false=>rw[if_neg (Nat.ne_of_beq_eq_false e)];rfl
theorem X6H (u:Nat->Y2) (f:Nat) (b:Int) (j:Nat):(X4S u f b j).Hi=(u j).Hi:=by
  unfold X4S;cases e:Nat.beq j f with
  | true=>rw[je e];rfl
  | false=>rfl
theorem X6I (u:Nat->Y2) (f:Nat) (b:Int) (j:Nat):(X4S u f b j).Lo=if j=f then(if b>(u f).Lo then b else(u f).Lo)else(u j).Lo:=by
  unfold X4S;cases e:Nat.beq j f with
  | true =>
    rw[if_pos (je e)]
    by_cases c:b>(u f).Lo<;>simp[c]
  | false=>rw[if_neg (Nat.ne_of_beq_eq_false e)];rfl
theorem UBd.hi {u:Nat->Y2} (h:UBd u) (f:Nat) {b:Int} (c : -900000<=b/\b<=900000):UBd (X4R u f b):=fun i=>by
  rw[X5N,X6G];have a:=h i;have d:=h f;refine⟨a.1,a.2.1,?_⟩;split
  · split<;>omega
  · exact a.2.2
theorem UBd.lo {u:Nat->Y2} (h:UBd u) (f:Nat) {b:Int} (c : -900000<=b/\b<=900000):UBd (X4S u f b):=fun i=>by
  rw[X6I,X6H];have a:=h i;have d:=h f;refine⟨?_,?_,a.2.2⟩
  · split
    · split<;>omega
    · exact a.1
  · split
    · split<;>omega
    · exact a.2.1
theorem X82 (ap:List Zb) (f t:Nat):X1 (ap++[⟨(f:Int),(t:Int)⟩])=X1 ap++[(f,t)]:=by
  unfold X1;rw[List.map_append];rfl
theorem X8o (u:Nat->Y2) (ap:List Zb) {n f t:Nat} (ht:t<n) (a b:Int):X2J (X4S (X4R u f b) t (a+1)) (ap++[⟨(f:Int),(t:Int)⟩])=X32 n (X2J u ap) ((f:Int),t) a b:=by
  refine X6D (fun i=>?_) (fun i=>?_) ?_
  · show(X4S (X4R u f b) t (a+1) i).Lo=if t<n/\i=t then(if a+1>(u i).Lo then a+1 else(u i).Lo)else(u i).Lo
    rw[X6I,X5N,X5N]
    by_cases e:i=t
    · subst e;simp[ht]
    · rw[if_neg e,if_neg fun h=>e h.2]
  · show(X4S (X4R u f b) t (a+1) i).Hi=if 0<=(f:Int)/\i=(f:Int).toNat then(if b<(u i).Hi then b else(u i).Hi)else(u i).Hi
    rw[X6H,X6G,kS]
    by_cases e:i=f
    · subst e;simp
    · rw[if_neg e,if_neg fun h=>e h.2]
  · show X1 (ap++[⟨(f:Int),(t:Int)⟩])=if 0<=(f:Int)/\t<n then X1 ap++[((f:Int).toNat,t)]else X1 ap
    rw[if_pos ⟨by omega,ht⟩,X82,kS]
theorem X8L (u:Nat->Y2) (ap:List Zb) {n f t:Nat} (ht:¬t<n) (a b:Int):X2J (X4R u f b) ap=X32 n (X2J u ap) ((f:Int),t) a b:=by
  refine X6D (fun i=>?_) (fun i=>?_) ?_
  · show(X4R u f b i).Lo=if t<n/\i=t then(if a+1>(u i).Lo then a+1 else(u i).Lo)else(u i).Lo
    rw[X5N,if_neg fun h=>ht h.1]
  · show(X4R u f b i).Hi=if 0<=(f:Int)/\i=(f:Int).toNat then(if b<(u i).Hi then b else(u i).Hi)else(u i).Hi
    rw[X6G,kS]
    by_cases e:i=f
    · subst e;simp
    · rw[if_neg e,if_neg fun h=>e h.2]
  · show X1 ap=if 0<=(f:Int)/\t<n then X1 ap++[((f:Int).toNat,t)]else X1 ap
    rw[if_neg fun h=>ht h.2]
theorem X8M (u:Nat->Y2) (ap:List Zb) {n t:Nat} {fr:Int} (c:¬0<=fr) (ht:t<n) (a b:Int):X2J (X4S u t (a+1)) ap=X32 n (X2J u ap) (fr,t) a b:=by
  refine X6D (fun i=>?_) (fun i=>?_) ?_
  · show(X4S u t (a+1) i).Lo=if t<n/\i=t then(if a+1>(u i).Lo then a+1 else(u i).Lo)else(u i).Lo
    rw[X6I]
    by_cases e:i=t
    · subst e;simp[ht]
    · rw[if_neg e,if_neg fun h=>e h.2]
  · show(X4S u t (a+1) i).Hi=if 0<=fr/\i=fr.toNat then(if b<(u i).Hi then b else(u i).Hi)else(u i).Hi
    rw[X6H,if_neg fun h=>c h.1]
  · show X1 ap=if 0<=fr/\t<n then X1 ap++[(fr.toNat,t)]else X1 ap
    rw[if_neg fun h=>c h.1]
theorem X8N (u:Nat->Y2) (ap:List Zb) {n t:Nat} {fr:Int} (c:¬0<=fr) (ht:¬t<n) (a b:Int):X2J u ap=X32 n (X2J u ap) (fr,t) a b:=by
  refine X6D (fun i=>?_) (fun i=>?_) ?_
  · show(u i).Lo=if t<n/\i=t then(if a+1>(u i).Lo then a+1 else(u i).Lo)else(u i).Lo
    rw[if_neg fun h=>ht h.1]
  · show(u i).Hi=if 0<=fr/\i=fr.toNat then(if b<(u i).Hi then b else(u i).Hi)else(u i).Hi
    rw[if_neg fun h=>c h.1]
  · show X1 ap=if 0<=fr/\t<n then X1 ap++[(fr.toNat,t)]else X1 ap
    rw[if_neg fun h=>c h.1]
def X79 (n:Nat) (dev st:Int) (E:List Zq) (i:Nat) (now fr:Int):List Z6:=if i<=n then X5M dev st (E.drop i) i now fr else []
theorem X6Z (n:Nat) (dev st:Int) (E:List Zq) (now fr:Int):X79 n dev st E (n+1) now fr=[]:=if_neg (by omega)
theorem X8x {n:Nat} {E:List Zq} (hE:E.length=n) (dev st:Int) {i:Nat} (hi:i<n+1) (now fr:Int) {X:Zq} (hX:(E++[Zq.mk dev (-1) (Y2.mk 0 0)]).getD i (Zq.mk 0 0 (Y2.mk 0 0))=X) :
    X79 n dev st E i now fr=if X.Device=dev then(if now=st then [⟨fr,i⟩]else [])++X79 n dev st E (i+1) X.State i else X79 n dev st E (i+1) now fr:=by
  by_cases h:i<n
  · have b:X=E[i]:=by
      rw[<-hX,Xe _ _ _ (by rw[List.length_append,List.length_singleton];omega),List.getElem_append_left (by omega)]
    have d:i<=n:=by omega
    have c:i+1<=n:=by omega
    simp only[X79,d,c,if_true];rw[jb (by omega),X3B,<-b]
  · have a:i=n:=by omega
    subst a;have b:X=Zq.mk dev (-1) (Y2.mk 0 0):=by
      rw[<-hX,Xe _ _ _ (by rw[List.length_append,List.length_singleton];omega),List.getElem_append_right (by omega)]
      simp
    rw[X6Z,X6Z,b,if_pos rfl];unfold X79;rw[if_pos (Nat.le_refl _),jd (by omega),X5j,jo]
def X6U (q:Zc) (L:List Con):(Bool×Zc×Bool×Zc×Zc)⊕(Bool×Zc×Bool×Zc×Zc) :=
  if L.isEmpty then .inl (true,q,false,q,q)else .inr (false,q,true,q,q)
theorem X7J (n:Nat) (c:Con):Xm n [] c=if okN n c then [X7x n c]else []:=rfl
theorem X7s (n:Nat) (w:Wit) (ws:List Wit) (c:Con):Xm n (w::ws) c=if okN n c then w.strs.flatMap fun s=>Xm n ws (X32 n c s w.a w.b)else []:=rfl
theorem X4n (q:Zc) (n:Nat) (o:q.CoRecord.Entries.length=n) (h10:n<=10) (h8:q.seen.length<=8) (hs:∀x∈q.seen,X4Q q.CoRecord x)
    (ih0:((Nat->Y2)×Int×(List Zb)×Zc×Bool×Zc×Zc)->Option ((Bool×Zc×Bool×Zc×Zc)⊕(Bool×Zc×Bool×Zc×Zc))) (l:List Zr) (k:Nat) (hk:k+l.length=q.seen.length) (hd:q.seen.drop k=l)
    (ih:∀x l',l=x::l'->k+1+l'.length=q.seen.length->q.seen.drop (k+1)=l'->∀(u:Nat->Y2) (ap:List Zb),UBd u->ApK n (k+1) ap->∀c,X2J u ap=c->ih0 (u,((k+1:Nat):Int),ap,q,false,q,q)=some (X6U q (Xm n (l'.map (X3q q.CoRecord)) c)))
    (u:Nat->Y2) (ap:List Zb) (r:UBd u) (a:ApK n k ap) (c:Con) (hc:X2J u ap=c) :
    X9 ih0 u (k:Int) ap q false q q=some (X6U q (Xm n (l.map (X3q q.CoRecord)) c)):=by
  cases l with
  | nil =>
    have h:=X6X q u ap r (o▸a) (by omega) (by omega)
    rw[o,hc]at h;unfold X9;simp only[h,jS,List.map_nil,X7J];have c1:((k:Int)==(q.seen.length:Int))=true:=by simp only[List.length_nil,Nat.add_zero]at hk;simp[hk]
    cases okN n c with
    | false=>rfl
    | true=>simp only[Bool.not_true,jA,c1,jB];rfl
  | cons x l =>
    simp only[List.length_cons]at hk;have h:=X6X q u ap r (o▸a) (by omega) (by omega)
    rw[o,hc]at h;have p:k<q.seen.length:=by omega
    have d:q.seen.drop k=q.seen[k]::q.seen.drop (k+1):=jb p;rw[hd]at d;injection d with hx hl
    have g:X4Q q.CoRecord x:=hs x (hx▸jl p);have a0:q.seen.getD k (Zr.mk 0 0 (Y2.mk 0 0))=x:=by rw[Xe _ _ _ p,<-hx]
    have j:=ih x l rfl (by omega) hl.symm
    unfold X9;simp only[h,jS,jr];show _=some (X6U q (Xm n (X3q q.CoRecord x::l.map (X3q q.CoRecord)) c));rw[X7s];cases hok:okN n c with
    | false=>rfl
    | true =>
      have c1:((k:Int)==(q.seen.length:Int))=false:=X2O (by omega)
      have c2:decide ((k:Int)<(q.seen.length:Int))=true:=by simp;omega
      have c3:decide (0<=x.Device)=true:=by simp[g.dev.1]
      have c4:decide (x.Device<(q.CoRecord.Devices.length:Int))=true:=by simp[g.dev.2]
      have c5:Nat.ble (n*(32+1)) 100000000000000=true:=by rw[Nat.ble_eq];omega
      have c6:Nat.ble ((n+1)*(32+1)) 200000000000000=true:=by rw[Nat.ble_eq];omega
      have c7:Nat.blt 0 4=true:=rfl;have t:(q.CoRecord.Entries++[Zq.mk x.Device (-1) (Y2.mk 0 0)]).length=n+1:=by rw[List.length_append,List.length_singleton,o]
      simp only[Bool.not_true,jA,c1,c2,c3,c4,o,c5,List.length_singleton,c6,c7,z0S,ju,jB,kS,a0,if_true,t];unfold XF;refine Eq.trans (X1S _ _ (n+1) (fun i (b:Int×Zb)=>((i:Int),b.1,b.2,q,false,q,q)) (fun i b => -1<=b.2.from_/\b.2.from_<i)
        (fun i b=>some (X6U q ((X79 n x.Device x.State q.CoRecord.Entries i b.1 b.2.from_).flatMap fun s=>Xm n (l.map (X3q q.CoRecord)) (X32 n c (X3u s) x.At.Lo x.At.Hi)))) ?_ ?_ 0
        ((q.CoRecord.Devices.getD x.Device.toNat ⟨ByteArray.empty,0,0⟩).First,⟨-1,0⟩) (by omega) ⟨by simp,by simp⟩) ?_
      · intro b hP R
        have e1:decide (((n+1:Nat):Int)<((n+1:Nat):Int))=false:=by simp
        simp only[X6,X0,e1,jA,X6Z];rfl
      · intro i b hi hP R hR
        obtain⟨now,s⟩:=b;obtain⟨v,hP2⟩:=hP;simp only at v hP2;generalize hX:(q.CoRecord.Entries++[Zq.mk x.Device (-1) (Y2.mk 0 0)]).getD i (Zq.mk 0 0 (Y2.mk 0 0))=X;simp only;rw[X8x o x.Device x.State hi now s.from_ hX];have e1:decide ((i:Int)<((n+1:Nat):Int))=true:=by simp;omega
        have e3:Nat.blt i (n+1)=true:=by rw[Nat.blt_eq];exact hi
        have w1:=wS i (by omega)
        have w2:=wS k (by omega)
        have w3:IntKind.wrap .i64 (x.At.Lo+1)=x.At.Lo+1:=by have:=g.lo;rw[w64]<;>omega
        have hl2:=a.1;have b1:Nat.ble (ap.length*(16+1)) 100000000000000=true:=by rw[Nat.ble_eq];omega
        have b2:Nat.ble ((ap.length+1)*(16+1)) 200000000000000=true:=by rw[Nat.ble_eq];omega
        have b3:Nat.blt 0 2=true:=rfl;have hxl:=g.lo;have w:=g.hi;simp only[X6,X0,t,e1,e3,z0S,ju,jB,kS,w1,w2,w3,hX,o,b1,b2,b3,List.length_singleton]
        by_cases hdv:X.Device=x.Device
        · have d1:(X.Device != x.Device)=false:=by simp[hdv]
          simp only[d1,jA];rw[if_pos hdv]
          by_cases hnow:now=x.State
          · have d2:(now==x.State)=true:=by simp[hnow]
            simp only[d2,jB];rw[if_pos hnow,List.singleton_append,List.flatMap_cons];generalize hrest:((X79 n x.Device x.State q.CoRecord.Entries (i+1) X.State (i:Int)).flatMap fun s=>Xm n (l.map (X3q q.CoRecord)) (X32 n c (X3u s) x.At.Lo x.At.Hi))=rest;have m:R (((i+1:Nat):Int),X.State,Zb.mk (i:Int) (i:Int),q,false,q,q)=some (X6U q rest):=by
              rw[<-hrest];exact hR (X.State,⟨(i:Int),(i:Int)⟩) ⟨by simp only;omega,by simp only;omega⟩
            show _=some (X6U q (Xm n (l.map (X3q q.CoRecord)) (X32 n c (s.from_,(i:Int).toNat) x.At.Lo x.At.Hi)++rest));rw[kS]
            by_cases hf:0<=s.from_
            · obtain⟨f,z⟩:=Int.eq_ofNat_of_zero_le hf
              have f1:decide ((f:Int)>=0)=true:=by simp
              have f2:decide ((f:Int)<(10:Int))=true:=by simp;omega
              have f3:Nat.blt f 10=true:=by rw[Nat.blt_eq];omega
              by_cases hin:i<n
              · have g1:decide ((i:Int)<(n:Int))=true:=by simp;omega
                have g2:decide ((i:Int)<(10:Int))=true:=by simp;omega
                have g3:Nat.blt i 10=true:=by rw[Nat.blt_eq];omega
                simp only[z,f1,f2,f3,g1,g2,g3,z0S,kS,ju,jB];rw[j _ _ ?b1h1 ?b1h2 (X32 n c ((f:Int),i) x.At.Lo x.At.Hi) ?b1h3]
                case b1h1=>exact(r.hi f w).lo i (by omega)
                case b1h2=>exact a.add (by omega) hin
                case b1h3=>rw[<-hc];exact X8o u ap hin x.At.Lo x.At.Hi
                generalize Xm n (l.map (X3q q.CoRecord)) (X32 n c ((f:Int),i) x.At.Lo x.At.Hi)=L1;cases L1 with
                | nil=>exact m
                | cons y ys=>rfl
              · have g1:decide ((i:Int)<(n:Int))=false:=by simp;omega
                simp only[z,f1,f2,f3,g1,z0S,kS,ju,jB,jA];rw[j _ _ ?b2h1 ?b2h2 (X32 n c ((f:Int),i) x.At.Lo x.At.Hi) ?b2h3]
                case b2h1=>exact r.hi f w
                case b2h2=>exact a.keep
                case b2h3=>rw[<-hc];exact X8L u ap hin x.At.Lo x.At.Hi
                generalize Xm n (l.map (X3q q.CoRecord)) (X32 n c ((f:Int),i) x.At.Lo x.At.Hi)=L1;cases L1 with
                | nil=>exact m
                | cons y ys=>rfl
            · have f1:decide (s.from_>=0)=false:=by simp;omega
              by_cases hin:i<n
              · have g1:decide ((i:Int)<(n:Int))=true:=by simp;omega
                have g2:decide ((i:Int)<(10:Int))=true:=by simp;omega
                have g3:Nat.blt i 10=true:=by rw[Nat.blt_eq];omega
                simp only[f1,g1,g2,g3,z0S,kS,ju,jB,jA];rw[j _ _ ?b3h1 ?b3h2 (X32 n c (s.from_,i) x.At.Lo x.At.Hi) ?b3h3]
                case b3h1=>exact r.lo i (by omega)
                case b3h2=>exact a.keep
                case b3h3=>rw[<-hc];exact X8M u ap hf hin x.At.Lo x.At.Hi
                generalize Xm n (l.map (X3q q.CoRecord)) (X32 n c (s.from_,i) x.At.Lo x.At.Hi)=L1;cases L1 with
                | nil=>exact m
                | cons y ys=>rfl
              · have g1:decide ((i:Int)<(n:Int))=false:=by simp;omega
                simp only[f1,g1,z0S,kS,ju,jB,jA];rw[j _ _ ?b4h1 ?b4h2 (X32 n c (s.from_,i) x.At.Lo x.At.Hi) ?b4h3]
                case b4h1=>exact r
                case b4h2=>exact a.keep
                case b4h3=>rw[<-hc];exact X8N u ap hf hin x.At.Lo x.At.Hi
                generalize Xm n (l.map (X3q q.CoRecord)) (X32 n c (s.from_,i) x.At.Lo x.At.Hi)=L1;cases L1 with
                | nil=>exact m
                | cons y ys=>rfl
          · have d2:(now==x.State)=false:=X2O hnow
            simp only[d2,jA];rw[if_neg hnow,List.nil_append];exact hR (X.State,⟨(i:Int),(i:Int)⟩) ⟨by simp only;omega,by simp only;omega⟩
        · have d1:(X.Device != x.Device)=true:=X3V hdv
          simp only[d1,jB];rw[if_neg hdv];exact hR (now,s) ⟨v,by simp only;omega⟩
      · simp only[if_true]
        show some (X6U q ((X79 n x.Device x.State q.CoRecord.Entries 0 (q.CoRecord.Devices.getD x.Device.toNat ⟨ByteArray.empty,0,0⟩).First (-1)).flatMap fun s=>Xm n (l.map (X3q q.CoRecord)) (X32 n c (X3u s) x.At.Lo x.At.Hi)))=_;have e:X79 n x.Device x.State q.CoRecord.Entries 0 (q.CoRecord.Devices.getD x.Device.toNat ⟨ByteArray.empty,0,0⟩).First (-1)=X62 q.CoRecord x:=if_pos (Nat.zero_le _);rw[e];show _=some (X6U q (((X62 q.CoRecord x).map X3u).flatMap fun s=>Xm n (l.map (X3q q.CoRecord)) (X32 n c s x.At.Lo x.At.Hi)));rw[List.flatMap_map]
theorem X5k (q:Zc) (n:Nat) (e:q.CoRecord.Entries.length=n) (a:n<=10) (b:q.seen.length<=8) (d:∀x∈q.seen,X4Q q.CoRecord x) :
    ∀(l:List Zr) (k:Nat),k+l.length=q.seen.length->q.seen.drop k=l->∀(u:Nat->Y2) (ap:List Zb),UBd u->ApK n k ap->∀c,X2J u ap=c →
      Z9C X2 (l.length+1) (u,(k:Int),ap,q,false,q,q)=some (X6U q (Xm n (l.map (X3q q.CoRecord)) c))
  | [],k,hk,hd,u,ap,hu,hap,c,hc=>X4n q n e a b d (Z9C X2 0) [] k hk hd (fun _ _ h=>by cases h) u ap hu hap c hc
  | x::l,k,hk,hd,u,ap,hu,hap,c,hc=>X4n q n e a b d (Z9C X2 (l.length+1)) (x::l) k hk hd (fun x' l' h g f=>by
      injection h with _ h
      subst h;exact X5k q n e a b d l (k+1) g f) u ap hu hap c hc
theorem X7b (q:Zc) (n:Nat) (i:q.CoRecord.Entries.length=n) (a:n<=10) (c:q.seen.length<=8) (e:∀x∈q.seen,X4Q q.CoRecord x) (k:Nat) (j:k<=q.seen.length) (u:Nat->Y2) (ap:List Zb) (d:UBd u) (b:ApK n k ap) :
    XR (u,(k:Int),ap,q,false,q,q)=some (X6U q (Xm n ((q.seen.drop k).map (X3q q.CoRecord)) (X2J u ap))) :=
  X83 (fun f g h x r hr=>X73 f g h x r hr) (X5k q n i a c e (q.seen.drop k) k (by rw[List.length_drop];omega) rfl u ap d b _ rfl)
end Nore
open Go Go.Ab
namespace Nore
theorem X7a (q:Zc) (n:Nat) (g:q.CoRecord.Entries.length=n) (a:n<=10) (f:q.seen.length<=8) (b:∀x∈q.seen,X4Q q.CoRecord x) (u:Nat->Y2) (d:UBd u) :
    XQ (u,0,q,false,q,q)=some (X6U q (Xm n (q.seen.map (X3q q.CoRecord)) (X2J u []))):=by
  rw[X1O];exact X4n q n g a f b XR q.seen 0 (by omega) rfl (fun x l' h j i u ap d e c hc=>by
    rw[X7b q n g a f b 1 (by omega) u ap d e,hc,i]) u [] d ⟨Nat.le_refl _,fun s b=>by cases b⟩ _ rfl
def X19 (r:CoRecord):Nat->Y2:=fun j=>(r.Entries.getD j (Zq.mk 0 0 (Y2.mk 0 0))).At
theorem X8D {r:CoRecord} (h:X88 r):UBd (X19 r):=fun i=>by
  unfold X19
  by_cases hi:i<r.Entries.length
  · rw[Xe _ _ _ hi]
    exact h.2 _ (jl hi)
  · have:r.Entries.getD i (Zq.mk 0 0 (Y2.mk 0 0))=Zq.mk 0 0 (Y2.mk 0 0):=by simp[List.getD,List.getElem?_eq_none (by omega:r.Entries.length<=i)]
    rw[this];simp
theorem X8B (r:CoRecord) (g:r.Entries.length<=10) (x3 x4:Zc) (x6:Bool) (x7:Zc) :
    XS r.Entries (r.Entries.length:Int) x3 x4 x6 x7 (0,fun _=>Y2.mk 0 0)=some (X19 r):=by
  obtain⟨w,f,d⟩:=Wv (Xa r.Entries (r.Entries.length:Int) x3 x4 x6 x7) r.Entries.length (fun i (b:Nat->Y2)=>((i:Int),b))
    (fun i b=>∀j,b j=if j<i then X19 r j else Y2.mk 0 0) (fun w=>w=X19 r)
    (fun b c=>⟨b,by simp[Xa,Xk],funext fun j=>by
      rw[c j];split
      · rfl
      · rename_i h
        unfold X19;rw[show r.Entries.getD j (Zq.mk 0 0 (Y2.mk 0 0))=Zq.mk 0 0 (Y2.mk 0 0) by simp[List.getD,List.getElem?_eq_none (by omega:r.Entries.length<=j)]]⟩)
    (fun i b hi c=>by
      right;have e1:decide ((i:Int)<(r.Entries.length:Int))=true:=by simp;omega
      have e2:decide ((i:Int)<(10:Int))=true:=by simp;omega
      have e3:Nat.blt i 10=true:=by rw[Nat.blt_eq];omega
      have w1:=wS i (by omega)
      simp only[Xa,Xk,e1,e2,e3,z0S,kS,ju,jB,w1];refine⟨_,rfl,fun j=>?_⟩;cases e:Nat.beq j i with
      | true =>
        have:=je e;subst this;rw[if_pos (by omega)];rfl
      | false =>
        have:=Nat.ne_of_beq_eq_false e;simp only[jA];rw[c j]
        by_cases h:j<i
        · rw[if_pos h,if_pos (by omega)]
        · rw[if_neg h,if_neg (by omega)]) 0 (fun _=>Y2.mk 0 0) (Nat.zero_le _) (fun j=>by simp)
  have a:XS r.Entries (r.Entries.length:Int) x3 x4 x6 x7 (0,fun _=>Y2.mk 0 0)=some w:=f;rw[a,d]
theorem X6y (q:Zc) (h:X88 q.CoRecord) (a:q.seen.length<=8) (b:∀x∈q.seen,X4Q q.CoRecord x) :
    X4 q=some (!(Xm q.CoRecord.Entries.length (q.seen.map (X3q q.CoRecord)) (X2J (X19 q.CoRecord) [])).isEmpty):=by
  rw[X3i];unfold Wh;rw[X2g];unfold XE;simp only[X8B q.CoRecord h.1,jS];rw[X7a q _ rfl h.1 a b _ (X8D h)];simp only[jS];generalize Xm q.CoRecord.Entries.length (q.seen.map (X3q q.CoRecord)) (X2J (X19 q.CoRecord) [])=L;cases L with
  | nil=>rfl
  | cons y ys=>rfl
end Nore
open Go Go.Ab
namespace Nore
end Nore
open Go Go.Ab
namespace Nore
end Nore
open Go Go.Ab
namespace Nore
end Nore
open Go Go.Ab
namespace Nore
structure X6f (r:CoRecord) (l:List Zr):Prop where
  ent:X88 r
  many:l.length<=8
  seen:∀x∈l,X4Q r x
theorem X87 (r:CoRecord) (l:List Zr):∀w∈l.map (X3q r),X89 r.Entries.length w:=fun w a=>by
  obtain⟨x,_,rfl⟩:=List.mem_map.1 a;intro s b;obtain⟨t,ht,rfl⟩:=List.mem_map.1 b;exact((X8I x rfl).2 t ht).2
def X8m (r:CoRecord) (l:List Zr):List Con:=Xm r.Entries.length (l.map (X3q r)) (X2J (X19 r) [])
theorem X40 {r:CoRecord} {l:List Zr} (h:X6f r l):X4 ⟨r,l⟩=some (!(X8m r l).isEmpty):=X6y ⟨r,l⟩ h.ent h.many h.seen
end Nore
open Go Go.Ab
namespace Nore
theorem WT (lo up:Int) (l:List Int) (g:l.length<1000000):Wc lo up l=some (WP lo up l):=by
  rw[X4o];unfold X1w;have key:=X1S (Wx (↑l.length) l up lo) (fun o3=>Sum.elim (fun y4:Int=>some (decide (y4>=0))) (fun _=>some (decide ((-1:Int)>=0))) o3) l.length (fun i (_:Unit)=>(i:Int)) (fun _ _=>True) (fun i _=>some (WP lo up (l.drop i)))
    (by
      intro b _ R;simp[Wx,WG,X43])
    (by
      intro i b hi _ R e;have a:=e () trivial;simp only[Wx,WG];rw[jb hi];simp only[kS,Xe _ _ _ hi,X3z];have c:=wS i (by omega)
      rw[c];have f:decide ((i:Int)<↑l.length)=true:=by simp[hi]
      have d:=z0S i;simp only[f,d,ju,jB]
      by_cases h3:l[i]<lo
      · simp[h3]
      · by_cases h4:l[i]>up
        · simp[h3,h4]
        · simp[h3,h4];exact a)
  exact(key 0 () (by omega) trivial).trans (by simp)
theorem X3S (n lo hi:Int):X3I n lo hi=some (inN n lo hi):=by
  rw[X6k];unfold X3n inN
  by_cases h:lo<=n<;>simp[h]
def W6 (r:CoRecord) (dev st:Int) (s:Y2):Int :=
  if WP 0 ((r.Devices.length:Int)-1) [dev]then 4 else
  if WP 0 (IntKind.wrap .i64 ((r.Devices.getD dev.toNat (Zm.mk ByteArray.empty 0 0)).States-1)) [st]then 7 else
  if WP 0 9999 [s.Lo,s.Hi]then 7 else if s.Lo>s.Hi then 2 else 0
theorem X2K {lo hi n:Int} (h:WP lo hi [n]=false):lo<=n/\n<=hi:=by
  simp only[X3z,X43,Bool.or_false,Bool.or_eq_false_iff,decide_eq_false_iff_not]at h;omega
theorem X81 {lo hi n m:Int} (h:WP lo hi [n,m]=false):lo<=n/\n<=hi/\lo<=m/\m<=hi:=by
  simp only[X3z,X43,Bool.or_false,Bool.or_eq_false_iff,decide_eq_false_iff_not]at h;omega
theorem X3Z (r:CoRecord) (x:Zr) (hr:r.Devices.length<=1000000):X3w r x=some (W6 r x.Device x.State x.At):=by
  rw[X5v];unfold X2t;have w1:IntKind.wrap .i64 ((r.Devices.length:Int)-1)=(r.Devices.length:Int)-1:=by rw[w64]<;>omega
  rw[w1,WT _ _ _ (by simp)]
  simp only[jS];unfold W6;cases h1:WP 0 ((r.Devices.length:Int)-1) [x.Device]with
  | true=>rfl
  | false =>
    have h:=X2K h1;have c1:decide (0<=x.Device)=true:=by simp[h.1]
    have c2:decide (x.Device<(r.Devices.length:Int))=true:=by simp;omega
    simp only[jA,c1,c2,ju,jB];rw[WT _ _ _ (by simp)]
    simp only[jS];cases h2:WP 0 (IntKind.wrap .i64 ((r.Devices.getD x.Device.toNat (Zm.mk ByteArray.empty 0 0)).States-1)) [x.State]with
    | true=>rfl
    | false =>
      simp only[jA];rw[WT _ _ _ (by simp)]
      simp only[jS];cases h3:WP 0 9999 [x.At.Lo,x.At.Hi]with
      | true=>rfl
      | false=>by_cases h4:x.At.Lo>x.At.Hi<;>simp[h4]
theorem X6T (r:CoRecord) (dev st:Int) (s:Y2) (hr:r.Devices.length<=1000000):X4B r dev st s=some (W6 r dev st s):=by
  rw[X5E];unfold X2C;have w1:IntKind.wrap .i64 ((r.Devices.length:Int)-1)=(r.Devices.length:Int)-1:=by rw[w64]<;>omega
  rw[w1,X3S,X5o];simp only[jS];unfold W6;cases h1:WP 0 ((r.Devices.length:Int)-1) [dev]with
  | true=>rfl
  | false =>
    have h:=X2K h1;have c1:decide (0<=dev)=true:=by simp[h.1]
    have c2:decide (dev<(r.Devices.length:Int))=true:=by simp;omega
    simp only[Bool.not_false,Bool.not_true,jA,c1,c2,ju,jB];rw[X3S,X5o];simp only[jS];cases h2:WP 0 (IntKind.wrap .i64 ((r.Devices.getD dev.toNat (Zm.mk ByteArray.empty 0 0)).States-1)) [st]with
    | true=>rfl
    | false =>
      simp only[Bool.not_false,Bool.not_true,jA];unfold X4h;rw[X6A _ _ _ (by simp)]
      simp only[jS,X5q];cases h3:WP 0 9999 [s.Lo,s.Hi]with
      | true=>rfl
      | false=>by_cases h4:s.Lo>s.Hi<;>simp[h4]
def X1t {α:Type} (f:Nat->α->Int):Nat->List α->Int×Int
  | _,[]=>(0,0)
  | i,x::xs=>if f i x≠0 then((i:Int),f i x)else X1t f (i+1) xs
theorem X2v {α:Type} (f:Nat->α->Int) (i:Nat) (x:α) (xs:List α):X1t f i (x::xs)=if f i x≠0 then((i:Int),f i x)else X1t f (i+1) xs:=rfl
def Xn:Int->Nat->List Zq->Int×Int
  | _,_,[]=>(0,0)
  | least,i,x::xs=>if(if x.At.Lo>least then x.At.Lo else least)>x.At.Hi then((i:Int),9)else Xn (if x.At.Lo>least then x.At.Lo else least) (i+1) xs
theorem X3G (least:Int) (i:Nat) (x:Zq) (xs:List Zq):Xn least i (x::xs)=if(if x.At.Lo>least then x.At.Lo else least)>x.At.Hi then((i:Int),9)else Xn (if x.At.Lo>least then x.At.Lo else least) (i+1) xs:=rfl
def X76 (names:List ByteArray) (d:Zm):Int :=
  if X54 d.Name names≠0 then X54 d.Name names else if WP 2 4 [d.States]||WP 0 (IntKind.wrap .i64 (d.States-1)) [d.First]then 7 else 0
def X3d (r:CoRecord):Int×Int:=X1t (fun i d=>X76 ((r.Devices.take i).map (·.Name)) d) 0 r.Devices
def X2o (r:CoRecord):Int×Int:=X1t (fun _ x=>W6 r x.Device x.State x.At) 0 r.Entries
def X1k (r:CoRecord):Int×Int×Int :=
  if WP 1 4 [(r.Devices.length:Int)]||decide ((r.Entries.length:Int)>10)then(1,0,3)else
  if(X3d r).2≠0 then(2,(X3d r).1,(X3d r).2)else
  if(X2o r).2≠0 then(3,(X2o r).1,(X2o r).2)else
  if(Xn 0 0 r.Entries).2≠0 then(3,(Xn 0 0 r.Entries).1,(Xn 0 0 r.Entries).2)else(0,0,0)
def X2m (r:CoRecord) (l:List Zr):Int×Int :=
  if(X1k r).2.2≠0 then(0,(X1k r).2.2)else if(l.length:Int)>4 then(0,3)else X1t (fun _ x=>W6 r x.Device x.State x.At) 0 l
theorem X68 (r:CoRecord) (d:r.Devices.length<=1000000) (f:r.Entries.length<=1000000):XW (r.Entries,r)=some ((X2o r).1,(X2o r).2,r):=by
  rw[X1V];unfold Xr Wo;refine Eq.trans (X1S _ _ r.Entries.length (fun i (_:Unit)=>(i:Int)) (fun _ _=>True) (fun i _=>some ((X1t (fun _ x=>W6 r x.Device x.State x.At) i (r.Entries.drop i)).1,(X1t (fun _ x=>W6 r x.Device x.State x.At) i (r.Entries.drop i)).2,r)) ?_ ?_ 0 () (Nat.zero_le _) trivial) rfl
  · intro b _ R
    have e1:decide ((r.Entries.length:Int)<(r.Entries.length:Int))=false:=by simp
    simp only[Xl,Xg,e1,jA,List.drop_length];rfl
  · intro i b hi _ R c
    have a:=c () trivial;have e1:decide ((i:Int)<(r.Entries.length:Int))=true:=by simp[hi]
    have w1:=wS i (by omega)
    rw[jb hi,X2v];simp only[Xl,Xg,e1,z0S,kS,ju,jB,Xe _ _ _ hi,X3Z r _ d,jS,w1];generalize W6 r r.Entries[i].Device r.Entries[i].State r.Entries[i].At=e
    by_cases he:e=0
    · have c1:(e != 0)=false:=by simp[he]
      simp only[c1,jA,if_neg (fun h:e≠0=>h he)];exact a
    · have c1:(e != 0)=true:=X3V he
      simp only[c1,jB,if_pos he];rfl
theorem X69 (r:CoRecord) (l:List Zr) (d:r.Devices.length<=1000000) (f:l.length<=1000000):W4 (l,r)=some ((X1t (fun _ (x:Zr)=>W6 r x.Device x.State x.At) 0 l).1,(X1t (fun _ (x:Zr)=>W6 r x.Device x.State x.At) 0 l).2,r):=by
  rw[X2e];unfold XD Ws;refine Eq.trans (X1S _ _ l.length (fun i (_:Unit)=>(i:Int)) (fun _ _=>True) (fun i _=>some ((X1t (fun _ (x:Zr)=>W6 r x.Device x.State x.At) i (l.drop i)).1,(X1t (fun _ (x:Zr)=>W6 r x.Device x.State x.At) i (l.drop i)).2,r)) ?_ ?_ 0 () (Nat.zero_le _) trivial) rfl
  · intro b _ R
    have e1:decide ((l.length:Int)<(l.length:Int))=false:=by simp
    simp only[Xp,Xj,e1,jA,List.drop_length];rfl
  · intro i b hi _ R c
    have a:=c () trivial;have e1:decide ((i:Int)<(l.length:Int))=true:=by simp[hi]
    have w1:=wS i (by omega)
    rw[jb hi,X2v];simp only[Xp,Xj,e1,z0S,kS,ju,jB,Xe _ _ _ hi,X3Z r _ d,jS,w1];generalize W6 r l[i].Device l[i].State l[i].At=e
    by_cases he:e=0
    · have c1:(e != 0)=false:=by simp[he]
      simp only[c1,jA,if_neg (fun h:e≠0=>h he)];exact a
    · have c1:(e != 0)=true:=X3V he
      simp only[c1,jB,if_pos he];rfl
theorem X5P (l:List Zq) (g:l.length<=1000000):∃q,XX (l,0)=some ((Xn 0 0 l).1,(Xn 0 0 l).2,q):=by
  rw[X1X];unfold Xs Wp;simp only
  let k:((Int×Int×Int×Zq×Zq)⊕Int)->Option (Int×Int×Int):=fun o41=>Sum.elim (fun y42=>some (y42.snd.fst,y42.fst,y42.snd.snd.fst)) (fun y43=>some (0,0,y43)) o41
  obtain⟨w,e,d⟩:=Wv (X3 l (l.length:Int)) l.length (fun i (b:Int)=>((i:Int),b)) (fun i b=>Xn b i (l.drop i)=Xn 0 0 l) (fun w=>∃q,k w=some ((Xn 0 0 l).1,(Xn 0 0 l).2,q))
    (fun b a=>by
      have e1:decide ((l.length:Int)<(l.length:Int))=false:=by simp
      simp only[X3,Xh,e1,jA];refine⟨_,rfl,b,?_⟩;rw[List.drop_length]at a;rw[<-a];rfl)
    (fun i b hi a=>by
      have e1:decide ((i:Int)<(l.length:Int))=true:=by simp[hi]
      have w1:=wS i (by omega)
      rw[jb hi,X3G]at a;have f:(bif decide (l[i].At.Lo>b)then l[i].At.Lo else b)=(if l[i].At.Lo>b then l[i].At.Lo else b):=by by_cases h:l[i].At.Lo>b<;>simp[h]
      simp only[X3,Xh,e1,z0S,kS,ju,jB,Xe _ _ _ hi,w1,f]
      by_cases hc:(if l[i].At.Lo>b then l[i].At.Lo else b)>l[i].At.Hi
      · left
        rw[if_pos hc]at a;simp only[hc,decide_true,jB];refine⟨_,rfl,(if l[i].At.Lo>b then l[i].At.Lo else b),?_⟩;rw[<-a];rfl
      · right
        rw[if_neg hc]at a;simp only[hc,decide_false,jA];exact⟨_,rfl,a⟩) 0 0 (Nat.zero_le _) rfl
  have c:Za6 (X3 l (l.length:Int)) (0,0)=some w:=e;rw[c];exact d
theorem X6L (l:List Zm) (j:l.length<=1000000) (d:Zm) :
    (∃(i:Nat) (y:Zm),Xf (l.length:Int) l d 0=some (.inl ((i:Int),y))/\d.Name∈l.map (·.Name))\/(Xf (l.length:Int) l d 0=some (.inr ())/\¬d.Name∈l.map (·.Name)):=by
  obtain⟨w,f,e⟩:=Wv (X5 (l.length:Int) l d) l.length (fun i (_:Unit)=>(i:Int)) (fun i _=>∀x∈l.take i,x.Name≠d.Name)
    (fun w=>(∃(i:Nat) (y:Zm),w=.inl ((i:Int),y)/\d.Name∈l.map (·.Name))\/(w=.inr ()/\¬d.Name∈l.map (·.Name)))
    (fun _ c=>by
      have e1:decide ((l.length:Int)<(l.length:Int))=false:=by simp
      simp only[X5,Xd,e1,jA];refine⟨_,rfl,.inr ⟨rfl,fun h=>?_⟩⟩;obtain⟨x,a,g⟩:=List.mem_map.1 h;rw[List.take_length]at c;exact c x a g)
    (fun i _ hi c=>by
      have e1:decide ((i:Int)<(l.length:Int))=true:=by simp[hi]
      have w1:=wS i (by omega)
      simp only[X5,Xd,e1,z0S,kS,ju,jB,Xe _ _ _ hi,w1]
      by_cases hn:l[i].Name=d.Name
      · left
        have c1:(l[i].Name.toList==d.Name.toList)=true:=by rw[hn];simp
        simp only[c1,jB];exact⟨_,rfl,.inl ⟨i,_,rfl,List.mem_map.2 ⟨l[i],jl hi,hn⟩⟩⟩
      · right
        have c1:(l[i].Name.toList==d.Name.toList)=false:=beq_eq_false_iff_ne.2 fun h=>hn (X72 h);simp only[c1,jA];refine⟨(),by first|rfl|trivial,fun x a=>?_⟩
        rw[List.take_succ_eq_append_getElem hi]at a;rcases List.mem_append.1 a with q|q
        · exact c x q
        · rw[List.mem_singleton.1 q];exact hn) 0 () (Nat.zero_le _) (fun x a=>by simp at a)
  have b:Xf (l.length:Int) l d 0=some w:=f;rcases e with⟨i,y,rfl,h⟩|⟨rfl,h⟩
  · exact .inl ⟨i,y,b,h⟩
  · exact .inr ⟨b,h⟩
theorem X67 (r:CoRecord) (k:r.Devices.length<=1000000):XP (r.Devices,r)=some ((X3d r).1,(X3d r).2,r):=by
  rw[X1M];unfold Xo Wf;refine Eq.trans (X1S _ _ r.Devices.length (fun i (_:Unit)=>(i:Int)) (fun _ _=>True) (fun i _=>some ((X1t (fun i d=>X76 ((r.Devices.take i).map (·.Name)) d) i (r.Devices.drop i)).1,(X1t (fun i d=>X76 ((r.Devices.take i).map (·.Name)) d) i (r.Devices.drop i)).2,r)) ?_ ?_ 0 () (Nat.zero_le _) trivial) rfl
  · intro b _ R
    have e1:decide ((r.Devices.length:Int)<(r.Devices.length:Int))=false:=by simp
    simp only[Xi,Xc,e1,jA,List.drop_length];rfl
  · intro i b hi _ R h
    have g:=h () trivial;have e1:decide ((i:Int)<(r.Devices.length:Int))=true:=by simp[hi]
    have e2:decide ((i:Int)<=(r.Devices.length:Int))=true:=by simp;omega
    have w1:=wS i (by omega)
    rw[jb hi,X2v];simp only[Xi,Xc,e1,e2,z0S,kS,ju,jB,Xe _ _ _ hi,X74,jS,w1,List.drop_zero];generalize r.Devices[i]=d;have c:X76 ((r.Devices.take i).map (·.Name)) d=if X5B d.Name then(if d.Name∈(r.Devices.take i).map (·.Name)then 5 else if WP 2 4 [d.States]||WP 0 (IntKind.wrap .i64 (d.States-1)) [d.First]then 7 else 0)else 6:=by
      unfold X76 X54;generalize (r.Devices.take i).map (·.Name)=names;cases q1:X5B d.Name with
      | false=>rfl
      | true =>
        by_cases q2:d.Name∈names
        · simp only[q2,if_true];rfl
        · simp only[q2,if_true,if_false];rfl
    rw[c];cases hn:X5B d.Name with
    | false=>rfl
    | true =>
      simp only[Bool.not_true,jA,if_true];have a:(r.Devices.take i).length<=1000000:=by rw[List.length_take];omega
      rcases X6L (r.Devices.take i) a d with⟨j,y,f,e⟩|⟨f,e⟩
      · have c1:decide ((j:Int)>=0)=true:=by simp
        simp only[f,jS,jw,c1,jB,if_pos e];rfl
      · simp only[f,jS,jy,if_neg e]
        rw[WT _ _ _ (by simp),WT _ _ _ (by simp)]
        simp only[jS];cases q1:WP 2 4 [d.States]with
        | true=>rfl
        | false =>
          cases q2:WP 0 (IntKind.wrap .i64 (d.States-1)) [d.First]with
          | true=>rfl
          | false=>exact g
theorem X6w (r:CoRecord):X48 r=some (X1k r):=by
  rw[X4U];unfold X2a;rw[WT _ _ _ (by simp)]
  simp only[jS];unfold X1k;cases q1:WP 1 4 [(r.Devices.length:Int)]with
  | true=>rfl
  | false =>
    have d:=X2K q1;have b:r.Devices.length<=1000000:=by omega
    by_cases q2:(r.Entries.length:Int)>10
    · simp only[jA,q2,decide_true,jB,Bool.false_or,if_true]
    · have a:r.Entries.length<=1000000:=by omega
      simp only[jA,q2,decide_false,Bool.false_or,X67 r b,jS];simp only[jg,if_false]
      by_cases q3:(X3d r).2=0
      · have c3:((X3d r).2 != 0)=false:=by simp[q3]
        simp only[c3,jA,X68 r b a,jS,if_neg (fun h:(X3d r).2≠0=>h q3)]
        by_cases q4:(X2o r).2=0
        · have c4:((X2o r).2 != 0)=false:=by simp[q4]
          obtain⟨q,c⟩:=X5P r.Entries a;simp only[c4,jA,c,jS,if_neg (fun h:(X2o r).2≠0=>h q4)]
          by_cases q5:(Xn 0 0 r.Entries).2=0
          · have c5:((Xn 0 0 r.Entries).2 != 0)=false:=by simp[q5]
            simp only[c5,jA,if_neg (fun h:(Xn 0 0 r.Entries).2≠0=>h q5)]
          · have c5:((Xn 0 0 r.Entries).2 != 0)=true:=X3V q5
            simp only[c5,jB,if_pos q5]
        · have c4:((X2o r).2 != 0)=true:=X3V q4
          simp only[c4,jB,if_pos q4]
      · have c3:((X3d r).2 != 0)=true:=X3V q3
        simp only[c3,jB,if_pos q3]
end Nore
open Go Go.Ab
namespace Nore
theorem X6B (r:CoRecord):X4i r=some (X1k r):=by
  rw[X5g];unfold X2l;rw[X3S,X5o];simp only[jS];unfold X1k;cases q1:WP 1 4 [(r.Devices.length:Int)]with
  | true=>rfl
  | false =>
    have n:=X2K q1;have q:r.Devices.length<=4:=by omega
    by_cases q2:(r.Entries.length:Int)>10
    · simp only[Bool.not_false,Bool.not_true,jA,q2,decide_true,jB,Bool.false_or,if_true]
    · have p:r.Entries.length<=10:=by omega
      simp only[Bool.not_false,Bool.not_true,jA,q2,decide_false,Bool.false_or,jg,if_false];unfold X31;refine Eq.trans (X1S _ _ r.Devices.length (fun i (b:List ByteArray)=>((i:Int),b)) (fun i b=>b=(r.Devices.take i).map (·.Name))
        (fun i _=>if(X1t (fun i d=>X76 ((r.Devices.take i).map (·.Name)) d) i (r.Devices.drop i)).2≠0 then some (2,(X1t (fun i d=>X76 ((r.Devices.take i).map (·.Name)) d) i (r.Devices.drop i)).1,(X1t (fun i d=>X76 ((r.Devices.take i).map (·.Name)) d) i (r.Devices.drop i)).2)else
          some (if(X2o r).2≠0 then(3,(X2o r).1,(X2o r).2)else if(Xn 0 0 r.Entries).2≠0 then(3,(Xn 0 0 r.Entries).1,(Xn 0 0 r.Entries).2)else(0,0,0))) ?_ ?_ 0 [] (Nat.zero_le _) rfl) ?_
      · intro b _ R
        have e1:decide ((r.Devices.length:Int)<(r.Devices.length:Int))=false:=by simp
        simp only[X1A,X15,e1,jA,List.drop_length];show Option.bind (X28 r 0) _=some (if(X2o r).2≠0 then(3,(X2o r).1,(X2o r).2)else if(Xn 0 0 r.Entries).2≠0 then(3,(Xn 0 0 r.Entries).1,(Xn 0 0 r.Entries).2)else(0,0,0));unfold X28;refine Eq.trans (X1S _ _ r.Entries.length (fun i (_:Unit)=>(i:Int)) (fun _ _=>True)
          (fun i _=>some (if(X1t (fun _ (x:Zq)=>W6 r x.Device x.State x.At) i (r.Entries.drop i)).2≠0 then(3,(X1t (fun _ (x:Zq)=>W6 r x.Device x.State x.At) i (r.Entries.drop i)).1,(X1t (fun _ (x:Zq)=>W6 r x.Device x.State x.At) i (r.Entries.drop i)).2)else if(Xn 0 0 r.Entries).2≠0 then(3,(Xn 0 0 r.Entries).1,(Xn 0 0 r.Entries).2)else(0,0,0))) ?_ ?_ 0 () (Nat.zero_le _) trivial) rfl
        · intro b _ R
          have e1:decide ((r.Entries.length:Int)<(r.Entries.length:Int))=false:=by simp
          simp only[X1B,X16,e1,jA,List.drop_length];show Option.bind (X29 r (0,0)) _=some (if(Xn 0 0 r.Entries).2≠0 then(3,(Xn 0 0 r.Entries).1,(Xn 0 0 r.Entries).2)else(0,0,0));unfold X29;refine Eq.trans (X1S _ _ r.Entries.length (fun i (b:Int)=>((i:Int),b)) (fun _ _=>True)
            (fun i b=>some (if(Xn b i (r.Entries.drop i)).2≠0 then(3,(Xn b i (r.Entries.drop i)).1,(Xn b i (r.Entries.drop i)).2)else(0,0,0))) ?_ ?_ 0 0 (Nat.zero_le _) trivial) rfl
          · intro b _ R
            simp only[X1C,X17,e1,jA,List.drop_length];rfl
          · intro i b hi _ R c
            have e1:decide ((i:Int)<(r.Entries.length:Int))=true:=by simp[hi]
            have w1:=wS i (by omega)
            have o:(bif decide (r.Entries[i].At.Lo>b)then r.Entries[i].At.Lo else b)=(if r.Entries[i].At.Lo>b then r.Entries[i].At.Lo else b):=by by_cases h:r.Entries[i].At.Lo>b<;>simp[h]
            rw[jb hi,X3G];simp only[X1C,X17,e1,z0S,kS,ju,jB,Xe _ _ _ hi,w1,o]
            by_cases hc:(if r.Entries[i].At.Lo>b then r.Entries[i].At.Lo else b)>r.Entries[i].At.Hi
            · rw[if_pos hc]
              simp only[hc,decide_true,jB];rfl
            · rw[if_neg hc]
              simp only[hc,decide_false,jA];exact c _ trivial
        · intro i b hi _ R c
          have m:=c () trivial;have e1:decide ((i:Int)<(r.Entries.length:Int))=true:=by simp[hi]
          have w1:=wS i (by omega)
          rw[jb hi,X2v];simp only[X1B,X16,e1,z0S,kS,ju,jB,Xe _ _ _ hi,X6T r _ _ _ (by omega:r.Devices.length<=1000000),jS,w1]
          generalize W6 r r.Entries[i].Device r.Entries[i].State r.Entries[i].At=e
          by_cases he:e=0
          · have c1:(e != 0)=false:=by simp[he]
            simp only[c1,jA,if_neg (fun h:e≠0=>h he)];exact m
          · have c1:(e != 0)=true:=X3V he
            simp only[c1,jB,if_pos he];rfl
      · intro i b hi j R c
        have e1:decide ((i:Int)<(r.Devices.length:Int))=true:=by simp[hi]
        have w1:=wS i (by omega)
        have f:b.length=i:=by rw[j,List.length_map,List.length_take];omega
        have b1:Nat.ble ((i+1)*(16+1)) 200000000000000=true:=by rw[Nat.ble_eq];omega
        have g:=X6S r.Devices[i].Name b (by omega)
        have a:=c ((r.Devices.take (i+1)).map (·.Name)) rfl;rw[jb hi,X2v];simp only[X1A,X15,e1,z0S,kS,ju,jB,Xe _ _ _ hi,g,jS,w1,f,List.length_singleton,b1];have k:b++[r.Devices[i].Name]=(r.Devices.take (i+1)).map (·.Name):=by rw[j,List.take_succ_eq_append_getElem hi,List.map_append];rfl
        rw[<-j];have l:X76 b r.Devices[i]=if X54 r.Devices[i].Name b≠0 then X54 r.Devices[i].Name b else if WP 2 4 [r.Devices[i].States]||WP 0 (IntKind.wrap .i64 (r.Devices[i].States-1)) [r.Devices[i].First]then 7 else 0:=rfl;rw[l];generalize X54 r.Devices[i].Name b=e
        by_cases he:e=0
        · have c1:(e==0)=true:=by simp[he]
          have c2:(e != 0)=false:=by simp[he]
          simp only[c1,c2,jB,jA,if_neg (fun h:e≠0=>h he),X3S,X5o,jS,Bool.not_not];cases q5:WP 2 4 [r.Devices[i].States]with
          | true=>rfl
          | false =>
            simp only[jA,Bool.false_or];cases q6:WP 0 (IntKind.wrap .i64 (r.Devices[i].States-1)) [r.Devices[i].First]with
            | true=>rfl
            | false =>
              simp only[jA];rw[k];exact a
        · have c1:(e==0)=false:=X2O he
          have c2:(e != 0)=true:=X3V he;simp only[c1,c2,jB,jA,if_pos he];rfl
      · simp only[List.drop_zero]
        show(if(X3d r).2≠0 then some (2,(X3d r).1,(X3d r).2)else some (if(X2o r).2≠0 then(3,(X2o r).1,(X2o r).2)else if(Xn 0 0 r.Entries).2≠0 then(3,(Xn 0 0 r.Entries).1,(Xn 0 0 r.Entries).2)else(0,0,0)))=some (if(X3d r).2≠0 then(2,(X3d r).1,(X3d r).2)else if(X2o r).2≠0 then(3,(X2o r).1,(X2o r).2)else if(Xn 0 0 r.Entries).2≠0 then(3,(Xn 0 0 r.Entries).1,(Xn 0 0 r.Entries).2)else(0,0,0))
        by_cases q3:(X3d r).2=0
        · simp only[ne_eq,q3,not_true_eq_false,if_false]
        · simp only[ne_eq,q3,not_false_eq_true,if_true]
structure X36 (r:CoRecord):Prop where
  devs:1<=r.Devices.length/\r.Devices.length<=4
  many:r.Entries.length<=10
  dev:∀d∈r.Devices,(2<=d.States/\d.States<=4)/\0<=d.First/\d.First<d.States
  ent:∀x∈r.Entries,W6 r x.Device x.State x.At=0
  order:Xn 0 0 r.Entries=(0,0)
theorem X5n {α:Type} (f:Nat->α->Int):∀(l:List α) (i:Nat),(X1t f i l).2=0->∀(j:Nat) (h:j<l.length),f (i+j) l[j]=0
  | x::xs,i,h,j,hj=>by
    rw[X2v]at h
    by_cases he:f i x=0
    · rw[if_neg (fun q=>q he)]at h
      cases j with
      | zero=>exact he
      | succ j =>
        have:=X5n f xs (i+1) h j (by simpa using hj)
        rw[show i+(j+1)=i+1+j by omega]
        exact this
    · rw[if_pos he]at h
      exact absurd h he
theorem X7i:∀(l:List Zq) (a:Int) (i:Nat),(Xn a i l).2=0->Xn a i l=(0,0)
  | [],_,_,_=>rfl
  | x::xs,a,i,h=>by
    rw[X3G]at h⊢
    by_cases hc:(if x.At.Lo>a then x.At.Lo else a)>x.At.Hi
    · rw[if_pos hc]at h
      exact absurd h (by simp)
    · rw[if_neg hc]at h⊢
      exact X7i xs _ _ h
theorem X4T {r:CoRecord} (h:(X1k r).2.2=0):X36 r:=by
  unfold X1k at h;cases q1:WP 1 4 [(r.Devices.length:Int)]with
  | true=>rw[q1]at h;exact absurd h (by simp)
  | false =>
    have b:=X2K q1
    by_cases q2:(r.Entries.length:Int)>10
    · simp only[q1,q2,decide_true,Bool.or_true,if_true]at h;exact absurd h (by simp)
    · simp only[q1,q2,decide_false,Bool.or_self,jg,if_false]at h
      by_cases q3:(X3d r).2=0
      · rw[if_neg (fun k=>k q3)]at h
        by_cases q4:(X2o r).2=0
        · rw[if_neg (fun k=>k q4)]at h
          by_cases q5:(Xn 0 0 r.Entries).2=0
          · refine⟨by omega,by omega,fun d b=>?_,fun x c=>?_,X7i _ _ _ q5⟩
            · obtain⟨j,a,rfl⟩:=List.getElem_of_mem b
              have:=X5n _ _ 0 q3 j a;simp only[X76]at this;split at this
              · rename_i k;exact absurd this k
              · split at this
                · exact absurd this (by simp)
                · rename_i k
                  simp only[Bool.or_eq_true,not_or,Bool.not_eq_true]at k;have k1:=X2K k.1;have k2:=X2K k.2;rw[w64 (by omega) (by omega)]at k2
                  omega
            · obtain⟨j,a,rfl⟩:=List.getElem_of_mem c
              exact X5n _ _ 0 q4 j a
          · rw[if_pos q5]at h;exact absurd h q5
        · rw[if_pos q4]at h;exact absurd h q4
      · rw[if_pos q3]at h;exact absurd h q3
theorem X4E {r:CoRecord} {x:Zr} (h:W6 r x.Device x.State x.At=0):X4Q r x/\0<=x.At.Lo/\x.At.Lo<=x.At.Hi/\x.At.Hi<=9999:=by
  unfold W6 at h;cases q1:WP 0 ((r.Devices.length:Int)-1) [x.Device]with
  | true=>rw[q1]at h;exact absurd h (by simp)
  | false =>
    rw[q1]at h;have k1:=X2K q1;cases q2:WP 0 (IntKind.wrap .i64 ((r.Devices.getD x.Device.toNat (Zm.mk ByteArray.empty 0 0)).States-1)) [x.State]with
    | true=>rw[q2]at h;exact absurd h (by simp)
    | false =>
      rw[q2]at h;cases q3:WP 0 9999 [x.At.Lo,x.At.Hi]with
      | true=>rw[q3]at h;exact absurd h (by simp)
      | false =>
        rw[q3]at h;have k3:=X81 q3
        by_cases q4:x.At.Lo>x.At.Hi
        · simp only[jg,if_false,q4,if_true]at h;exact absurd h (by simp)
        · exact⟨⟨by omega,by omega,by omega⟩,by omega,by omega,by omega⟩
theorem X8V {r:CoRecord} (h:X36 r):X88 r:=⟨h.many,fun x a=>by
  have:=(X4E (x:=⟨x.Device,x.State,x.At⟩) (h.ent x a)).2;simp only at this;omega⟩
theorem X4F {r:CoRecord} {l:List Zr} (h:(X2m r l).2=0):X36 r/\l.length<=4/\∀x∈l,W6 r x.Device x.State x.At=0:=by
  unfold X2m at h
  by_cases q1:(X1k r).2.2=0
  · rw[if_neg (fun k=>k q1)]at h
    by_cases q2:(l.length:Int)>4
    · rw[if_pos q2]at h;exact absurd h (by simp)
    · rw[if_neg q2]at h
      refine⟨X4T q1,by omega,fun x b=>?_⟩
      obtain⟨j,a,rfl⟩:=List.getElem_of_mem b;exact X5n _ _ 0 h j a
  · rw[if_pos q1]at h;exact absurd h q1
theorem X6O {r:CoRecord} {l:List Zr} (h:(X2m r l).2=0):X6f r l:=by
  obtain⟨a,d,b⟩:=X4F h;exact⟨X8V a,by omega,fun x c=>(X4E (b x c)).1⟩
theorem X5r (r:CoRecord) (l:List Zr):X2V r l=some (X2m r l):=by
  rw[X3W];unfold WZ;rw[X6w r];simp only[jS];unfold X2m
  by_cases q1:(X1k r).2.2=0
  · have c1:((X1k r).2.2 != 0)=false:=by simp[q1]
    have hr:=(X4T q1).devs;simp only[c1,jA,if_neg (fun h:(X1k r).2.2≠0=>h q1)]
    by_cases q2:(l.length:Int)>4
    · simp only[q2,decide_true,jB,if_true]
    · simp only[q2,decide_false,jA,if_false,X69 r l (by omega) (by omega),jS]
  · have c1:((X1k r).2.2 != 0)=true:=X3V q1
    simp only[c1,jB,if_pos q1]
theorem X4L (r:CoRecord) (l:List Zr):X3E r l=some (⟨r,l⟩,(X2m r l).2):=by
  rw[X50];unfold X2d;rw[X5r r l];rfl
end Nore
open Go Go.Ab
namespace Nore
end Nore
open Go Go.Ab
namespace Nore
end Nore
namespace Nore
def Wr (r:CoRecord) (l:List Zr):Bool := !(X8m r l).isEmpty
end Nore
open Go Go.Ab
namespace Nore
def Wg {α:Type} (m:Nat):Nat->List α->List α
  | _,[]=>[]
  | i,x::xs=>if m.testBit i then Wg m (i+1) xs else x::Wg m (i+1) xs
def W0 {α:Type} (m:Nat):Nat->List α->List Int
  | _,[]=>[]
  | i,x::xs=>if m.testBit i then(i:Int)::W0 m (i+1) xs else W0 m (i+1) xs
theorem X1f {α:Type} (m i:Nat) (x:α) (xs:List α):Wg m i (x::xs)=if m.testBit i then Wg m (i+1) xs else x::Wg m (i+1) xs:=rfl
theorem X1G {α:Type} (m i:Nat) (x:α) (xs:List α):W0 m i (x::xs)=if m.testBit i then(i:Int)::W0 m (i+1) xs else W0 m (i+1) xs:=rfl
theorem X4C {α:Type} (m:Nat):∀(l:List α) (i:Nat),∀x∈Wg m i l,x∈l
  | y::l,i,x,h=>by
    rw[X1f]at h;split at h
    · exact List.mem_cons_of_mem _ (X4C m l _ x h)
    · rcases jv.1 h with rfl|h
      · exact List.mem_cons_self
      · exact List.mem_cons_of_mem _ (X4C m l _ x h)
theorem X5J {α:Type} (m:Nat):∀(l:List α) (i:Nat),(Wg m i l).length<=l.length
  | [],_=>Nat.le_refl _
  | y::l,i=>by
    have:=X5J m l (i+1);rw[X1f];split
    · simp only[List.length_cons];omega
    · simp only[List.length_cons];omega
theorem X5p {α:Type} (m:Nat):∀(l:List α) (i:Nat),(W0 m i l).length<=l.length
  | [],_=>Nat.le_refl _
  | y::l,i=>by
    have:=X5p m l (i+1);rw[X1G];split
    · simp only[List.length_cons];omega
    · simp only[List.length_cons];omega
theorem X6V {α:Type} (m N:Nat):∀(l:List α) (i:Nat),i+l.length<=N->Wg (m % 2 ^ N) i l=Wg m i l
  | [],_,_=>rfl
  | y::l,i,h=>by
    simp only[List.length_cons]at h;rw[X1f,X1f,X6V m N l (i+1) (by omega),Nat.testBit_mod_two_pow]
    have:decide (i<N)=true:=by simp;omega
    rw[this,Bool.true_and]
theorem X7m {α:Type} (m N:Nat):∀(l:List α) (i:Nat),i+l.length<=N->W0 (m % 2 ^ N) i l=W0 m i l
  | [],_,_=>rfl
  | y::l,i,h=>by
    simp only[List.length_cons]at h;rw[X1G,X1G,X7m m N l (i+1) (by omega),Nat.testBit_mod_two_pow]
    have:decide (i<N)=true:=by simp;omega
    rw[this,Bool.true_and]
theorem X6m {α:Type} (N:Nat):∀(l:List α) (i:Nat),i+l.length<=N->Wg (2 ^ N-1) i l=[]
  | [],_,_=>rfl
  | y::l,i,h=>by
    simp only[List.length_cons]at h;rw[X1f,Nat.testBit_two_pow_sub_one];have:decide (i<N)=true:=by simp;omega
    rw[this,if_pos rfl];exact X6m N l (i+1) (by omega)
theorem X6n {α:Type} (m:Nat) (x:α):∀(l:List α) (i:Nat),Wg m i (l++[x])=Wg m i l++if m.testBit (i+l.length)then []else [x]
  | [],i=>by rw[List.nil_append,X1f];rfl
  | y::l,i=>by
    rw[List.cons_append,X1f,X1f,X6n m x l (i+1),show i+(y::l).length=i+1+l.length by simp only[List.length_cons];omega]
    split
    · rfl
    · rfl
theorem X5K {α:Type} (m:Nat) (x:α):∀(l:List α) (i:Nat),W0 m i (l++[x])=W0 m i l++if m.testBit (i+l.length)then [((i+l.length:Nat):Int)]else []
  | [],i=>by rw[List.nil_append,X1G];rfl
  | y::l,i=>by
    rw[List.cons_append,X1G,X1G,X5K m x l (i+1),show i+(y::l).length=i+1+l.length by simp only[List.length_cons];omega]
    split
    · rfl
    · rfl
theorem X8W (m i:Nat) (a:m<16) (hi:i<4):(IntKind.wrap .i64 (↑(BitVec.toNat (BitVec.ofInt (IntKind.bits .i64) (Int.fdiv (m:Int) (2 ^ min i (IntKind.bits .i64))) &&& BitVec.ofInt (IntKind.bits .i64) 1)):Int)==0) = !m.testBit i:=by
  have:∀m:Fin 16,∀i:Fin 4,(IntKind.wrap .i64 (↑(BitVec.toNat (BitVec.ofInt (IntKind.bits .i64) (Int.fdiv (m.val:Int) (2 ^ min i.val (IntKind.bits .i64))) &&& BitVec.ofInt (IntKind.bits .i64) 1)):Int)==0) = !m.val.testBit i.val:=by decide +kernel
  exact this ⟨m,a⟩ ⟨i,hi⟩
def X65:List Int->List Int->Int
  | [],[]=>0
  | [],_::_ => -1
  | _::_,[]=>1
  | a::s,b::t=>if a<b then -1 else if a>b then 1 else X65 s t
theorem X5l (a b:Int) (s t:List Int):X65 (a::s) (b::t)=if a<b then -1 else if a>b then 1 else X65 s t:=rfl
theorem X7G (a b:List Int) (f:a.length<=1000000):Ww a b=some (X65 a b):=by
  unfold Ww WN;refine Eq.trans (X1S _ _ a.length (fun i (_:Unit)=>(i:Int)) (fun i _=>i<=b.length) (fun i _=>some (X65 (a.drop i) (b.drop i))) ?_ ?_ 0 () (Nat.zero_le _) (Nat.zero_le _)) rfl
  · intro _ d R
    have e1:decide ((a.length:Int)<(a.length:Int))=false:=by simp
    simp only[XM,Xz,e1,jA,List.drop_length,jS,jy]
    by_cases h:a.length<b.length
    · have c:decide ((a.length:Int)<(b.length:Int))=true:=by simp;omega
      rw[c,jb h];rfl
    · have c:decide ((a.length:Int)<(b.length:Int))=false:=by simp;omega
      rw[c,jd (by omega)]
      rfl
  · intro i _ hi d R e
    have e1:decide ((i:Int)<(a.length:Int))=true:=by simp;omega
    have w1:=wS i (by omega)
    simp only[XM,Xz,e1,z0S,kS,ju,jB,Xe _ _ _ hi,w1];rw[jb hi]
    by_cases h:i<b.length
    · have c1:decide ((i:Int)>=(b.length:Int))=false:=by simp;omega
      have c2:decide ((i:Int)<(b.length:Int))=true:=by simp;omega
      rw[jb h,X5l];simp only[c1,c2,jB,jA,Xe _ _ _ h,X2U];have b1:∀a:Int,(a != a)=false:=fun a=>by simp
      simp only[b1,jA]
      by_cases h1:a[i]<b[i]
      · simp only[h1,decide_true,jB,jS,if_true]
        rfl
      · by_cases h2:a[i]>b[i]
        · simp only[h1,h2,decide_true,decide_false,jB,jA,jS,if_true,if_false]
          rfl
        · simp only[h1,h2,decide_false,jA,jS,if_false]
          exact e () (by omega)
    · have c1:decide ((i:Int)>=(b.length:Int))=true:=by simp;omega
      rw[jd (by omega:b.length<=i)]
      simp only[c1,jB];rfl
theorem X7p (l:List Zr) (v:l.length<=4) (m:Nat) (t:m<16) (fd:Bool) (best:List Int) :
    (∃p,X1l (m:Int) l (l.length:Int) fd best (0,[],[])=some (.inl p)/\fd=true/\best.length<(W0 m 0 l).length) ∨
    (X1l (m:Int) l (l.length:Int) fd best (0,[],[])=some (.inr (Wg m 0 l,W0 m 0 l))/\(fd=true->(W0 m 0 l).length<=best.length)):=by
  obtain⟨w,r,o⟩:=Wv (WS (m:Int) l (l.length:Int) fd best) l.length (fun i (b:List Zr×List Int)=>((i:Int),b.1,b.2))
    (fun i b=>b.1=Wg m 0 (l.take i)/\b.2=W0 m 0 (l.take i)/\(fd=true->b.2.length<=best.length))
    (fun w=>(∃p,w=.inl p/\fd=true/\best.length<(W0 m 0 l).length)\/(w=.inr (Wg m 0 l,W0 m 0 l)/\(fd=true->(W0 m 0 l).length<=best.length)))
    (fun b d=>by
      obtain⟨q1,q2,q3⟩:=d;rw[List.take_length]at q1 q2;have e1:decide ((l.length:Int)<(l.length:Int))=false:=by simp
      exact⟨.inr (b.1,b.2),by simp only[WS,X12,e1,jA],.inr ⟨by rw[q1,q2],by rw[<-q2];exact q3⟩⟩)
    (fun i b hi d=>by
      obtain⟨q1,q2,q3⟩:=d;obtain⟨br,bs⟩:=b;simp only at q1 q2 q3;have e1:decide ((i:Int)<(l.length:Int))=true:=by simp;omega
      have e2:decide ((i:Int)<0)=false:=by simp
      have w1:=wS i (by omega)
      have ht:l.take (i+1)=l.take i++[l[i]]:=List.take_succ_eq_append_getElem hi;have n:(l.take i).length=i:=by rw[List.length_take];omega
      have s:br.length<=i:=by rw[q1];have:=X5J m (l.take i) 0;omega
      have q:bs.length<=i:=by rw[q2];have:=X5p m (l.take i) 0;omega
      have b1:Nat.ble ((br.length+1)*(32+1)) 200000000000000=true:=by rw[Nat.ble_eq];omega
      have b2:Nat.ble ((bs.length+1)*(8+1)) 200000000000000=true:=by rw[Nat.ble_eq];omega
      have hr:=X6n m l[i] (l.take i) 0;have j:=X5K m l[i] (l.take i) 0;rw[<-ht,n,Nat.zero_add]at hr j;simp only[WS,X12,e1,e2,z0S,kS,ju,jB,jA,Xe _ _ _ hi,w1,X8W m i t (by omega),b1,b2,List.length_singleton]
      cases d:m.testBit i with
      | false =>
        right;rw[d]at hr j;simp only[Bool.not_false,jB];refine⟨(br++[l[i]],bs),rfl,?_,?_,q3⟩
        · rw[hr,q1];rfl
        · rw[j,q2];simp
      | true =>
        rw[d]at hr j;simp only[Bool.not_true,jA];have e:br=Wg m 0 (l.take (i+1)):=by rw[hr,q1];simp
        have c:bs++[(i:Int)]=W0 m 0 (l.take (i+1)):=by rw[j,q2];simp
        cases fd with
        | false =>
          right;exact⟨(br,bs++[(i:Int)]),rfl,e,c,fun h=>by cases h⟩
        | true =>
          by_cases hc:((bs++[(i:Int)]).length:Int)>(best.length:Int)
          · left
            simp only[hc,decide_true,jB];refine⟨_,rfl,.inl ⟨_,rfl,by first|rfl|trivial,?_⟩⟩
            have u:(W0 m 0 (l.take (i+1))).length<=(W0 m 0 l).length:=by
              have:∀(a b:List Zr) (k:Nat),(W0 m k a).length<=(W0 m k (a++b)).length:=by
                intro a
                induction a with
                | nil=>intro b k;exact Nat.zero_le _
                | cons x a ih =>
                  intro b k;rw[List.cons_append,X1G,X1G];split
                  · simp only[List.length_cons];exact Nat.succ_le_succ (ih b (k+1))
                  · exact ih b (k+1)
              have h:=this (l.take (i+1)) (l.drop (i+1)) 0
              rwa [List.take_append_drop]at h
            rw[c]at hc;omega
          · right
            simp only[hc,decide_false,jB,jA];exact⟨(br,bs++[(i:Int)]),rfl,e,c,fun _=>by show(bs++[(i:Int)]).length<=best.length;omega⟩) 0 ([],[]) (Nat.zero_le _) ⟨rfl,rfl,fun _=>Nat.zero_le _⟩
  have f:X1l (m:Int) l (l.length:Int) fd best (0,[],[])=some w:=r;rcases o with⟨p,rfl,g1,g2⟩|⟨rfl,g⟩
  · exact .inl ⟨p,f,g1,g2⟩
  · exact .inr ⟨f,g⟩
def Z3y (a b:List Int):Prop:=a.length<b.length\/(a.length=b.length/\X65 a b<=0)
structure X3U (r:CoRecord) (l:List Zr) (k:Nat) (fd:Bool) (best:List Int):Prop where
  yes:fd=true->∃m,m<k/\best=W0 m 0 l/\Wr r (Wg m 0 l)=true
  least:fd=true->∀m,m<k->Wr r (Wg m 0 l)=true->Z3y best (W0 m 0 l)
  no:fd=false->best=[]/\∀m,m<k->Wr r (Wg m 0 l)=false
theorem X6J:∀{a b c:List Int},X65 a b<=0->X65 b c<=0->X65 a c<=0
  | [],[],[],_,_=>by decide
  | [],_,_::_,_,_=>by show(-1:Int)<=0;decide
  | [],_::_,[],_,h=>absurd h (by show ¬(1:Int)<=0;decide)
  | _::_,[],_,h,_=>absurd h (by show ¬(1:Int)<=0;decide)
  | _::_,_::_,[],_,h=>absurd h (by show ¬(1:Int)<=0;decide)
  | x::a,y::b,z::c,h1,h2=>by
    rw[X5l]at h1 h2⊢
    by_cases e1:x<y
    · by_cases e2:y<z
      · rw[if_pos (by omega)];decide
      · rw[if_neg e2]at h2
        by_cases e3:y>z
        · rw[if_pos e3]at h2;omega
        · rw[if_pos (by omega)];decide
    · rw[if_neg e1]at h1
      by_cases e4:x>y
      · rw[if_pos e4]at h1;omega
      · rw[if_neg e4]at h1
        by_cases e2:y<z
        · rw[if_pos (by omega)];decide
        · rw[if_neg e2]at h2
          by_cases e3:y>z
          · rw[if_pos e3]at h2;omega
          · rw[if_neg e3]at h2
            rw[if_neg (by omega),if_neg (by omega)]
            exact X6J h1 h2
theorem X7f:∀a:List Int,X65 a a=0
  | []=>rfl
  | x::a=>by rw[X5l,if_neg (Int.lt_irrefl x),if_neg (Int.lt_irrefl x),X7f a]
theorem X7e:∀(a b:List Int),X65 a b>0->X65 b a<=0
  | [],[],h=>absurd h (by decide)
  | [],_::_,h=>absurd h (by show ¬(-1:Int)>0;decide)
  | _::_,[],_=>by show(-1:Int)<=0;decide
  | x::a,y::b,h=>by
    rw[X5l]at h⊢
    by_cases e1:x<y
    · rw[if_pos e1]at h;omega
    · rw[if_neg e1]at h
      by_cases e2:x>y
      · rw[if_pos (by omega)];decide
      · rw[if_neg e2]at h
        rw[if_neg (by omega),if_neg (by omega)]
        exact X7e a b h
theorem X7V (a:List Int):Z3y a a:=.inr ⟨rfl,by rw[X7f];exact Int.le_refl 0⟩
theorem X7F {a b c:List Int} (e:Z3y a b) (d:Z3y b c):Z3y a c:=by
  rcases e with e|⟨e,g⟩<;>rcases d with d|⟨d,f⟩
  · exact .inl (by omega)
  · exact .inl (by omega)
  · exact .inl (by omega)
  · exact .inr ⟨by omega,X6J g f⟩
theorem X7o (r:CoRecord) (l:List Zr) (y:l.length<=4) (u:X6f r l) :
    ∃fd best,X2X ((2 ^ l.length:Nat):Int) l r (0,false,[])=some best/\X3U r l (2 ^ l.length) fd best:=by
  have h16:2 ^ l.length<=16:=by
    have:2 ^ l.length<=2 ^ 4:=Nat.pow_le_pow_right (by omega) y
    omega
  obtain⟨w,h1,fd,z⟩:=Wv (WR ((2 ^ l.length:Nat):Int) l r) (2 ^ l.length) (fun k (b:Bool×List Int)=>((k:Int),b.1,b.2)) (fun k b=>X3U r l k b.1 b.2) (fun w=>∃fd,X3U r l (2 ^ l.length) fd w)
    (fun b g=>⟨b.2,by
      have e1:decide (((2 ^ l.length:Nat):Int)<((2 ^ l.length:Nat):Int))=false:=by simp
      simp only[WR,X11,e1,jA],b.1,g⟩)
    (fun k b hk g=>by
      right;obtain⟨fd,best⟩:=b;simp only at g;have e1:decide ((k:Int)<((2 ^ l.length:Nat):Int))=true:=by rw[jk];exact Int.ofNat_lt.2 hk
      have w1:=wS k (by omega)
      have n:X6f r (Wg k 0 l):=⟨u.ent,Nat.le_trans (X5J _ _ _) u.many,fun x i=>u.seen x (X4C _ _ _ x i)⟩;have t:X4 ⟨r,Wg k 0 l⟩=some (Wr r (Wg k 0 l)):=X40 n;have keep:fd=true->Z3y best (W0 k 0 l)->X3U r l (k+1) fd best:=fun d f=>⟨fun h=>by
          obtain⟨m,a,b,c⟩:=g.yes h;exact⟨m,by omega,b,c⟩,fun h m q j=>by
          by_cases e:m=k
          · subst e;exact f
          · exact g.least h m (by omega) j,fun h=>by rw[d]at h;cases h⟩
      have drop:Wr r (Wg k 0 l)=false->X3U r l (k+1) fd best:=fun j=>⟨fun h=>by
          obtain⟨m,a,b,c⟩:=g.yes h;exact⟨m,by omega,b,c⟩,fun h m q i=>by
          by_cases e:m=k
          · subst e;rw[j]at i;cases i
          · exact g.least h m (by omega) i,fun h=>⟨(g.no h).1,fun m q=>by
          by_cases e:m=k
          · subst e;exact j
          · exact(g.no h).2 m (by omega)⟩⟩
      have take:Wr r (Wg k 0 l)=true->(fd=true->Z3y (W0 k 0 l) best)->X3U r l (k+1) true (W0 k 0 l):=fun j f=>⟨fun _=>⟨k,by omega,rfl,j⟩,fun _ m q i=>by
          by_cases e:m=k
          · subst e;exact X7V _
          · cases d:fd with
            | true=>exact X7F (f d) (g.least d m (by omega) i)
            | false=>rw[(g.no d).2 m (by omega)]at i;(cases i),fun h=>by cases h⟩
      simp only[WR,X11,e1,jB,w1];rcases X7p l y k (by omega) fd best with⟨p,v,d,f⟩|⟨v,o⟩
      · simp only[v,jS,jw]
        exact⟨(fd,best),rfl,keep d (.inl f)⟩
      · simp only[v,jS,jy,t]
        have fin:(fd=true->Z3y (W0 k 0 l) best)->∃b':Bool×List Int,(bif Wr r (Wg k 0 l)then some (Sum.inl (((k+1:Nat):Int),true,W0 k 0 l))else some (Sum.inl (((k+1:Nat):Int),fd,best)))=(some (Sum.inl (((k+1:Nat):Int),b'.1,b'.2)):Option ((Int×Bool×List Int)⊕List Int))/\X3U r l (k+1) b'.1 b'.2:=fun s=>by
          cases j:Wr r (Wg k 0 l)with
          | true=>exact⟨(true,W0 k 0 l),rfl,take j s⟩
          | false=>exact⟨(fd,best),rfl,drop j⟩
        cases d:fd with
        | false =>
          simp only[jA];have:=fin (fun h=>by rw[d]at h;cases h)
          rw[d]at this;exact this
        | true =>
          have o:=o d;simp only[jB]
          by_cases hlen:(W0 k 0 l).length=best.length
          · have c1:(((W0 k 0 l).length:Int)==(best.length:Int))=true:=by simp[hlen]
            have hc:=X7G (W0 k 0 l) best (by have:=X5p k l 0;omega)
            simp only[c1,jB,hc,jS]
            by_cases hgt:X65 (W0 k 0 l) best>0
            · simp only[hgt,decide_true,jB]
              refine⟨(true,best),rfl,?_⟩;have:=keep d (.inr ⟨hlen.symm,X7e _ _ hgt⟩);rw[d]at this;exact this
            · simp only[hgt,decide_false,jA]
              have:=fin (fun _=>.inr ⟨hlen,by omega⟩)
              rw[d]at this;exact this
          · have c1:(((W0 k 0 l).length:Int)==(best.length:Int))=false:=X2O (by omega)
            simp only[c1,jA];have:=fin (fun _=>.inl (by omega))
            rw[d]at this;exact this) 0 (false,[]) (Nat.zero_le _) ⟨fun h=>(by cases h),fun h=>(by cases h),fun _=>⟨rfl,fun m q=>by omega⟩⟩
  exact⟨fd,w,h1,z⟩
end Nore
open Go Go.Ab
namespace Nore
theorem X6e:∀(l:List Zq) (a:Int) (i:Nat),Xn a i l=(0,0)->∃x:Nat->Int,(∀j (h:j<l.length),l[j].At.Lo<=x j/\x j<=l[j].At.Hi/\a<=x j)/\∀j,j+1<l.length->x j<=x (j+1)
  | [],_,_,_=>⟨fun _=>0,fun j h=>by simp at h,fun j h=>by simp at h⟩
  | e::l,a,i,h=>by
    rw[X3G]at h
    by_cases hc:(if e.At.Lo>a then e.At.Lo else a)>e.At.Hi
    · rw[if_pos hc]at h
      have:=congrArg Prod.snd h;simp at this
    · rw[if_neg hc]at h
      obtain⟨x,d,f⟩:=X6e l _ _ h;generalize hm:(if e.At.Lo>a then e.At.Lo else a)=m at hc d;have b:e.At.Lo<=m/\a<=m:=by rw[<-hm];split<;>omega
      refine⟨fun j=>if j=0 then m else x (j-1),fun j c=>?_,fun j c=>?_⟩
      · cases j with
        | zero=>exact⟨b.1,by simp only[if_true];show m<=e.At.Hi;omega,b.2⟩
        | succ j =>
          have:=d j (by simpa using c)
          simp only[Nat.add_one_ne_zero,if_false,Nat.add_sub_cancel,List.getElem_cons_succ];omega
      · cases j with
        | zero =>
          have:=d 0 (by simpa using c)
          simp only[if_true,Nat.add_one_ne_zero,if_false];exact this.2.2
        | succ j =>
          have:=f j (by simpa using c)
          simp only[Nat.add_one_ne_zero,if_false,Nat.add_sub_cancel];exact this
theorem X7E {r:CoRecord} (h:X36 r):Wr r []=true:=by
  unfold Wr X8m;have b:Xm r.Entries.length (([]:List Zr).map (X3q r)) (X2J (X19 r) [])≠[]:=by
    rw[X5c (X87 r []) (fun p a=>by cases a)]
    obtain⟨x,d,c⟩:=X6e r.Entries 0 0 h.order;have e:∀i (hi:i<r.Entries.length),(X2J (X19 r) []).lo i=r.Entries[i].At.Lo/\(X2J (X19 r) []).hi i=r.Entries[i].At.Hi:=fun i hi=>by
      show((r.Entries.getD i (Zq.mk 0 0 (Y2.mk 0 0))).At).Lo=_/\((r.Entries.getD i (Zq.mk 0 0 (Y2.mk 0 0))).At).Hi=_;rw[Xe _ _ _ hi];exact⟨rfl,rfl⟩
    exact⟨x,⟨⟨fun i hi=>by rw[(e i hi).1];exact(d i hi).1,fun i hi=>c i hi,fun p a=>by cases a⟩,⟨fun i hi=>by rw[(e i hi).2];exact(d i hi).2.1,fun i hi=>c i hi,fun p a=>by cases a⟩⟩,fun w f=>by cases f⟩
  cases hq:Xm r.Entries.length (([]:List Zr).map (X3q r)) (X2J (X19 r) [])with
  | nil=>exact absurd hq b
  | cons=>rfl
theorem X6K {r:CoRecord} {l:List Zr} (h:(X2m r l).2=0) :
    ∃m,X4a r l=some (W0 m 0 l,0)/\Wr r (Wg m 0 l)=true/\∀m',Wr r (Wg m' 0 l)=true->Z3y (W0 m 0 l) (W0 m' 0 l):=by
  obtain⟨hr,f,_⟩:=X4F h;obtain⟨fd,best,i,d⟩:=X7o r l f (X6O h);have b:fd=true:=by
    cases hf:fd with
    | true=>rfl
    | false =>
      have:=(d.no hf).2 (2 ^ l.length-1) (by have:=Nat.two_pow_pos l.length;omega)
      rw[X6m l.length l 0 (by omega),X7E hr]at this
      cases this
  obtain⟨m,j,rfl,g⟩:=d.yes b;refine⟨m,?_,g,fun m' h'=>?_⟩
  · rw[X4Y];unfold X2c
    rw[X4L];have c:((X2m r l).2 != 0)=false:=by simp[h]
    have a:IntKind.wrap .i64 (1*2 ^ min (Int.toNat (l.length:Int)) (IntKind.bits .i64))=((2 ^ l.length:Nat):Int):=by
      have:∀n:Fin 5,IntKind.wrap .i64 (1*2 ^ min (Int.toNat (n.val:Int)) (IntKind.bits .i64))=((2 ^ n.val:Nat):Int):=by decide +kernel
      exact this ⟨l.length,by omega⟩
    simp only[jS,c,jA,a,i]
  · have e:=Nat.two_pow_pos l.length
    have:=d.least b (m' % 2 ^ l.length) (Nat.mod_lt _ e);rw[X6V m' l.length l 0 (by omega),X7m m' l.length l 0 (by omega)]at this
    exact this h'
theorem X53 {α:Type} (f:Nat->α->Int):∀(l:List α) (i:Nat),(∀x∈l,∀j,f j x=0)->X1t f i l=(0,0)
  | [],_,_=>rfl
  | x::l,i,h=>by
    rw[X2v,if_neg (fun q=>q (h x (by simp) i))]
    exact X53 f l (i+1) fun y hy=>h y (by simp[hy])
theorem X84 {r:CoRecord} {l:List Zr} (h:(X2m r l).2=0):(X1k r).2.2=0:=by
  unfold X2m at h
  by_cases q1:(X1k r).2.2=0
  · exact q1
  · rw[if_pos q1]at h;exact absurd h q1
theorem X8f {r:CoRecord} {l:List Zr} (a:(X1k r).2.2=0) (d:l.length<=4) (b:∀x∈l,W6 r x.Device x.State x.At=0):X2m r l=(0,0):=by
  unfold X2m;rw[if_neg (fun q=>q a),if_neg (by omega)]
  exact X53 _ l 0 fun x c _=>b x c
end Nore
open Go Go.Ab
namespace Nore
def X5G (l:List Zr) (dev s t:Int):List Zr:=l++[⟨dev,s,⟨t,t⟩⟩]
def Wj (r:CoRecord) (l:List Zr) (dev t:Int) (k:Nat):List Int:=((List.range k).filter fun s:Nat=>Wr r (X5G l dev (s:Int) t)).map fun s:Nat=>(s:Int)
theorem X4m (r:CoRecord) (l:List Zr) (dev t:Int) (k:Nat):Wj r l dev t (k+1)=Wj r l dev t k++if Wr r (X5G l dev (k:Int) t)then [(k:Int)]else []:=by
  unfold Wj;rw[List.range_succ,List.filter_append,List.map_append];congr 1;cases h:Wr r (X5G l dev (k:Int) t)<;>simp[h]
theorem X6p (r:CoRecord) (l:List Zr) (dev t:Int) (k:Nat):∀v∈Wj r l dev t k,0<=v/\v<(k:Int):=fun v hv=>by
  obtain⟨s,a,rfl⟩:=List.mem_map.1 hv;have:=List.mem_range.1 (List.mem_filter.1 a).1;omega
theorem X4H (r:CoRecord) (l:List Zr) (dev t:Int) (k:Nat):(Wj r l dev t k).length<=k:=by
  unfold Wj;rw[List.length_map];exact Nat.le_trans (List.length_filter_le _ _) (by simp)
theorem X4G (r:CoRecord) (l:List Zr) (dev t:Int):∀k,(Wj r l dev t k).Pairwise (· < ·)
  | 0=>List.Pairwise.nil
  | k+1=>by
    rw[X4m];refine List.pairwise_append.2 ⟨X4G r l dev t k,?_,fun a d b c=>?_⟩
    · split
      · exact List.pairwise_singleton _ _
      · exact List.Pairwise.nil
    · have:=X6p r l dev t k a d
      split at c
      · rw[List.mem_singleton.1 c];exact this.2
      · cases c
theorem X7Y (n:Int):∀(l:List Int),(∀v∈l,n<v)->ZeB n l=n::l
  | [],_=>rfl
  | v::l,h=>by
    have:=h v (by simp)
    unfold ZeB;simp[Int.le_of_lt this]
theorem X7n:∀(l:List Int),l.Pairwise (· < ·)->Z3r l=l
  | [],_=>rfl
  | n::l,h=>by
    obtain⟨a,b⟩:=List.pairwise_cons.1 h;show ZeB n (Z3r l)=n::l;rw[X7n l b];exact X7Y n l a
theorem X6P (k:Int):∀(m:List (Int×Int)),(∀v∈m.map Prod.fst,v≠k)->Z9M (fun a b=>a==b) k m=none
  | [],_=>rfl
  | (a,b)::m,h=>by
    have c:(k==a)=false:=X2O fun e=>h a (by simp) e.symm
    unfold Z9M;simp only[c,jA];exact X6P k m fun v hv=>h v (by simp only[jr,jv];exact .inr hv)
theorem X7K (k v:Int):∀(m:List (Int×Int)),(∀w∈m.map Prod.fst,w≠k)->ZiY (fun a b=>a==b) k v m=m++[(k,v)]
  | [],_=>rfl
  | (a,b)::m,h=>by
    have d:(k==a)=false:=X2O fun e=>h a (by simp) e.symm
    unfold ZiY;simp only[d,jA];rw[X7K k v m fun w c=>h w (by simp only[jr,jv];exact .inr c)]
    rfl
theorem X8S {r:CoRecord} {l:List Zr} (h:X6f r l) (c:l.length<=4) {dev t s:Int} (a:0<=dev/\dev<r.Devices.length) (ht:0<=t/\t<=9999):X6f r (X5G l dev s t) :=
  ⟨h.ent,by unfold X5G;rw[List.length_append,List.length_singleton];omega,fun x b=>by
    rcases List.mem_append.1 b with q|q
    · exact h.seen x q
    · rw[List.mem_singleton.1 q]
      exact⟨a,by simp only;omega,by simp only;omega⟩⟩
theorem X6a {r:CoRecord} {l:List Zr} (h:X6f r l) (q:l.length<=4) {dev t:Int} (g:0<=dev/\dev<r.Devices.length) (ht:0<=t/\t<=9999) {S:Nat} (u:(r.Devices.getD dev.toNat (Zm.mk ByteArray.empty 0 0)).States=(S:Int)) (m:S<=1000) :
    X1v ⟨r,l⟩ dev t=some (Wj r l dev t S):=by
  rw[X3b];unfold Wa;have c1:decide (0<=dev)=true:=by simp[g.1]
  have c2:decide (dev<(r.Devices.length:Int))=true:=by simp[g.2]
  simp only[c1,c2,ju,jB,u];obtain⟨w,o,f⟩:=Wv (Xy dev (S:Int) t ⟨r,l⟩) S (fun i (b:List (Int×Int))=>((i:Int),b)) (fun i b=>b.map Prod.fst=Wj r l dev t i) (fun w=>w.map Prod.fst=Wj r l dev t S)
    (fun b d=>⟨b,by simp[Xy,XK],d⟩)
    (fun i b hi d=>by
      right;have e1:decide ((i:Int)<(S:Int))=true:=by simp;omega
      have w1:=wS i (by omega)
      have b1:Nat.ble (l.length*(32+1)) 100000000000000=true:=by rw[Nat.ble_eq];omega
      have b2:Nat.ble ((l.length+1)*(32+1)) 200000000000000=true:=by rw[Nat.ble_eq];omega
      have b3:Nat.blt 0 4=true:=rfl;have e:X27 ⟨r,l⟩ [⟨dev,(i:Int),⟨t,t⟩⟩]=some ⟨r,X5G l dev (i:Int) t⟩:=by
        rw[X3r];unfold Wt;simp only[b1,b3,ju,jB,List.length_singleton,b2];rfl
      have s:X4 ⟨r,X5G l dev (i:Int) t⟩=some (Wr r (X5G l dev (i:Int) t)):=X40 (X8S h q g ht);have a:∀v∈b.map Prod.fst,v≠(i:Int):=fun v hv=>by
        rw[d]at hv;have:=X6p r l dev t i v hv;omega
      simp only[Xy,XK,e1,jB,e,s,jS,w1,X6P _ b a,X7K _ _ b a];cases hag:Wr r (X5G l dev (i:Int) t)with
      | true=>exact⟨_,rfl,by rw[List.map_append,d,X4m,hag];rfl⟩
      | false=>exact⟨b,rfl,by rw[d,X4m,hag];simp⟩) 0 [] (Nat.zero_le _) rfl
  have k:X1d dev (S:Int) t ⟨r,l⟩ (0,[])=some w:=o;have n:w.length<=S:=by
    have:=X4H r l dev t S;rw[<-f,List.length_map]at this;exact this
  have b1:Nat.ble w.length 100000=true:=by rw[Nat.ble_eq];omega
  have b2:Nat.ble (w.map fun p=>p.fst).length 1000000=true:=by rw[Nat.ble_eq,List.length_map];omega
  have b2':Nat.ble (Wj r l dev t S).length 1000000=true:=by have:=X4H r l dev t S;rw[Nat.ble_eq];omega
  have b4:Nat.beq w.length w.length=true:=Nat.beq_refl _;have b5:(Nat.beq 3 3&&Nat.beq 2 2)=true:=rfl;have b6:(Nat.beq 3 3&&Nat.beq 0 0)=true:=rfl;have j:(w.map fun p=>p.fst)=Wj r l dev t S:=f;rw[k];simp only[jS,b5,b4,b1,ju,Bool.true_and,jB];cases e:w with
  | nil =>
    rw[e]at f;rw[<-f];rfl
  | cons p ps =>
    rw[<-e];have c:Nat.beq w.length 0=false:=by rw[e];rfl
    have b7:(Nat.beq 3 3&&Nat.beq 0 0&&Nat.ble (w.map fun p=>p.fst).length 1000000)=true:=by rw[b2];rfl
    have b8:(Nat.beq 1 1&&Nat.ble 8 1000&&Nat.testBit 688269427663 6)=true:=by decide +kernel
    simp only[c,jA,b2',b6,ju,Bool.true_and,jB,j,X7n _ (X4G r l dev t S)]
    first
    | rfl
    | (have b9:Nat.testBit 688269427663 6=true:=by decide +kernel
       have b10:Nat.beq 1 1=true:=rfl;have b11:Nat.ble 8 1000=true:=rfl;simp only[b9,b10,b11,b2',ju,jB])
theorem X2u {r:CoRecord} (h:X36 r) {dev:Int} (a:0<=dev/\dev<r.Devices.length):∃S:Nat,(r.Devices.getD dev.toNat (Zm.mk ByteArray.empty 0 0)).States=(S:Int)/\2<=S/\S<=4:=by
  rw[Xe _ _ _ (by omega)]
  have:=(h.dev _ (jl (by omega:dev.toNat<r.Devices.length))).1
  exact⟨r.Devices[dev.toNat].States.toNat,by omega,by omega,by omega⟩
end Nore
open Go Go.Ab
namespace Nore
def X3p (dev t:Int) (ms:Nat->Int):List Zq->Nat->Int->Int
  | [],_,now=>now
  | x::xs,i,now=>X3p dev t ms xs (i+1) (if x.Device=dev/\ms i<=t then x.State else now)
theorem X2H (dev t:Int) (ms:Nat->Int) (x:Zq) (xs:List Zq) (i:Nat) (now:Int):X3p dev t ms (x::xs) i now=X3p dev t ms xs (i+1) (if x.Device=dev/\ms i<=t then x.State else now):=rfl
theorem X5i (dev t:Int) (ms:Nat->Int):∀(e:List Zq) (i:Nat) (now:Int),(∀j,i<=j->j<i+e.length->t<ms j)->X3p dev t ms e i now=now
  | [],_,_,_=>rfl
  | x::e,i,now,h=>by
    have c:=h i (Nat.le_refl _) (by simp only[List.length_cons];omega)
    rw[X2H,if_neg (fun q=>by omega)]
    exact X5i dev t ms e (i+1) now fun j b a=>h j (by omega) (by simp only[List.length_cons];omega)
theorem X5W {n:Nat} {ms:Nat->Int} (h:X7c n ms):∀(d i:Nat),i+d<n->ms i<=ms (i+d)
  | 0,_,_=>Int.le_refl _
  | d+1,i,hi=>Int.le_trans (X5W h d i (by omega)) (h (i+d) (by omega))
theorem X61 {n:Nat} {ms:Nat->Int} (d:X7c n ms) (dev t st lo hi:Int) (c:lo<=t) (b:t<=hi):∀(e:List Zq) (i:Nat) (now fr:Int),i+e.length=n -> -1<=fr->fr<i->(0<=fr->ms fr.toNat<=t)->X3p dev t ms e i now=st →
    ∃s∈X5M dev st e i now fr,X7d n ms (X3u s) lo hi
  | [],i,now,fr,hn,h1,h2,h3,a=>by
    simp only[List.length_nil,Nat.add_zero]at hn;have a:now=st:=a;rw[X5j,if_pos a];refine⟨_,List.mem_singleton.2 rfl,fun h=>?_,fun h=>?_,fun _ h=>?_⟩
    · exact Int.le_trans (h3 h) b
    · simp only[X3u,kS]at h;omega
    · simp only[X3u,kS]at h;omega
  | x::e,i,now,fr,hn,h1,h2,h3,a=>by
    simp only[List.length_cons]at hn;rw[X2H]at a;rw[X3B]
    by_cases hd:x.Device=dev
    · rw[if_pos hd]
      by_cases hit:ms i<=t
      · rw[if_pos ⟨hd,hit⟩]at a
        obtain⟨s,g1,g2⟩:=X61 d dev t st lo hi c b e (i+1) x.State i (by omega) (by omega) (by omega) (fun _=>by rw[kS];exact hit) a
        exact⟨s,List.mem_append.2 (.inr g1),g2⟩
      · rw[if_neg (fun q=>hit q.2)]at a
        have f:X3p dev t ms e (i+1) now=now:=X5i dev t ms e (i+1) now fun j j1 j2=>by
          have:=X5W d (j-i) i (by omega)
          rw[show i+(j-i)=j by omega]at this
          omega
        rw[f]at a;refine⟨⟨fr,i⟩,List.mem_append.2 (.inl ?_),fun h=>?_,fun h=>?_,fun h h'=>?_⟩
        · rw[if_pos a];exact List.mem_singleton.2 rfl
        · exact Int.le_trans (h3 h) b
        · simp only[X3u,kS]at h⊢;omega
        · have:=h3 h
          simp only[X3u,kS]at h'⊢;omega
    · rw[if_neg hd]
      rw[if_neg (fun q=>hd q.1)]at a;exact X61 d dev t st lo hi c b e (i+1) now fr (by omega) h1 (by omega) h3 a
def X6c (r:CoRecord) (dev:Int):Int:=(r.Devices.getD dev.toNat ⟨ByteArray.empty,0,0⟩).First
def X6F (r:CoRecord) (ms:Nat->Int):Prop:=Sol r.Entries.length (X2J (X19 r) []) ms
def X6C (r:CoRecord) (ms:Nat->Int) (x:Zr):Prop:=∃t,x.At.Lo<=t/\t<=x.At.Hi/\X3p x.Device t ms r.Entries 0 (X6c r x.Device)=x.State
theorem X7C {r:CoRecord} {l:List Zr} {ms:Nat->Int} (b:X6F r ms) (f:∀x∈l,X6C r ms x):Wr r l=true:=by
  have a:Xm r.Entries.length (l.map (X3q r)) (X2J (X19 r) [])≠[]:=by
    rw[X5c (X87 r l) (fun p c=>by cases c)]
    refine⟨ms,b,fun w d=>?_⟩;obtain⟨x,i,rfl⟩:=List.mem_map.1 d;obtain⟨t,j,e,g⟩:=f x i;obtain⟨s,g1,g2⟩:=X61 b.1.2.1 x.Device t x.State x.At.Lo x.At.Hi j e r.Entries 0 (X6c r x.Device) (-1) (by omega) (by omega) (by omega) (fun h=>by omega) g
    exact⟨X3u s,List.mem_map.2 ⟨s,g1,rfl⟩,g2⟩
  unfold Wr X8m;cases hq:Xm r.Entries.length (l.map (X3q r)) (X2J (X19 r) [])with
  | nil=>exact absurd hq a
  | cons=>rfl
end Nore
open Go Go.Ab
namespace Nore
def X8T (r:CoRecord) (ms:Nat->Int) (x:Zr):Prop:=∃s∈X62 r x,X7d r.Entries.length ms (X3u s) x.At.Lo x.At.Hi
def TrN (r:CoRecord) (l:List Zr) (ms:Nat->Int):Prop:=X6F r ms/\∀x∈l,X8T r ms x
theorem X8J {r:CoRecord} {l:List Zr} {ms:Nat->Int}:X8A r.Entries.length (X2J (X19 r) []) (l.map (X3q r)) ms↔TrN r l ms:=by
  constructor
  · rintro⟨c,b⟩
    refine⟨c,fun x e=>?_⟩;obtain⟨s,d,a⟩:=b (X3q r x) (List.mem_map.2 ⟨x,e,rfl⟩);obtain⟨t,ht,rfl⟩:=List.mem_map.1 d;exact⟨t,ht,a⟩
  · rintro⟨c,b⟩
    refine⟨c,fun w f=>?_⟩;obtain⟨x,e,rfl⟩:=List.mem_map.1 f;obtain⟨s,d,a⟩:=b x e;exact⟨X3u s,List.mem_map.2 ⟨s,d,rfl⟩,a⟩
theorem X8C (r:CoRecord):X6q r.Entries.length (X2J (X19 r) []).ap:=fun p a=>by cases a
theorem X4v {r:CoRecord} {l:List Zr}:Wr r l=true↔∃ms,TrN r l ms:=by
  have h:=X5c (X87 r l) (X8C r);unfold Wr X8m;constructor
  · intro b
    have:Xm r.Entries.length (l.map (X3q r)) (X2J (X19 r) [])≠[]:=fun e=>by rw[e]at b;cases b
    obtain⟨ms,a⟩:=h.1 this;exact⟨ms,X8J.1 a⟩
  · rintro⟨ms,a⟩
    have:=h.2 ⟨ms,X8J.2 a⟩;cases b:Xm r.Entries.length (l.map (X3q r)) (X2J (X19 r) [])with
    | nil=>exact absurd b this
    | cons=>rfl
structure X90 (r:CoRecord) (l:List Zr) (j:Nat) (s:Y2):Prop where
  lo:∃ms,TrN r l ms/\ms j=s.Lo
  hi:∃ms,TrN r l ms/\ms j=s.Hi
  all:∀ms,TrN r l ms->s.Lo<=ms j/\ms j<=s.Hi
theorem X71 {n:Nat} {ms:Nat->Int} (f:X7c n ms) (dev t st lo hi:Int) (d:lo=t) (b:hi=t):∀(e:List Zq) (i:Nat) (now fr:Int),i+e.length=n -> -1<=fr->fr<i →
    (∃s∈X5M dev st e i now fr,X7d n ms (X3u s) lo hi)->X3p dev t ms e i now=st
  | [],i,now,fr,hn,h1,h2,⟨s,a,hq⟩=>by
    rw[X5j]at a;split at a
    · rename_i h;exact h
    · cases a
  | x::e,i,now,fr,hn,h1,h2,⟨s,a,hq⟩=>by
    simp only[List.length_cons]at hn;rw[X2H];rw[X3B]at a
    by_cases hd:x.Device=dev
    · rw[if_pos hd]at a
      rcases List.mem_append.1 a with q|q
      · split at q
        · rename_i c
          rw[List.mem_singleton.1 q]at hq;have o:=hq.2.1 (by simp only[X3u,kS];omega)
          simp only[X3u,kS]at o;rw[if_neg (fun k=>by have:=k.2;omega)]
          rw[X5i dev t ms e (i+1) now fun j j1 j2=>by
            have:=X5W f (j-i) i (by omega)
            rw[show i+(j-i)=j by omega]at this
            omega]
          exact c
        · cases q
      · have g:∀(e:List Zq) (k:Nat) (now:Int) (fr:Int),0<=fr->fr<k->∀s∈X5M dev st e k now fr,fr<=s.from_:=by
          intro e
          induction e with
          | nil =>
            intro k now fr m _ s a;rw[X5j]at a;split at a
            · rw[List.mem_singleton.1 a];exact Int.le_refl _
            · cases a
          | cons y e ih =>
            intro k now fr m u s a;rw[X3B]at a;split at a
            · rcases List.mem_append.1 a with w|w
              · split at w
                · rw[List.mem_singleton.1 w];exact Int.le_refl _
                · cases w
              · have:=ih (k+1) y.State k (by omega) (by omega) s w
                omega
            · exact ih (k+1) now fr m (by omega) s a
        have r:=g e (i+1) x.State i (by omega) (by omega) s q
        have p:=(X6E dev st n e (i+1) x.State i (by omega) (by omega) (by omega)).2 s q
        have o:ms s.from_.toNat<=hi:=hq.1 (by show 0<=s.from_;omega)
        have l:=X5W f (s.from_.toNat-i) i (by omega)
        rw[show i+(s.from_.toNat-i)=s.from_.toNat by omega]at l
        rw[if_pos ⟨hd,by omega⟩]
        exact X71 f dev t st lo hi d b e (i+1) x.State i (by omega) (by omega) (by omega) ⟨s,q,hq⟩
    · rw[if_neg hd]at a
      rw[if_neg (fun k=>hd k.1)];exact X71 f dev t st lo hi d b e (i+1) now fr (by omega) h1 (by omega) ⟨s,a,hq⟩
def X3L (r:CoRecord) (ms:Nat->Int) (dev t:Int):Int:=X3p dev t ms r.Entries 0 (X6c r dev)
theorem X8e {r:CoRecord} {ms:Nat->Int} (h:X6F r ms) (dev st t:Int):X8T r ms ⟨dev,st,⟨t,t⟩⟩↔X3L r ms dev t=st:=by
  constructor
  · intro a
    exact X71 h.1.2.1 dev t st t t rfl rfl r.Entries 0 (X6c r dev) (-1) (by omega) (by omega) (by omega) a
  · intro a
    exact X61 h.1.2.1 dev t st t t (Int.le_refl _) (Int.le_refl _) r.Entries 0 (X6c r dev) (-1) (by omega) (by omega) (by omega) (fun h=>by omega) a
end Nore
open Go Go.Ab
namespace Nore
def X7S (l:List Int) (n:Nat):Int:=if l.length=0 then 0 else l.getD (n % l.length) 0
theorem X8y (l:List Int) (h:∀v∈l,0<=v/\v<=65535) (n:Nat):X4x l (n:Int)=some (X7S l n)/\0<=X7S l n/\X7S l n<=65535:=by
  rw[X5y];unfold X2A X7S
  by_cases h0:l.length=0
  · simp[h0]
  · have a:n % l.length<l.length:=Nat.mod_lt _ (by omega)
    have e0:((l.length:Int)==0)=false:=X2O (by omega)
    have e1:Int.tmod (n:Int) (l.length:Int)=((n % l.length:Nat):Int):=by
      rw[Int.tmod_eq_emod_of_nonneg (by omega)];rfl
    have c1:decide ((0:Int)<=((n % l.length:Nat):Int))=true:=by rw[jk];omega
    have c2:decide (((n % l.length:Nat):Int)<(l.length:Int))=true:=by rw[jk];omega
    have hv:=h _ (jl a);have w:IntKind.wrap .i64 l[n % l.length]=l[n % l.length]:=by rw[w64]<;>omega
    simp only[e0,jA,e1,c1,c2,ju,jB,kS,Xe _ _ _ a,w,if_neg h0];exact⟨by first|rfl|trivial,hv⟩
theorem X8n (lo hi v:Int) (d:0<=lo) (b:lo<=hi) (e:hi<=1000000) (hv:0<=v/\v<=65535):∃m,X4c ⟨lo,hi⟩ v=some m/\lo<=m/\m<=hi:=by
  rw[X58];unfold X2j;have w1:IntKind.wrap .i64 (hi-lo)=hi-lo:=by rw[w64]<;>omega
  have w2:IntKind.wrap .i64 (hi-lo+1)=hi-lo+1:=by rw[w64]<;>omega
  have c:(hi-lo+1==0)=false:=X2O (by omega)
  have a:Int.tmod v (hi-lo+1)=v % (hi-lo+1):=Int.tmod_eq_emod_of_nonneg hv.1;have g1:=Int.emod_nonneg v (by omega:hi-lo+1≠0)
  have g2:=Int.emod_lt_of_pos v (by omega:0<hi-lo+1)
  have w3:IntKind.wrap .i64 (lo+v % (hi-lo+1))=lo+v % (hi-lo+1):=by rw[w64]<;>omega
  simp only[w1,w2,c,jA,a,w3];exact⟨_,rfl,by omega,by omega⟩
theorem X6b {r:CoRecord} (h:X36 r) (i:Nat) (hi:i<r.Entries.length):0<=r.Entries[i].At.Lo/\r.Entries[i].At.Lo<=r.Entries[i].At.Hi/\r.Entries[i].At.Hi<=9999:=by
  have:=(X4E (x:=⟨r.Entries[i].Device,r.Entries[i].State,r.Entries[i].At⟩) (h.ent _ (jl hi))).2;simpa using this
theorem X7j {r:CoRecord} (h:X36 r) (i k:Nat) (f:i<=k) (c:k<r.Entries.length):(r.Entries[i]'(by omega)).At.Lo<=r.Entries[k].At.Hi:=by
  obtain⟨x,a,e⟩:=X6e r.Entries 0 0 h.order;have b:X7c r.Entries.length x:=fun j d=>e j d;have g1:=(a i (by omega)).1
  have g2:=(a k c).2.1;have g3:=X5W b (k-i) i (by omega)
  rw[show i+(k-i)=k by omega]at g3
  omega
theorem X8F {r:CoRecord} (h:X36 r) (i:Nat) (hi:i<r.Entries.length):∃m,X2x r (((i+1:Nat):Int),r.Entries[i].At.Hi)=some m/\(∀k (a:k<r.Entries.length),i<=k->m<=r.Entries[k].At.Hi)/\∃k,∃a:k<r.Entries.length,i<=k/\m=r.Entries[k].At.Hi:=by
  obtain⟨w,l,g⟩:=Wv (Wz r) r.Entries.length (fun k (b:Int)=>((k:Int),b))
    (fun k b=>i<k/\(∀j (c:j<r.Entries.length),i<=j->j<k->b<=r.Entries[j].At.Hi)/\∃j,∃c:j<r.Entries.length,i<=j/\b=r.Entries[j].At.Hi)
    (fun w=>(∀k (a:k<r.Entries.length),i<=k->w<=r.Entries[k].At.Hi)/\∃k,∃a:k<r.Entries.length,i<=k/\w=r.Entries[k].At.Hi)
    (fun b d=>⟨b,by simp[Wz,WI],fun k a f=>d.2.1 k a f a,d.2.2⟩)
    (fun k b a d=>by
      right;obtain⟨q0,q1,q2⟩:=d;have e1:decide ((k:Int)<(r.Entries.length:Int))=true:=by simp;omega
      have w1:=wS k (by have:=h.many;omega)
      simp only[Wz,WI,e1,z0S,kS,ju,jB,Xe _ _ _ a,w1]
      by_cases hc:r.Entries[k].At.Hi<b
      · simp only[hc,decide_true,jB]
        refine⟨_,rfl,by omega,fun j c j1 j2=>?_,k,a,by omega,rfl⟩
        by_cases e:j=k
        · subst e;exact Int.le_refl _
        · have:=q1 j c j1 (by omega);omega
      · simp only[hc,decide_false,jA]
        refine⟨_,rfl,by omega,fun j c j1 j2=>?_,q2⟩
        by_cases e:j=k
        · subst e;omega
        · exact q1 j c j1 (by omega)) (i+1) r.Entries[i].At.Hi (by omega) ⟨by omega,fun j c j1 j2=>by
      have:j=i:=by omega
      subst this;exact Int.le_refl _,i,hi,Nat.le_refl _,rfl⟩
  exact⟨w,l,g⟩
theorem X7U {r:CoRecord} (h:X36 r) (x:Za) (hx:∀v∈x.Minutes,0<=v/\v<=65535) :
    ∃out,X2P r x=some out/\out.length=r.Entries.length/\X6F r (fun j=>out.getD j 0)/\∀v∈out,0<=v/\v<=9999:=by
  rw[X4q];unfold X1x;obtain⟨w,h1,h2⟩:=Wv (Wy x r) r.Entries.length (fun i (b:Int×List Int)=>((i:Int),b.1,b.2))
    (fun i b=>b.2.length=i/\(∀v∈b.2,0<=v/\v<=9999)/\0<=b.1/\(∀k (hk:k<r.Entries.length),i<=k->b.1<=r.Entries[k].At.Hi)/\(∀j (a:j<i) (z:j<r.Entries.length),r.Entries[j].At.Lo<=b.2.getD j 0/\b.2.getD j 0<=r.Entries[j].At.Hi/\b.2.getD j 0<=b.1)/\∀j,j+1<i->b.2.getD j 0<=b.2.getD (j+1) 0)
    (fun w=>w.length=r.Entries.length/\(∀v∈w,0<=v/\v<=9999)/\(∀j (a:j<r.Entries.length),r.Entries[j].At.Lo<=w.getD j 0/\w.getD j 0<=r.Entries[j].At.Hi)/\∀j,j+1<r.Entries.length->w.getD j 0<=w.getD (j+1) 0)
    (fun b c=>⟨b.2,by simp[Wy,WH],c.1,c.2.1,fun j a=>⟨(c.2.2.2.2.1 j a a).1,(c.2.2.2.2.1 j a a).2.1⟩,c.2.2.2.2.2⟩)
    (fun i b hi c=>by
      right;obtain⟨before,out⟩:=b;obtain⟨q1,q2,q3,q4,q5,q6⟩:=c;simp only at q1 q2 q3 q4 q5 q6;have hn:=h.many;have e1:decide ((i:Int)<(r.Entries.length:Int))=true:=by simp;omega
      have w1:=wS i (by omega)
      obtain⟨m,hm,t,k0,n,g,hm2⟩:=X8F h i hi;have hbd:=X6b h i hi;have hk0b:=X6b h k0 n;have ha:=X7j h i k0 g n;have hb4:=q4 k0 n g;have hf:(bif decide (r.Entries[i].At.Lo>before)then r.Entries[i].At.Lo else before)=(if r.Entries[i].At.Lo>before then r.Entries[i].At.Lo else before):=by by_cases q:r.Entries[i].At.Lo>before<;>simp[q]
      have f:r.Entries[i].At.Lo<=(if r.Entries[i].At.Lo>before then r.Entries[i].At.Lo else before)/\before<=(if r.Entries[i].At.Lo>before then r.Entries[i].At.Lo else before)/\(if r.Entries[i].At.Lo>before then r.Entries[i].At.Lo else before)<=m:=by
        split<;>omega
      generalize hF:(if r.Entries[i].At.Lo>before then r.Entries[i].At.Lo else before)=first at hf f
      obtain⟨t1,t2,t3⟩:=X8y x.Minutes hx i;have l:(bif decide (m>first)then m else first)=m:=by
        by_cases q:m>first
        · simp[q]
        · simp[q];omega
      have o:X2z first m=some ⟨first,m⟩:=by rw[X3D];rfl
      obtain⟨v,hv,hv1,hv2⟩:=X8n first m (X7S x.Minutes i) (by omega) (by omega) (by omega) ⟨t2,t3⟩
      have b1:Nat.ble ((i+1)*(8+1)) 200000000000000=true:=by rw[Nat.ble_eq];omega
      simp only[Wy,WH,e1,z0S,kS,ju,jB,Xe _ _ _ hi,w1,hm,jS,hf,l,o,t1,hv,q1,List.length_singleton,b1];have hvi:=t i hi (Nat.le_refl _);have d:∀j,j<i->(out++[v]).getD j 0=out.getD j 0:=fun j a=>by
        simp only[List.getD_eq_getElem?_getD,List.getElem?_append_left (by omega:j<out.length)]
      have s:(out++[v]).getD i 0=v:=by
        simp only[List.getD_eq_getElem?_getD,<-q1];simp
      refine⟨(v,out++[v]),rfl,by simp[q1],fun u y=>?_,by show 0<=v;omega,fun k hk hik=>?_,fun j a z=>?_,fun j a=>?_⟩
      · rcases List.mem_append.1 y with y|y
        · exact q2 u y
        · rw[List.mem_singleton.1 y];omega
      · have:=t k hk (by omega)
        show v<=r.Entries[k].At.Hi;omega
      · show r.Entries[j].At.Lo<=(out++[v]).getD j 0/\(out++[v]).getD j 0<=r.Entries[j].At.Hi/\(out++[v]).getD j 0<=v
        by_cases e:j=i
        · subst e
          rw[s];omega
        · rw[d j (by omega)]
          have:=q5 j (by omega) z
          omega
      · show(out++[v]).getD j 0<=(out++[v]).getD (j+1) 0
        by_cases e:j+1=i
        · subst e
          rw[s,d j (by omega)]
          have:=(q5 j (by omega) (by omega)).2.2
          omega
        · rw[d j (by omega),d (j+1) (by omega)]
          exact q6 j (by omega)) 0 (0,[]) (Nat.zero_le _) ⟨rfl,(fun v hv=>by cases hv),Int.le_refl _,(fun k hk _=>by have:=X6b h k hk;omega),(fun j a=>by omega),(fun j a=>by omega)⟩
  have h1':X2w x r (0,0,[])=some w:=h1;obtain⟨g1,g2,g3,g4⟩:=h2;refine⟨w,by rw[h1'];rfl,g1,?_,g2⟩
  have c:∀i (hi:i<r.Entries.length),(X2J (X19 r) []).lo i=r.Entries[i].At.Lo/\(X2J (X19 r) []).hi i=r.Entries[i].At.Hi:=fun i hi=>by
    show((r.Entries.getD i (Zq.mk 0 0 (Y2.mk 0 0))).At).Lo=_/\((r.Entries.getD i (Zq.mk 0 0 (Y2.mk 0 0))).At).Hi=_;rw[Xe _ _ _ hi];exact⟨rfl,rfl⟩
  exact⟨⟨fun i hi=>by rw[(c i hi).1];exact(g3 i hi).1,fun i hi=>g4 i hi,fun p hp=>by cases hp⟩,⟨fun i hi=>by rw[(c i hi).2];exact(g3 i hi).2,fun i hi=>g4 i hi,fun p hp=>by cases hp⟩⟩
theorem X8l {r:CoRecord} (h:r.Entries.length<=10) (ms:List Int) (e:ms.length=r.Entries.length) {dev:Int} (d:0<=dev/\dev<r.Devices.length) (t:Int) :
    X4b r ms dev t=some (X3L r (fun j=>ms.getD j 0) dev t):=by
  rw[X56];unfold X2i;have c1:decide (0<=dev)=true:=by simp[d.1]
  have c2:decide (dev<(r.Devices.length:Int))=true:=by simp[d.2]
  simp only[c1,c2,ju,jB];obtain⟨w,g,f⟩:=Wv (WV t ms dev r) r.Entries.length (fun i (b:Int)=>(b,(i:Int)))
    (fun i b=>X3p dev t (fun j=>ms.getD j 0) (r.Entries.drop i) i b=X3L r (fun j=>ms.getD j 0) dev t) (fun w=>w=X3L r (fun j=>ms.getD j 0) dev t)
    (fun b a=>⟨b,by simp[WV,X13,e],by rw[List.drop_length]at a;exact a⟩)
    (fun i b hi a=>by
      right;have e1:decide ((i:Int)<(r.Entries.length:Int))=true:=by simp;omega
      have w1:=wS i (by omega)
      rw[jb hi,X2H]at a;simp only[WV,X13,e,e1,z0S,kS,ju,jB,Xe _ _ _ hi,w1]
      by_cases hdv:r.Entries[i].Device=dev
      · have d1:(r.Entries[i].Device==dev)=true:=by simp[hdv]
        simp only[d1,jB]
        by_cases ht:ms.getD i 0<=t
        · simp only[ht,decide_true,jB]
          rw[if_pos ⟨hdv,ht⟩]at a;exact⟨_,rfl,a⟩
        · simp only[ht,decide_false,jA]
          rw[if_neg (fun q=>ht q.2)]at a;exact⟨_,rfl,a⟩
      · have d1:(r.Entries[i].Device==dev)=false:=X2O hdv
        simp only[d1,jA];rw[if_neg (fun q=>hdv q.1)]at a;exact⟨_,rfl,a⟩) 0 (r.Devices.getD dev.toNat (Zm.mk ByteArray.empty 0 0)).First (Nat.zero_le _) rfl
  have c:X2Z t ms dev r ((r.Devices.getD dev.toNat (Zm.mk ByteArray.empty 0 0)).First,0)=some w:=g;rw[c,f];rfl
end Nore
open Go Go.Ab
namespace Nore
theorem X4j (v k:Int) (hv:0<=v) (a:0<k):0<=Int.tmod v k/\Int.tmod v k<k:=⟨Int.tmod_nonneg k hv,Int.tmod_lt_of_pos v a⟩
theorem X7Q {r:CoRecord} (h:X36 r) (ms:Nat->Int) {dev:Int} (j:0<=dev/\dev<r.Devices.length) (t:Int) {S:Nat} (c:(r.Devices.getD dev.toNat (Zm.mk ByteArray.empty 0 0)).States=(S:Int)) :
    0<=X3L r ms dev t/\X3L r ms dev t<(S:Int):=by
  have a:∀(e:List Zq) (i:Nat) (now:Int),(∀x∈e,x∈r.Entries)->0<=now/\now<(S:Int)->0<=X3p dev t ms e i now/\X3p dev t ms e i now<(S:Int):=by
    intro e
    induction e with
    | nil=>intro i now _ d;exact d
    | cons x e ih =>
      intro i now b d;rw[X2H];refine ih (i+1) _ (fun y hy=>b y (by simp[hy])) ?_
      split
      · rename_i hc
        have hE:=h.ent x (b x (by simp))
        unfold W6 at hE;have k:=h.devs;have q1:WP 0 ((r.Devices.length:Int)-1) [x.Device]=false:=by
          cases q:WP 0 ((r.Devices.length:Int)-1) [x.Device]with
          | false=>rfl
          | true=>rw[q]at hE;exact absurd hE (by simp)
        rw[q1,hc.1,c]at hE;have m:2<=S/\S<=4:=by
          obtain⟨S',l,n,o⟩:=X2u h j;rw[c]at l;omega
        have w1:IntKind.wrap .i64 ((S:Int)-1)=(S:Int)-1:=by rw[w64]<;>omega
        rw[w1]at hE;have q2:WP 0 ((S:Int)-1) [x.State]=false:=by
          cases q:WP 0 ((S:Int)-1) [x.State]with
          | false=>rfl
          | true=>rw[q]at hE;exact absurd hE (by simp)
        have:=X2K q2;omega
      · exact d
  refine a r.Entries 0 _ (fun x b=>b) ?_;have g:r.Devices.getD dev.toNat (Zm.mk ByteArray.empty 0 0)=r.Devices[dev.toNat]'(by omega):=Xe _ _ _ (by omega)
  have f:=(h.dev _ (jl (by omega:dev.toNat<r.Devices.length))).2
  rw[g]at c;rw[c]at f;show 0<=(r.Devices.getD dev.toNat ⟨ByteArray.empty,0,0⟩).First/\(r.Devices.getD dev.toNat ⟨ByteArray.empty,0,0⟩).First<(S:Int);rw[g];exact f
theorem X7N {r:CoRecord} (h:X36 r) {dev st lo hi:Int} (b:0<=dev/\dev<r.Devices.length) {S:Nat} (a:(r.Devices.getD dev.toNat (Zm.mk ByteArray.empty 0 0)).States=(S:Int)) (d:0<=st/\st<(S:Int)) (e:0<=lo) (g:lo<=hi) (c:hi<=9999):W6 r dev st ⟨lo,hi⟩=0:=by
  unfold W6;have q1:WP 0 ((r.Devices.length:Int)-1) [dev]=false:=by
    simp only[X3z,X43,Bool.or_false,Bool.or_eq_false_iff,decide_eq_false_iff_not];omega
  have i:2<=S/\S<=4:=by
    obtain⟨S',f,j,k⟩:=X2u h b;rw[a]at f;omega
  have w1:IntKind.wrap .i64 ((S:Int)-1)=(S:Int)-1:=by rw[w64]<;>omega
  have q2:WP 0 ((S:Int)-1) [st]=false:=by
    simp only[X3z,X43,Bool.or_false,Bool.or_eq_false_iff,decide_eq_false_iff_not];omega
  have q3:WP 0 9999 [lo,hi]=false:=by
    simp only[X3z,X43,Bool.or_false,Bool.or_eq_false_iff,decide_eq_false_iff_not];omega
  rw[q1,a,w1,q2,q3];simp only[jg,if_false];rw[if_neg (by omega)]
set_option maxHeartbeats 1000000 in
theorem X8K {r:CoRecord} (h:X36 r) (x:Za) (hx:∀v∈x.Minutes,0<=v/\v<=65535) (hy:∀v∈x.Taken,0<=v/\v<=65535) :
    ∃ms out,X2P r x=some ms/\ms.length=r.Entries.length/\X6F r (fun j=>ms.getD j 0)/\(∀v∈ms,0<=v/\v<=9999)/\X2Q (x,r)=some out/\out.length<=4/\∀w∈out,W6 r w.Device w.State w.At=0/\X6C r (fun j=>ms.getD j 0) w:=by
  obtain⟨ms,m1,m2,m3,m4⟩:=X7U h x hx;obtain⟨w,z,p⟩:=Wv (W5 ms x r) 4 (fun i (b:List Zr)=>(((4*i:Nat):Int),b))
    (fun i b=>b.length=i/\∀w∈b,W6 r w.Device w.State w.At=0/\X6C r (fun j=>ms.getD j 0) w) (fun b=>b.length<=4/\∀w∈b,W6 r w.Device w.State w.At=0/\X6C r (fun j=>ms.getD j 0) w)
    (fun b g=>⟨b,by
      have e1:decide (((b.length:Int))<4)=false:=by rw[g.1];rfl
      simp only[W5,W7,e1,jA,Bool.cond_self],by omega,g.2⟩)
    (fun i b hi g=>by
      obtain⟨q1,q2⟩:=g;have w3:IntKind.wrap .i64 (((4*i:Nat):Int)+3)=((4*i+3:Nat):Int):=by rw[w64]<;>omega
      by_cases hc:4*i+3<x.Taken.length
      · right
        have w1:IntKind.wrap .i64 (((4*i:Nat):Int)+1)=((4*i+1:Nat):Int):=by rw[w64]<;>omega
        have w2:IntKind.wrap .i64 (((4*i:Nat):Int)+2)=((4*i+2:Nat):Int):=by rw[w64]<;>omega
        have w4:IntKind.wrap .i64 (((4*i:Nat):Int)+4)=((4*(i+1):Nat):Int):=by rw[w64]<;>omega
        have k0:decide (((4*i:Nat):Int)<(x.Taken.length:Int))=true:=by rw[jk];omega
        have k1:decide (((4*i+1:Nat):Int)<(x.Taken.length:Int))=true:=by rw[jk];omega
        have k2:decide (((4*i+2:Nat):Int)<(x.Taken.length:Int))=true:=by rw[jk];omega
        have k3:decide (((4*i+3:Nat):Int)<(x.Taken.length:Int))=true:=by rw[jk];omega
        have kl:decide ((b.length:Int)<4)=true:=by rw[jk];omega
        have hdv:=h.devs;have kd:((r.Devices.length:Int)==0)=false:=X2O (by omega)
        have v0:=hy _ (jl (by omega:4*i<x.Taken.length))
        have v1:=hy _ (jl (by omega:4*i+1<x.Taken.length))
        have v2:=hy _ (jl (by omega:4*i+2<x.Taken.length))
        have v3:=hy _ (jl (by omega:4*i+3<x.Taken.length))
        have u0:IntKind.wrap .i64 x.Taken[4*i]=x.Taken[4*i]:=by rw[w64]<;>omega
        have u1:IntKind.wrap .i64 x.Taken[4*i+1]=x.Taken[4*i+1]:=by rw[w64]<;>omega
        have u2:IntKind.wrap .i64 x.Taken[4*i+2]=x.Taken[4*i+2]:=by rw[w64]<;>omega
        have u3:IntKind.wrap .i64 x.Taken[4*i+3]=x.Taken[4*i+3]:=by rw[w64]<;>omega
        have d:=X4j x.Taken[4*i] (r.Devices.length:Int) v0.1 (by omega)
        have ht:=X4j x.Taken[4*i+1] 10000 v1.1 (by omega)
        have hA:=X4j x.Taken[4*i+2] 30 v2.1 (by omega)
        have hB:=X4j x.Taken[4*i+3] 30 v3.1 (by omega)
        have k:=X8l h.many ms m2 (dev:=Int.tmod x.Taken[4*i] (r.Devices.length:Int)) d (Int.tmod x.Taken[4*i+1] 10000);have o:Nat.ble ((b.length+1)*(32+1)) 200000000000000=true:=by rw[Nat.ble_eq];omega
        simp only[W5,W7,w1,w2,w3,w4,k0,k1,k2,k3,kl,kd,z0S,kS,ju,jB,jA,Xe _ _ _ (by omega:4*i<x.Taken.length),Xe _ _ _ (by omega:4*i+1<x.Taken.length),Xe _ _ _ (by omega:4*i+2<x.Taken.length),Xe _ _ _ (by omega:4*i+3<x.Taken.length),u0,u1,u2,u3,k,jS,List.length_singleton,o]
        generalize hdE:Int.tmod x.Taken[4*i] (r.Devices.length:Int)=dev at d;generalize htE:Int.tmod x.Taken[4*i+1] 10000=t at ht;generalize hAE:Int.tmod x.Taken[4*i+2] 30=a at hA;generalize hBE:Int.tmod x.Taken[4*i+3] 30=c at hB;have wa:IntKind.wrap .i64 (t-a)=t-a:=by rw[w64]<;>omega
        have wc:IntKind.wrap .i64 (t+c)=t+c:=by rw[w64]<;>omega
        have n:(bif decide (t-a>0)then t-a else 0)=(if t-a>0 then t-a else 0):=by by_cases q:t-a>0<;>simp[q]
        have l:(bif decide (t+c<9999)then t+c else 9999)=(if t+c<9999 then t+c else 9999):=by by_cases q:t+c<9999<;>simp[q]
        have f:∀u v,X2z u v=some ⟨u,v⟩:=fun u v=>by rw[X3D];rfl
        simp only[wa,wc,n,l,f,jS];obtain⟨S,s,_,y⟩:=X2u h d;refine⟨_,rfl,by simp[q1],fun w e=>?_⟩
        rcases List.mem_append.1 e with e|e
        · exact q2 w e
        · rw[List.mem_singleton.1 e]
          refine⟨X7N h d s (X7Q h _ d t s) ?_ ?_ ?_,t,?_,?_,rfl⟩
          · split<;>omega
          · split<;>split<;>omega
          · split<;>omega
          · show(if t-a>0 then t-a else 0)<=t
            split<;>omega
          · show t<=(if t+c<9999 then t+c else 9999)
            split<;>omega
      · left
        have e1:decide (((4*i+3:Nat):Int)<(x.Taken.length:Int))=false:=by rw[decide_eq_false_iff_not];omega
        exact⟨b,by simp only[W5,W7,w3,e1,jA],by omega,q2⟩) 0 [] (Nat.zero_le _) ⟨rfl,fun w e=>by cases e⟩
  have m:X2y ms x r (0,[])=some w:=z;refine⟨ms,w,m1,m2,m3,m4,?_,p.1,p.2⟩;rw[X4s];unfold X1y;simp only[m1,jS,m]
end Nore
open Go Go.Ab
namespace Nore
theorem X8X (v:Int) (hv:0<=v) (i:Nat) (hi:i<=64):(Int.tmod (Int.fdiv v (2 ^ min i (IntKind.bits .i64))) 2==1)=v.toNat.testBit i:=by
  have e:IntKind.bits .i64=64:=rfl;have b:((2:Int) ^ i)=((2 ^ i:Nat):Int):=by simp
  have a:Int.fdiv v (2 ^ min i 64)=((v.toNat / 2 ^ i:Nat):Int):=by
    rw[show min i 64=i by omega,b]
    conv=>lhs;rw[show v=((v.toNat:Nat):Int) by omega]
    rw[Int.ofNat_fdiv]
  rw[e,a];have c:Int.tmod ((v.toNat / 2 ^ i:Nat):Int) 2=((v.toNat / 2 ^ i % 2:Nat):Int):=rfl;rw[c,Nat.testBit_eq_decide_div_mod_eq];have:v.toNat / 2 ^ i % 2<2:=Nat.mod_lt _ (by omega)
  by_cases h:v.toNat / 2 ^ i % 2=1
  · simp[h]
  · have d:v.toNat / 2 ^ i % 2=0:=by omega
    simp[d]
theorem X7H {α:Type} (p:List α) (x:α) (q:List α) (d:α):(p++x::q).getD p.length d=x:=by simp[List.getD]
theorem X8h {α:Type} (p:List α) (x:α) (q:List α) (a:α):(p++x::q).set p.length a=p++a::q:=by simp
def X3k (g:Zr->Zr) (m:Nat):Nat->List Zr->List Zr
  | _,[]=>[]
  | i,x::xs=>(if m.testBit i then g x else x)::X3k g m (i+1) xs
theorem X3x (g:Zr->Zr) (m i:Nat) (x:Zr) (xs:List Zr):X3k g m i (x::xs)=(if m.testBit i then g x else x)::X3k g m (i+1) xs:=rfl
theorem X5m (g:Zr->Zr) (m:Nat):∀(l:List Zr) (i:Nat),(X3k g m i l).length=l.length
  | [],_=>rfl
  | x::l,i=>by rw[X3x,List.length_cons,List.length_cons,X5m g m l (i+1)]
theorem X6M (g:Zr->Zr) (m:Nat) (x:Zr):∀(l:List Zr) (i:Nat),X3k g m i (l++[x])=X3k g m i l++[if m.testBit (i+l.length)then g x else x]
  | [],i=>rfl
  | y::l,i=>by
    rw[List.cons_append,X3x,X3x,X6M g m x l (i+1),show i+(y::l).length=i+1+l.length by simp only[List.length_cons];omega]
    rfl
theorem X6h (g:Zr->Zr) (m:Nat):∀(l:List Zr) (i:Nat),Wg m i (X3k g m i l)=Wg m i l
  | [],_=>rfl
  | x::l,i=>by
    rw[X3x,X1f,X1f,X6h g m l (i+1)];cases h:m.testBit i<;>simp
theorem X6N (g:Zr->Zr) (m:Nat):∀(l:List Zr) (i:Nat),W0 m i (X3k g m i l)=W0 m i l
  | [],_=>rfl
  | x::l,i=>by rw[X3x,X1G,X1G,X6N g m l (i+1)]
theorem X7g (g:Zr->Zr) (m:Nat):∀(l:List Zr) (i:Nat),∀w∈X3k g m i l,w∈l\/∃v∈l,w=g v
  | x::l,i,w,h=>by
    rw[X3x]at h;rcases jv.1 h with rfl|h
    · split
      · exact .inr ⟨x,by simp,rfl⟩
      · exact .inl (by simp)
    · rcases X7g g m l (i+1) w h with h|⟨v,hv,h⟩
      · exact .inl (by simp[h])
      · exact .inr ⟨v,by simp[hv],h⟩
def X3C (r:CoRecord) (a t:Int) (w:Zr):Zr:=⟨w.Device,Int.tmod a (r.Devices.getD w.Device.toNat (Zm.mk ByteArray.empty 0 0)).States,⟨Int.tmod t 10000,if Int.tmod t 10000+3<9999 then Int.tmod t 10000+3 else 9999⟩⟩
set_option maxHeartbeats 1000000 in
theorem X7T {r:CoRecord} (hr:X36 r) (y:Nat->Int) (hy:∀j,j<3->0<=y j/\y j<=65535) (l:List Zr) (hl:l.length<=4) (x:∀w∈l,0<=w.Device/\w.Device<r.Devices.length) :
    WU r y (0,0,l)=some (((W0 (y 0).toNat 0 l).length:Int),X3k (X3C r (y 1) (y 2)) (y 0).toNat 0 l):=by
  obtain⟨w,h1,h2⟩:=Wv (W1 r y) l.length (fun i (b:Int×List Zr)=>((i:Int),b.1,b.2))
    (fun i b=>b.1=((W0 (y 0).toNat 0 (l.take i)).length:Int)/\b.2=X3k (X3C r (y 1) (y 2)) (y 0).toNat 0 (l.take i)++l.drop i)
    (fun w=>w=(((W0 (y 0).toNat 0 l).length:Int),X3k (X3C r (y 1) (y 2)) (y 0).toNat 0 l))
    (fun b g=>⟨b,by
      have e1:decide ((l.length:Int)<(b.2.length:Int))=false:=by
        rw[g.2,List.length_append,X5m,List.length_take,List.length_drop,decide_eq_false_iff_not];omega
      simp only[W1,Wd,e1,jA],by
      obtain⟨q1,q2⟩:=g;rw[List.take_length]at q1 q2;rw[List.drop_length,jo]at q2;exact Prod.ext q1 q2⟩)
    (fun i b hi g=>by
      right;obtain⟨many,cur⟩:=b;obtain⟨q1,q2⟩:=g;simp only at q1 q2;have ht:l.take (i+1)=l.take i++[l[i]]:=List.take_succ_eq_append_getElem hi;have d:(l.take i).length=i:=by rw[List.length_take];omega
      have k:=X5K (y 0).toNat l[i] (l.take i) 0;have h:=X6M (X3C r (y 1) (y 2)) (y 0).toNat l[i] (l.take i) 0;rw[<-ht,d,Nat.zero_add]at k h;rw[jb hi]at q2;have c:(X3k (X3C r (y 1) (y 2)) (y 0).toNat 0 (l.take i)).length=i:=by rw[X5m,d]
      generalize X3k (X3C r (y 1) (y 2)) (y 0).toNat 0 (l.take i)=p at q2 h c;have m:cur.length=l.length:=by rw[q2,List.length_append,List.length_cons,List.length_drop,c];omega
      have n:=X5p (y 0).toNat (l.take i) 0;rw[d]at n;have e1:decide ((i:Int)<(cur.length:Int))=true:=by rw[m];simp;omega
      have e2:decide ((i:Int)<0)=false:=by simp
      have w1:=wS i (by omega)
      have w2:IntKind.wrap .i64 (many+1)=many+1:=by rw[q1,w64]<;>omega
      have y0:=hy 0 (by omega)
      have y1:=hy 1 (by omega)
      have y2:=hy 2 (by omega)
      have u0:IntKind.wrap .i64 (y 0)=y 0:=by rw[w64]<;>omega
      have u1:IntKind.wrap .i64 (y 1)=y 1:=by rw[w64]<;>omega
      have u2:IntKind.wrap .i64 (y 2)=y 2:=by rw[w64]<;>omega
      have z0:Int.toNat 0=0:=rfl;have z1:Int.toNat 1=1:=rfl;have z2:Int.toNat 2=2:=rfl;have g:=X8X (y 0) y0.1 i (by omega)
      have e:=x _ (jl hi);have c1:decide (0<=l[i].Device)=true:=by simp[e.1]
      have c2:decide (l[i].Device<(r.Devices.length:Int))=true:=by simp[e.2]
      obtain⟨S,t,hS2,z⟩:=X2u hr e;have c3:((S:Int)==0)=false:=X2O (by omega)
      have ht2:=X4j (y 2) 10000 y2.1 (by omega)
      have w3:IntKind.wrap .i64 (Int.tmod (y 2) 10000+3)=Int.tmod (y 2) 10000+3:=by rw[w64]<;>omega
      have o:(bif decide (Int.tmod (y 2) 10000+3<9999)then Int.tmod (y 2) 10000+3 else 9999)=(if Int.tmod (y 2) 10000+3<9999 then Int.tmod (y 2) 10000+3 else 9999):=by by_cases q:Int.tmod (y 2) 10000+3<9999<;>simp[q]
      have f:∀u v,X2z u v=some ⟨u,v⟩:=fun u v=>by rw[X3D];rfl
      have e3:Nat.blt i cur.length=true:=by rw[m,Nat.blt_eq];exact hi
      have g1:cur.getD i (Zr.mk 0 0 (Y2.mk 0 0))=l[i]:=by rw[q2];have:=X7H p l[i] (l.drop (i+1)) (Zr.mk 0 0 (Y2.mk 0 0));rwa [c]at this
      have g2:∀a,cur.set i a=p++a::l.drop (i+1):=fun a=>by rw[q2];have:=X8h p l[i] (l.drop (i+1)) a;rwa [c]at this
      have g3:∀a:Zr,(p++a::l.drop (i+1)).getD i (Zr.mk 0 0 (Y2.mk 0 0))=a:=fun a=>by have:=X7H p a (l.drop (i+1)) (Zr.mk 0 0 (Y2.mk 0 0));rwa [c]at this
      have g4:∀a b:Zr,(p++a::l.drop (i+1)).set i b=p++b::l.drop (i+1):=fun a b=>by have:=X8h p a (l.drop (i+1)) b;rwa [c]at this
      have g5:∀a:Zr,(p++a::l.drop (i+1)).length=l.length:=fun a=>by rw[List.length_append,List.length_cons,List.length_drop,c];omega
      have e4:decide ((i:Int)<(l.length:Int))=true:=by simp;omega
      have e5:Nat.blt i l.length=true:=by rw[Nat.blt_eq];exact hi
      simp only[W1,Wd,e1,e2,e3,e4,e5,z0S,z0,z1,z2,kS,ju,jB,jA,w1,w2,u0,u1,u2,g,g1,g2,g3,g4,g5,c1,c2,t,c3,w3,o,f,jS];cases hbit:(y 0).toNat.testBit i with
      | true =>
        rw[hbit]at k h;simp only[jB];refine⟨(_,_),rfl,?_,?_⟩
        · rw[k,q1];simp
        · rw[h,if_pos rfl,jj]
          show p++_::l.drop (i+1)=p++([X3C r (y 1) (y 2) l[i]]++l.drop (i+1));unfold X3C;rw[t];rfl
      | false =>
        rw[hbit]at k h;simp only[jA];refine⟨(_,_),rfl,?_,?_⟩
        · rw[k,q1];simp
        · rw[h,q2,if_neg (by decide),jj];rfl) 0 (0,l) (Nat.zero_le _) ⟨by simp[W0],by simp[X3k]⟩
  have s:WU r y (0,0,l)=some w:=h1;rw[s,h2]
theorem X6z (r:CoRecord):X4d r=some ((X1k r).2.2==0):=by
  rw[X5a];unfold X2k;rw[X6B];rfl
theorem X6r (r:CoRecord) (x:Za) (y:Nat->Int) (hx:∀v∈x.Minutes,0<=v/\v<=65535) (h:∀v∈x.Taken,0<=v/\v<=65535) (hy:∀j,j<3->0<=y j/\y j<=65535):X1Q r x y=some true:=by
  rw[X3M];unfold WK;rw[X6z]
  by_cases hc:(X1k r).2.2=0
  · have hz:((X1k r).2.2==0)=true:=by simp[hc]
    have hr:=X4T hc;obtain⟨ms,l,_,_,hm,_,hT,p,b⟩:=X8K hr x hx h;have a:∀w∈l,0<=w.Device/\w.Device<r.Devices.length:=fun w d=>(X4E (b w d).1).1.dev;have e:=X7T hr y hy l p a;have i:=hy 1 (by omega)
    have n:=hy 2 (by omega)
    have f:X2m r (X3k (X3C r (y 1) (y 2)) (y 0).toNat 0 l)=(0,0):=X8f hc (by rw[X5m];exact p) fun w d=>by
      rcases X7g _ _ l 0 w d with d|⟨v,hv,rfl⟩
      · exact(b w d).1
      · obtain⟨S,s,z,t⟩:=X2u hr (a v hv)
        have a0:=X4j (y 2) 10000 n.1 (by omega)
        unfold X3C;rw[s];have hs:=X4j (y 1) (S:Int) i.1 (by omega)
        exact X7N hr (a v hv) s hs (by omega) (by split<;>omega) (by split<;>omega)
    have o:(X2m r (X3k (X3C r (y 1) (y 2)) (y 0).toNat 0 l)).2=0:=by rw[f]
    obtain⟨m,u,_,h3⟩:=X6K o;have k:Wr r (Wg (y 0).toNat 0 (X3k (X3C r (y 1) (y 2)) (y 0).toNat 0 l))=true:=by
      rw[X6h];exact X7C hm fun w d=>(b w (X4C _ l 0 w d)).2
    have g:=h3 (y 0).toNat k;rw[X6N]at g;have c:decide (((W0 m 0 (X3k (X3C r (y 1) (y 2)) (y 0).toNat 0 l)).length:Int)<=((W0 (y 0).toNat 0 l).length:Int))=true:=by
      rw[jk];rcases g with q|q
      · omega
      · omega
    have b3:((0:Int)==0)=true:=rfl;simp only[jS,hz,Bool.not_true,jA,hT,e,u,b3,jB,c]
  · have hz:((X1k r).2.2==0)=false:=X2O hc
    simp only[jS,hz,Bool.not_false,jB]
theorem X86 {n:Int} (h:(Lit.int .u16 n).wf=true):0<=n/\n<=65535:=by
  simp[Lit.wf,IntKind.has,IntKind.min,IntKind.max,IntKind.signed,IntKind.bits]at h;omega
theorem X6s (r:CoRecord) (x:Za) (y:Nat->Int) (c:∀v,List.Mem v x.Minutes->(Lit.int .u16 v).wf=true) (a:∀v,List.Mem v x.Taken->(Lit.int .u16 v).wf=true) (hy:∀j,j<3->(Lit.int .u16 (y j)).wf=true):X1Q r x y=some true :=
  X6r r x y (fun v hv=>X86 (c v hv)) (fun v hv=>X86 (a v hv)) fun j b=>X86 (hy j b)
end Nore
open Go Go.Ab
namespace Nore
theorem X8r (l:List Int) (f:l.length<=1000000) (v:Int):∃k,X1D l v=some k/\(decide (k>=0)=decide (v∈l)):=by
  rw[X3e];unfold We;obtain⟨w,e,d⟩:=Wv (XA (l.length:Int) v l) l.length (fun i (_:Unit)=>(i:Int)) (fun i _=>¬v∈l.take i)
    (fun w=>(∃i:Nat,w=.inl (i:Int)/\v∈l)\/(w=.inr ()/\¬v∈l))
    (fun _ b=>⟨.inr (),by simp[XA,XN],.inr ⟨rfl,by rwa [List.take_length]at b⟩⟩)
    (fun i _ hi b=>by
      have e1:decide ((i:Int)<(l.length:Int))=true:=by simp;omega
      have w1:=wS i (by omega)
      simp only[XA,XN,e1,z0S,kS,ju,jB,Xe _ _ _ hi,w1]
      by_cases he:v=l[i]
      · left
        have c:(v==l[i])=true:=by simp[he]
        simp only[c,jB];exact⟨_,rfl,.inl ⟨i,rfl,he▸jl hi⟩⟩
      · right
        have c:(v==l[i])=false:=X2O he;simp only[c,jA];refine⟨(),by first|rfl|trivial,fun h=>?_⟩
        rw[List.take_succ_eq_append_getElem hi]at h;rcases List.mem_append.1 h with h|h
        · exact b h
        · exact he (List.mem_singleton.1 h)) 0 () (Nat.zero_le _) (by simp)
  have a:X1e (l.length:Int) v l 0=some w:=e;rw[a];rcases d with⟨i,rfl,h⟩|⟨rfl,h⟩
  · exact⟨(i:Int),rfl,by simp[h]⟩
  · exact⟨-1,rfl,by simp[h]⟩
theorem X7r (l:List Int) (b:l.length<=1000000) (v:Int):WW l v=some (decide (v∈l)):=by
  rw[X2D];unfold XT;obtain⟨k,a,c⟩:=X8r l b v;simp only[a,jS,c]
theorem X8O (l:List Int) (f:l.length<=1000000) (v:Int):X3T l v=some (decide (v∈l)):=by
  rw[X5R];unfold X2R;obtain⟨w,e,d⟩:=Wv (X1u v l) l.length (fun i (_:Unit)=>(i:Int)) (fun i _=>¬v∈l.take i)
    (fun w=>(w=.inl true/\v∈l)\/(w=.inr ()/\¬v∈l))
    (fun _ b=>⟨.inr (),by simp[X1u,X1z],.inr ⟨rfl,by rwa [List.take_length]at b⟩⟩)
    (fun i _ hi b=>by
      have e1:decide ((i:Int)<(l.length:Int))=true:=by simp;omega
      have w1:=wS i (by omega)
      simp only[X1u,X1z,e1,z0S,kS,ju,jB,Xe _ _ _ hi,w1]
      by_cases he:l[i]=v
      · left
        have c:(l[i]==v)=true:=by simp[he]
        simp only[c,jB];exact⟨_,rfl,.inl ⟨rfl,he▸jl hi⟩⟩
      · right
        have c:(l[i]==v)=false:=X2O he;simp only[c,jA];refine⟨(),by first|rfl|trivial,fun h=>?_⟩
        rw[List.take_succ_eq_append_getElem hi]at h;rcases List.mem_append.1 h with h|h
        · exact b h
        · exact he (List.mem_singleton.1 h).symm) 0 () (Nat.zero_le _) (by simp)
  have a:X3y v l 0=some w:=e;rw[a];rcases d with⟨rfl,h⟩|⟨rfl,h⟩
  · simp[h]
  · simp[h]
def WF (r:CoRecord) (l:List Zr) (dev t:Int):List Int:=Wj r l dev t (r.Devices.getD dev.toNat (Zm.mk ByteArray.empty 0 0)).States.toNat
def X18 (L:List Int) (st:Int):Int:=if st∈L then(if L.length=1 then 2 else 1)else 0
def X3R (r:CoRecord) (l:List Zr) (x:Zr):Int :=
  if(X2m r l).2≠0 then(X2m r l).2 else if W6 r x.Device x.State x.At≠0 then W6 r x.Device x.State x.At else if x.At.Lo≠x.At.Hi then 2 else if Wr r l then 0 else 9
theorem X52 (r:CoRecord) (l:List Zr) (x:Zr):X3Y r l x=some (⟨r,l⟩,X3R r l x):=by
  rw[X5t];unfold X2s;rw[X4L r l];simp only[jS];unfold X3R
  by_cases q:(X2m r l).2=0
  · obtain⟨hr,b,_⟩:=X4F q
    have a:=hr.devs;have c:((X2m r l).2==0)=true:=by simp[q]
    simp only[c,jB,if_neg (fun h:(X2m r l).2≠0=>h q),X3Z r x (by omega:r.Devices.length<=1000000),jS,X40 (X6O q)]
    by_cases q1:W6 r x.Device x.State x.At=0
    · have c1:(W6 r x.Device x.State x.At != 0)=false:=by simp[q1]
      simp only[c1,jA,if_neg (fun h:W6 r x.Device x.State x.At≠0=>h q1)]
      by_cases q2:x.At.Lo=x.At.Hi
      · have c2:(x.At.Lo != x.At.Hi)=false:=by simp[q2]
        simp only[c2,jA,if_neg (fun h:x.At.Lo≠x.At.Hi=>h q2)];unfold Wr;cases(X8m r l).isEmpty<;>rfl
      · have c2:(x.At.Lo != x.At.Hi)=true:=X3V q2
        simp only[c2,jB,if_pos q2]
    · have c1:(W6 r x.Device x.State x.At != 0)=true:=X3V q1
      simp only[c1,jB,if_pos q1]
  · have c:((X2m r l).2==0)=false:=X2O q
    have c':((X2m r l).2 != 0)=true:=X3V q;simp only[c,c',jB,jA,if_pos q]
theorem X3v {r:CoRecord} {l:List Zr} (j:X6f r l) (hr:X36 r) (h:l.length<=4) {x:Zr} (i:W6 r x.Device x.State x.At=0) :
    XY ⟨r,l⟩ x=some (X18 (WF r l x.Device x.At.Lo) x.State):=by
  rw[X37];unfold W8;obtain⟨d,a,m,n⟩:=X4E i;obtain⟨S,e,_,g⟩:=X2u hr d.dev;have b:=X6a j h d.dev ⟨a,by omega⟩ e (by omega)
  have k:WF r l x.Device x.At.Lo=Wj r l x.Device x.At.Lo S:=by unfold WF;rw[e,kS]
  rw[k];have f:=X4H r l x.Device x.At.Lo S;simp only[b,jS,X7r _ (by omega:(Wj r l x.Device x.At.Lo S).length<=1000000)]
  unfold X18
  by_cases hm:x.State∈Wj r l x.Device x.At.Lo S
  · simp only[hm,decide_true,Bool.not_true,jA,if_true]
    by_cases a:(Wj r l x.Device x.At.Lo S).length=1
    · have c:(((Wj r l x.Device x.At.Lo S).length:Int)==1)=true:=by simp[a]
      simp only[c,jB,if_pos a]
    · have c:(((Wj r l x.Device x.At.Lo S).length:Int)==1)=false:=X2O (by omega)
      simp only[c,jA,if_neg a]
  · simp only[hm,decide_false,Bool.not_false,jB,if_false]
theorem X7W {r:CoRecord} {l:List Zr} {x:Zr} (h:X3R r l x=0):(X2m r l).2=0/\W6 r x.Device x.State x.At=0/\x.At.Lo=x.At.Hi/\Wr r l=true:=by
  unfold X3R at h
  by_cases q:(X2m r l).2=0
  · rw[if_neg (fun k=>k q)]at h
    by_cases q1:W6 r x.Device x.State x.At=0
    · rw[if_neg (fun k=>k q1)]at h
      by_cases q2:x.At.Lo=x.At.Hi
      · rw[if_neg (fun k=>k q2)]at h
        cases q3:Wr r l with
        | true=>exact⟨q,q1,q2,rfl⟩
        | false=>rw[q3]at h;exact absurd h (by simp)
      · rw[if_pos q2]at h;exact absurd h (by simp)
    · rw[if_pos q1]at h;exact absurd h q1
  · rw[if_pos q]at h;exact absurd h q
theorem X66 (r:CoRecord) (l:List Zr) (x:Zr):X3h r l x=some (if X3R r l x≠0 then(0,X3R r l x)else(X18 (WF r l x.Device x.At.Lo) x.State,0)):=by
  rw[X4J];unfold X1L;rw[X52];simp only[jS]
  by_cases q:X3R r l x=0
  · obtain⟨a,d,_,_⟩:=X7W q
    obtain⟨hr,b,_⟩:=X4F a;have c:(X3R r l x != 0)=false:=by simp[q]
    simp only[c,jA,if_neg (fun k:X3R r l x≠0=>k q),X3v (X6O a) hr b d,jS]
  · have c:(X3R r l x != 0)=true:=X3V q
    simp only[c,jB,if_pos q]
theorem X5L {r:CoRecord} {l:List Zr} (hr:X36 r) {dev:Int} (e:0<=dev/\dev<r.Devices.length) (t st:Int):st∈WF r l dev t↔∃ms,TrN r l ms/\X3L r ms dev t=st:=by
  obtain⟨S,f,_,_⟩:=X2u hr e;have d:∀s,Wr r (X5G l dev s t)=true↔∃ms,TrN r l ms/\X3L r ms dev t=s:=fun s=>by
    rw[X4v];constructor
    · rintro⟨ms,c,a⟩
      exact⟨ms,⟨c,fun x b=>a x (List.mem_append.2 (.inl b))⟩,(X8e c dev s t).1 (a _ (List.mem_append.2 (.inr (List.mem_singleton.2 rfl))))⟩
    · rintro⟨ms,⟨c,a⟩,g⟩
      refine⟨ms,c,fun x b=>?_⟩;rcases List.mem_append.1 b with b|b
      · exact a x b
      · rw[List.mem_singleton.1 b]
        exact(X8e c dev s t).2 g
  unfold WF Wj;rw[f,kS];constructor
  · intro h
    obtain⟨s,j,rfl⟩:=List.mem_map.1 h;exact(d _).1 (List.mem_filter.1 j).2
  · rintro⟨ms,c,a⟩
    have i:=X7Q hr ms e t f;rw[a]at i;refine List.mem_map.2 ⟨st.toNat,List.mem_filter.2 ⟨List.mem_range.2 (by omega),?_⟩,by omega⟩
    rw[show((st.toNat:Nat):Int)=st by omega]
    exact(d st).2 ⟨ms,c,a⟩
end Nore
open Go Go.Ab
namespace Nore
theorem X6R:∀(l:List Zq) (a:Int) (i:Nat),(∀k (e:k<l.length),a<=l[k].At.Hi/\∀j (g:j<=k),(l[j]'(by omega)).At.Lo<=l[k].At.Hi)->Xn a i l=(0,0)
  | [],_,_,_=>rfl
  | x::l,a,i,h=>by
    have f:=h 0 (by simp)
    have d:=f.2 0 (Nat.le_refl _);simp only[List.getElem_cons_zero]at f d;rw[X3G,if_neg (by split<;>omega)]
    refine X6R l _ (i+1) fun k e=>?_;have b:=h (k+1) (by simpa using e)
    have c:=b.2 0 (by omega)
    simp only[List.getElem_cons_succ,List.getElem_cons_zero]at b c;refine⟨by split<;>omega,fun j g=>?_⟩
    have:=b.2 (j+1) (by omega)
    simpa using this
def X1Z (r:CoRecord) (i:Nat):CoRecord:=⟨r.Devices,r.Entries.set i (Zq.mk (r.Entries.getD i (Zq.mk 0 0 (Y2.mk 0 0))).Device (r.Entries.getD i (Zq.mk 0 0 (Y2.mk 0 0))).State (Y2.mk 0 9999))⟩
def X77 (e:List Zq):List (Int×Int):=e.map fun x=>(x.Device,x.State)
theorem X70 (dev st:Int):∀(e e':List Zq) (i:Nat) (now fr:Int),X77 e=X77 e'->X5M dev st e i now fr=X5M dev st e' i now fr
  | [],[],_,_,_,_=>rfl
  | x::e,y::e',i,now,fr,h=>by
    unfold X77 at h;simp only[jr,List.cons.injEq,Prod.mk.injEq]at h;rw[X3B,X3B,h.1.1,h.1.2,X70 dev st e e' (i+1) y.State i h.2,X70 dev st e e' (i+1) now fr h.2]
  | [],_::_,_,_,_,h=>by cases h
  | _::_,[],_,_,_,h=>by cases h
theorem X6Y (dev t:Int) (ms:Nat->Int):∀(e e':List Zq) (i:Nat) (now:Int),X77 e=X77 e'->X3p dev t ms e i now=X3p dev t ms e' i now
  | [],[],_,_,_=>rfl
  | x::e,y::e',i,now,h=>by
    unfold X77 at h;simp only[jr,List.cons.injEq,Prod.mk.injEq]at h;rw[X2H,X2H,h.1.1,h.1.2,X6Y dev t ms e e' (i+1) _ h.2]
  | [],_::_,_,_,h=>by cases h
  | _::_,[],_,_,h=>by cases h
structure X4k (r s:CoRecord):Prop where
  dev:s.Devices=r.Devices
  key:X77 s.Entries=X77 r.Entries
  wide:∀i (h:i<r.Entries.length) (h':i<s.Entries.length),s.Entries[i].At.Lo<=r.Entries[i].At.Lo/\r.Entries[i].At.Hi<=s.Entries[i].At.Hi
theorem X4k.len {r s:CoRecord} (h:X4k r s):s.Entries.length=r.Entries.length:=by
  have:=congrArg List.length h.key;unfold X77 at this;simpa using this
theorem X4k.tr {r s:CoRecord} (h:X4k r s) {l:List Zr} {ms:Nat->Int} (g:TrN r l ms):TrN s l ms:=by
  have a:=h.len;have b:∀(r:CoRecord) i (hi:i<r.Entries.length),(X2J (X19 r) []).lo i=r.Entries[i].At.Lo/\(X2J (X19 r) []).hi i=r.Entries[i].At.Hi:=fun r i hi=>by
    show((r.Entries.getD i (Zq.mk 0 0 (Y2.mk 0 0))).At).Lo=_/\((r.Entries.getD i (Zq.mk 0 0 (Y2.mk 0 0))).At).Hi=_;rw[Xe _ _ _ hi];exact⟨rfl,rfl⟩
  obtain⟨⟨⟨a1,a2,_⟩,⟨b1,_,_⟩⟩,d⟩:=g;refine⟨⟨⟨fun i hi=>?_,fun i hi=>a2 i (by omega),fun p c=>by cases c⟩,⟨fun i hi=>?_,fun i hi=>a2 i (by omega),fun p c=>by cases c⟩⟩,fun x f=>?_⟩
  · have:=a1 i (by omega)
    rw[(b r i (by omega)).1]at this
    rw[(b s i hi).1];have:=(h.wide i (by omega) hi).1
    omega
  · have:=b1 i (by omega)
    rw[(b r i (by omega)).2]at this
    rw[(b s i hi).2];have:=(h.wide i (by omega) hi).2
    omega
  · obtain⟨t,ht,j⟩:=d x f
    refine⟨t,?_,by rw[a];exact j⟩
    have e:X62 s x=X62 r x:=by
      unfold X62;rw[h.dev];exact X70 _ _ _ _ _ _ _ h.key
    rw[e];exact ht
theorem X4k.state {r s:CoRecord} (h:X4k r s) (ms:Nat->Int) (dev t:Int):X3L s ms dev t=X3L r ms dev t:=by
  unfold X3L X6c;rw[h.dev];exact X6Y _ _ _ _ _ _ _ h.key
theorem X4k.states {r s:CoRecord} (h:X4k r s) (hr:X36 r) (d:X36 s) {l:List Zr} {dev:Int} (a:0<=dev/\dev<r.Devices.length) (t:Int):∀v∈WF r l dev t,v∈WF s l dev t:=fun v hv=>by
  rw[X5L hr a]at hv;rw[X5L d (by rw[h.dev];exact a)]
  obtain⟨ms,c,b⟩:=hv;exact⟨ms,h.tr c,by rw[h.state];exact b⟩
theorem X8w {r:CoRecord} (hr:X36 r) {l:List Zr} (c:Wr r l=true) {dev:Int} (a:0<=dev/\dev<r.Devices.length) (t:Int):WF r l dev t≠[]:=fun e=>by
  obtain⟨ms,b⟩:=X4v.1 c;have:=(X5L hr a t (X3L r ms dev t)).2 ⟨ms,b,rfl⟩;rw[e]at this;cases this
theorem X7q {L M:List Int} (d:∀v∈L,v∈M) (f:L≠[]) (hL:L.Pairwise (· < ·)) (st:Int) (h:X18 M st≠1):X18 L st=X18 M st:=by
  unfold X18 at h⊢
  by_cases hm:st∈M
  · rw[if_pos hm]at h⊢
    by_cases h1:M.length=1
    · rw[if_pos h1]
      obtain⟨c,hc⟩:=List.length_eq_one_iff.1 h1;rw[hc]at d hm;have e:st=c:=List.mem_singleton.1 hm;cases L with
      | nil=>exact absurd rfl f
      | cons a L =>
        have g:a=c:=List.mem_singleton.1 (d a (by simp))
        cases L with
        | nil=>rw[if_pos (by simp[e,g])];rfl
        | cons b L =>
          have i:b=c:=List.mem_singleton.1 (d b (by simp))
          have:=(List.pairwise_cons.1 hL).1 b (by simp)
          omega
    · rw[if_neg h1]at h
      exact absurd rfl h
  · rw[if_neg hm,if_neg fun k=>hm (d st k)]
theorem X7R (r:CoRecord) (l:List Zr) (dev t:Int):(WF r l dev t).Pairwise (· < ·):=X4G r l dev t _
theorem X5e (r:CoRecord) (i:Nat) (hi:i<r.Entries.length) (j:Nat) (h:j<(X1Z r i).Entries.length) (h':j<r.Entries.length):(X1Z r i).Entries[j]=if i=j then Zq.mk r.Entries[i].Device r.Entries[i].State (Y2.mk 0 9999)else r.Entries[j]:=by
  unfold X1Z;simp only[List.getElem_set,Xe _ _ _ hi]
theorem X5Y (r:CoRecord) (i:Nat):(X1Z r i).Entries.length=r.Entries.length:=by unfold X1Z;simp
theorem X80 {r:CoRecord} (hr:X36 r) (i:Nat) (hi:i<r.Entries.length):X4k r (X1Z r i) where
  dev:=rfl
  key:=by
    unfold X77;refine List.ext_getElem (by simp[X5Y]) fun j b a=>?_
    simp only[List.length_map]at b a;simp only[List.getElem_map,X5e r i hi j b a]
    by_cases e:i=j
    · subst e;simp
    · simp[e]
  wide:=fun j h h'=>by
    rw[X5e r i hi j h' h];have:=X6b hr j h
    by_cases e:i=j
    · simp only[e,if_true];omega
    · rw[if_neg e];omega
theorem X8u {r s:CoRecord} (h:s.Devices=r.Devices) (dev st:Int) (p:Y2):W6 s dev st p=W6 r dev st p:=by
  unfold W6;rw[h]
theorem X4D (r:CoRecord) (i:Nat) (dev st:Int) (p:Y2):W6 (X1Z r i) dev st p=W6 r dev st p:=X8u (r:=r) (s:=X1Z r i) rfl dev st p
theorem X7Z {r:CoRecord} (hc:(X1k r).2.2=0) (i:Nat) (hi:i<r.Entries.length):(X1k (X1Z r i)).2.2=0:=by
  have hr:=X4T hc;have b:(X2o (X1Z r i)).2=0:=by
    unfold X2o;rw[X53 _ _ 0 fun x m j=>?_];obtain⟨k,g,rfl⟩:=List.getElem_of_mem m;have a:k<r.Entries.length:=by rw[<-X5Y r i];exact g
    rw[X5e r i hi k g a,X4D]
    by_cases e:i=k
    · simp only[e,if_true]
      have hE:=hr.ent _ (jl a);have l:=(X4E (x:=⟨r.Entries[k].Device,r.Entries[k].State,r.Entries[k].At⟩) hE).1.dev;obtain⟨S,p,_,_⟩:=X2u hr l;unfold W6 at hE⊢;have w1:WP 0 9999 [0,9999]=false:=by decide
      cases q1:WP 0 ((r.Devices.length:Int)-1) [r.Entries[k].Device]with
      | true=>rw[q1]at hE;exact absurd hE (by simp)
      | false =>
        rw[q1]at hE;cases q2:WP 0 (IntKind.wrap .i64 ((r.Devices.getD r.Entries[k].Device.toNat (Zm.mk ByteArray.empty 0 0)).States-1)) [r.Entries[k].State]with
        | true=>rw[q2]at hE;exact absurd hE (by simp)
        | false=>simp[w1]
    · rw[if_neg e]
      exact hr.ent _ (jl a)
  have d:Xn 0 0 (X1Z r i).Entries=(0,0):=X6R _ 0 0 fun k g=>by
    have a:k<r.Entries.length:=by rw[<-X5Y r i];exact g
    have bk:=X6b hr k a;rw[X5e r i hi k g a];refine⟨by split<;>first|omega|(simp only;omega),fun j n=>?_⟩
    have f:j<r.Entries.length:=by omega
    have bj:=X6b hr j f;have o:=X7j hr j k n a;rw[X5e r i hi j (by omega) f]
    split<;>split<;>first|omega|(simp only;omega)
  unfold X1k at hc⊢;have h:(X1Z r i).Entries.length=r.Entries.length:=X5Y r i;have c:X3d (X1Z r i)=X3d r:=rfl;rw[show(X1Z r i).Devices=r.Devices from rfl,h,c];cases q1:WP 1 4 [(r.Devices.length:Int)]||decide ((r.Entries.length:Int)>10)with
  | true=>rw[q1]at hc;exact absurd hc (by simp)
  | false =>
    rw[q1]at hc;simp only[jg,if_false]at hc⊢
    by_cases q3:(X3d r).2=0
    · rw[if_neg (fun k=>k q3),if_neg (fun k=>k b),d]
      rfl
    · rw[if_pos q3]at hc;exact absurd hc q3
structure X8U (r:CoRecord) (l:List Zr) (i:Nat):Prop where
  rec_:X36 (X1Z r i)
  sees:X2m (X1Z r i) l=(0,0)
  wide:X4k r (X1Z r i)
theorem X8c {r:CoRecord} {l:List Zr} (h:(X2m r l).2=0) (i:Nat) (hi:i<r.Entries.length):X8U r l i:=by
  have hc:=X7Z (X84 h) i hi;obtain⟨hr,b,c⟩:=X4F h;exact⟨X4T hc,X8f hc b fun x a=>by rw[X4D];exact c x a,X80 hr i hi⟩
theorem X8z {r:CoRecord} (a:r.Entries.length<=10) (i:Nat) (hi:i<r.Entries.length):X4A r (i:Int)=some (X1Z r i):=by
  rw[X5C];unfold X2B;have b1:Nat.ble ((0+r.Entries.length)*(32+1)) 200000000000000=true:=by rw[Nat.ble_eq];omega
  have e1:decide ((i:Int)<(r.Entries.length:Int))=true:=by simp;omega
  have e2:Nat.blt i r.Entries.length=true:=by rw[Nat.blt_eq];exact hi
  simp only[b1,jB,List.nil_append,z0S,e1,ju,kS,e2];rfl
def X6Q (r:CoRecord) (l:List Zr) (x:Zr) (i:Nat):Int:=X18 (WF (X1Z r i) l x.Device x.At.Lo) x.State
def X2p (r:CoRecord) (l:List Zr) (x:Zr) (k:Nat):List Int:=((List.range k).filter fun i:Nat=>X6Q r l x i==1).map fun i:Nat=>(i:Int)
theorem X5Q (r:CoRecord) (l:List Zr) (x:Zr) (k:Nat):X2p r l x (k+1)=X2p r l x k++if X6Q r l x k==1 then [(k:Int)]else []:=by
  unfold X2p;rw[List.range_succ,List.filter_append,List.map_append];congr 1;cases h:X6Q r l x k==1<;>simp[h]
theorem X55 (r:CoRecord) (l:List Zr) (x:Zr) (k:Nat):(X2p r l x k).length<=k:=by
  unfold X2p;rw[List.length_map];exact Nat.le_trans (List.length_filter_le _ _) (by simp)
theorem X7I (r:CoRecord) (l:List Zr) (x:Zr) (k i:Nat) (hi:i<k):(i:Int)∈X2p r l x k↔X6Q r l x i=1:=by
  unfold X2p;simp only[List.mem_map,List.mem_filter,List.mem_range];constructor
  · rintro⟨j,⟨_,h⟩,e⟩
    have:j=i:=by omega
    subst this;simpa using h
  · intro h
    exact⟨i,⟨hi,by simp[h]⟩,rfl⟩
theorem X6x (r:CoRecord) (l:List Zr) (x:Zr):X49 r l x=some (if X3R r l x≠0 then([],X3R r l x)else if X18 (WF r l x.Device x.At.Lo) x.State=1 then([],4)else(X2p r l x r.Entries.length,0)):=by
  rw[X4W];unfold X2b;rw[X52];simp only[jS]
  by_cases q:X3R r l x=0
  · obtain⟨e,h,_,_⟩:=X7W q
    obtain⟨hr,g,_⟩:=X4F e;have c:(X3R r l x != 0)=false:=by simp[q]
    simp only[c,jA,if_neg (fun k:X3R r l x≠0=>k q),X3v (X6O e) hr g h,jS]
    by_cases q2:X18 (WF r l x.Device x.At.Lo) x.State=1
    · have c2:(X18 (WF r l x.Device x.At.Lo) x.State==1)=true:=by simp[q2]
      simp only[c2,jB,if_pos q2]
    · have c2:(X18 (WF r l x.Device x.At.Lo) x.State==1)=false:=X2O q2
      simp only[c2,jA,if_neg q2];obtain⟨w,g1,g2⟩:=Wv (WQ l (r.Entries.length:Int) x r) r.Entries.length (fun i (b:List Int)=>((i:Int),b)) (fun i b=>b=X2p r l x i) (fun w=>w=X2p r l x r.Entries.length)
        (fun b a=>⟨b,by simp[WQ,X10],a⟩)
        (fun i b hi a=>by
          right;have m:=hr.many;have f:=X8c e i hi;have e1:decide ((i:Int)<(r.Entries.length:Int))=true:=by simp;omega
          have e2:Nat.blt i r.Entries.length=true:=by rw[Nat.blt_eq];exact hi
          have b1:Nat.ble (r.Entries.length*(32+1)) 100000000000000=true:=by rw[Nat.ble_eq];omega
          have b2:Nat.blt 0 4=true:=rfl;have j:b.length<=i:=by rw[a];exact X55 r l x i
          have b3:Nat.ble ((b.length+1)*(8+1)) 200000000000000=true:=by rw[Nat.ble_eq];omega
          have w1:=wS i (by omega)
          have d:XY ⟨⟨r.Devices,r.Entries.set i (Zq.mk (r.Entries.getD i (Zq.mk 0 0 (Y2.mk 0 0))).Device (r.Entries.getD i (Zq.mk 0 0 (Y2.mk 0 0))).State (Y2.mk 0 9999))⟩,l⟩ x=some (X6Q r l x i) :=
            X3v (r:=X1Z r i) (X6O (by rw[f.sees])) f.rec_ g (by rw[X4D];exact h)
          simp only[WQ,X10,e1,e2,b1,b2,z0S,kS,ju,jB,d,jS,w1,List.length_singleton,b3];cases ha:X6Q r l x i==1 with
          | true=>exact⟨_,rfl,by rw[a,X5Q,ha];rfl⟩
          | false=>exact⟨b,rfl,by rw[a,X5Q,ha];simp⟩) 0 [] (Nat.zero_le _) rfl
      have g1':X2W l (r.Entries.length:Int) x r (0,[])=some w:=g1;rw[g1',g2];rfl
  · have c:(X3R r l x != 0)=true:=X3V q
    simp only[c,jB,if_pos q]
theorem X6t (r:CoRecord) (t:Z7) (o:Int) (u:0<=o/\o<256):X1R r t o=some true:=by
  obtain⟨l,x⟩:=t;rw[X3O];unfold WL;simp only[X66,X6x,jS];have b0:((0:Int) != 0)=false:=rfl;have b1:((0:Int)==0)=true:=rfl
  by_cases q:X3R r l x=0
  · obtain⟨s,n,v,p⟩:=X7W q
    obtain⟨hr,z,_⟩:=X4F s;have m:=(X4E n).1.dev;simp only[if_neg (fun k:X3R r l x≠0=>k q),b0,jA]
    by_cases q2:X18 (WF r l x.Device x.At.Lo) x.State=1
    · have c2:(X18 (WF r l x.Device x.At.Lo) x.State==1)=true:=by simp[q2]
      simp only[if_pos q2,c2,jB];rfl
    · have c2:(X18 (WF r l x.Device x.At.Lo) x.State==1)=false:=X2O q2
      simp only[if_neg q2,c2,jA,b0]
      by_cases hz:r.Entries.length=0
      · have c3:((r.Entries.length:Int)==0)=true:=by simp[hz]
        have hh:X2p r l x r.Entries.length=[]:=List.eq_nil_of_length_eq_zero (by have:=X55 r l x r.Entries.length;omega)
        simp only[c3,jB,hh];rfl
      · have c3:((r.Entries.length:Int)==0)=false:=X2O (by omega)
        have wo:IntKind.wrap .i64 o=o:=by rw[w64]<;>omega
        have w:=hr.many;have g:=X4j o (r.Entries.length:Int) u.1 (by omega)
        simp only[c3,jA,wo];obtain⟨i,hi⟩:=Int.eq_ofNat_of_zero_le g.1;rw[hi]at g⊢;have d:i<r.Entries.length:=by omega
        have a:=X8c s i d;have h:Wr (X1Z r i) l=true:=by
          obtain⟨ms,y⟩:=X4v.1 p;exact X4v.2 ⟨ms,a.wide.tr y⟩
        have f:X3R (X1Z r i) l x=0:=by
          unfold X3R;rw[a.sees,X4D,n,h];simp[v]
        have b:=X7I r l x r.Entries.length i d;simp only[X8z w i d,jS,if_neg (fun k:X3R (X1Z r i) l x≠0=>k f),b1,jB,X8O _ (by have:=X55 r l x r.Entries.length;omega:(X2p r l x r.Entries.length).length<=1000000)]
        by_cases ha:X6Q r l x i=1
        · have e:decide ((i:Int)∈X2p r l x r.Entries.length)=true:=by simp[b,ha]
          have c4:(X18 (WF (X1Z r i) l x.Device x.At.Lo) x.State==1)=true:=by
            have:X18 (WF (X1Z r i) l x.Device x.At.Lo) x.State=1:=ha;simp[this]
          simp only[e,c4,jB]
        · have e:decide ((i:Int)∈X2p r l x r.Entries.length)=false:=by simp[b,ha]
          have j:=X7q (a.wide.states hr a.rec_ m x.At.Lo) (X8w hr p m x.At.Lo) (X7R r l x.Device x.At.Lo) x.State ha;have c4:(X18 (WF (X1Z r i) l x.Device x.At.Lo) x.State==X18 (WF r l x.Device x.At.Lo) x.State)=true:=by simp[j]
          simp only[e,jA,Bool.not_false,jB,c4]
  · have c:(X3R r l x != 0)=true:=X3V q
    have c2:(X3R r l x==X3R r l x)=true:=by simp
    simp only[if_pos q,c,c2,jB];rfl
theorem X6u (r:CoRecord) (t:Z7) (o:Int) (a:(Lit.int .u8 o).wf=true):X1R r t o=some true:=by
  refine X6t r t o ?_;simp[Lit.wf,IntKind.has,IntKind.min,IntKind.max,IntKind.signed,IntKind.bits]at a;omega
end Nore
