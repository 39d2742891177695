/- The plain functions of the program and of the document answer alike. -/
import Derived.Test.YtlgmncmjacjgmaaGreatDoorY
import Derived.Test.YtlgmncmjacjgmaaGreatDoorD
set_option linter.unusedSectionVars false
set_option linter.unusedVariables false
set_option linter.unusedSimpArgs false
open Go Go.Ab
namespace Nore
theorem w64 {x:Int} (a : -9223372036854775808<=x) (b:x<=9223372036854775807):IntKind.wrap .i64 x=x:=by
  simp only[IntKind.wrap,IntKind.signed,IntKind.bits];simp;omega
theorem jS {α β:Type} (a:α) (f:α->Option β):Option.bind (some a) f=f a:=rfl
theorem kS (n:Nat):Int.toNat (n:Int)=n:=rfl
theorem wS (i:Nat) (h:i<9223372036854775807):IntKind.wrap .i64 ((i:Int)+1)=((i+1:Nat):Int):=by rw[w64]<;>omega
theorem z0S (i:Nat):decide ((0:Int)<=↑i)=true:=by simp
theorem X8r {σ ω γ:Type} (st:σ->Option (σ⊕ω)) (k:ω->Option γ) (s:σ):Option.bind (Z8I st s) k=Option.bind (st s) (Sum.elim (fun s'=>Option.bind (Z8I st s') k) k):=by
  rw[ZjJ];cases st s with
  | none=>rfl
  | some r=>cases r<;>rfl
theorem X1R {β σ ω γ:Type} (st:σ->Option (σ⊕ω)) (k:ω->Option γ) (n:Nat) (emb:Nat->β->σ) (P:Nat->β->Prop) (nice:Nat->β->Option γ)
    (d:∀b,P n b->∀R:σ->Option γ,Option.bind (st (emb n b)) (Sum.elim R k)=nice n b)
    (e:∀i b,i<n->P i b->∀R:σ->Option γ,(∀b',P (i+1) b'->R (emb (i+1) b')=nice (i+1) b')->Option.bind (st (emb i b)) (Sum.elim R k)=nice i b) :
    ∀i b,i<=n->P i b->Option.bind (Z8I st (emb i b)) k=nice i b:=by
  intro i b hi c
  induction hj:n-i generalizing i b with
  | zero =>
    have:i=n:=by omega
    subst this;rw[X8r];exact d b c _
  | succ j ih =>
    rw[X8r];exact e i b (by omega) c _ fun b' a=>ih (i+1) b' (by omega) a (by omega)
theorem X4j {a b:Int} (h:¬a=b):(a==b)=false:=beq_eq_false_iff_ne.2 h
theorem X4n {a b:Int} (h:¬a=b):(a != b)=true:=bne_iff_ne.2 h
theorem XP {α:Type} (l:List α) (i:Nat) (d:α) (h:i<l.length):l.getD i d=l[i]:=by simp[List.getD,h]
theorem X28 {β σ ω:Type} (st:σ->Option (σ⊕ω)) (n:Nat) (emb:Nat->β->σ) (P:Nat->β->Prop) (Q:ω->Prop)
    (e:∀b,P n b->∃w,st (emb n b)=some (.inr w)/\Q w)
    (g:∀i b,i<n->P i b->(∃w,st (emb i b)=some (.inr w)/\Q w)\/∃b',st (emb i b)=some (.inl (emb (i+1) b'))/\P (i+1) b') :
    ∀i b,i<=n->P i b->∃w,Z8I st (emb i b)=some w/\Q w:=by
  intro i b hi d
  induction hj:n-i generalizing i b with
  | zero =>
    have:i=n:=by omega
    subst this;obtain⟨w,c,a⟩:=e b d;exact⟨w,by rw[ZjJ,c];rfl,a⟩
  | succ j ih =>
    rcases g i b (by omega) d with⟨w,c,a⟩|⟨b',c,a⟩
    · exact⟨w,by rw[ZjJ,c];rfl,a⟩
    · obtain⟨w,f,h⟩:=ih (i+1) b' (by omega) a (by omega)
      exact⟨w,by rw[ZjJ,c];exact f,h⟩
end Nore
namespace Nore
structure Con where
  lo:Nat->Int
  hi:Nat->Int
  ap:List (Nat×Nat)
def X7U (n:Nat) (x:Nat->Int):Prop:=∀i,i+1<n->x i<=x (i+1)
def ApN (ap:List (Nat×Nat)) (x:Nat->Int):Prop:=∀p∈ap,x p.1+1<=x p.2
def UpN (n:Nat) (c:Con) (x:Nat->Int):Prop:=(∀i,i<n->c.lo i<=x i)/\X7U n x/\ApN c.ap x
def DnN (n:Nat) (c:Con) (x:Nat->Int):Prop:=(∀i,i<n->x i<=c.hi i)/\X7U n x/\ApN c.ap x
def Sol (n:Nat) (c:Con) (x:Nat->Int):Prop:=UpN n c x/\DnN n c x
structure X6L (n:Nat) (c:Con) (L:Nat->Int):Prop where
  up:UpN n c L
  least:∀x,UpN n c x->∀i,i<n->L i<=x i
structure X6K (n:Nat) (c:Con) (H:Nat->Int):Prop where
  dn:DnN n c H
  great:∀x,DnN n c x->∀i,i<n->x i<=H i
def X73 (n:Nat) (ap:List (Nat×Nat)):Prop:=∀p∈ap,p.1<p.2/\p.2<n
theorem X9b {n:Nat} {c c':Con} {L L':Nat->Int} (h:X6L n c L) (h':X6L n c' L') (e:∀x,UpN n c x↔UpN n c' x):∀i,i<n->L i=L' i:=fun i hi =>
  Int.le_antisymm (h.least _ ((e _).2 h'.up) i hi) (h'.least _ ((e _).1 h.up) i hi)
theorem X9a {n:Nat} {c c':Con} {H H':Nat->Int} (h:X6K n c H) (h':X6K n c' H') (e:∀x,DnN n c x↔DnN n c' x):∀i,i<n->H i=H' i:=fun i hi =>
  Int.le_antisymm (h'.great _ ((e _).1 h.dn) i hi) (h.great _ ((e _).2 h'.dn) i hi)
theorem X83 {n:Nat} {c:Con} {L H:Nat->Int} (hL:X6L n c L) (a:X6K n c H) (h:∀i,i<n->L i<=H i):Sol n c L :=
  ⟨hL.up,fun i hi=>Int.le_trans (h i hi) (a.dn.1 i hi),hL.up.2.1,hL.up.2.2⟩
theorem X96 {n:Nat} {c:Con} {L H:Nat->Int} (hL:X6L n c L) (a:X6K n c H) (h:∀i,i<n->L i<=H i):Sol n c H :=
  ⟨⟨fun i hi=>Int.le_trans (hL.up.1 i hi) (h i hi),a.dn.2.1,a.dn.2.2⟩,a.dn⟩
theorem X8X {n:Nat} {c:Con} {L H:Nat->Int} (hL:X6L n c L) (a:X6K n c H):(∃x,Sol n c x)↔∀i,i<n->L i<=H i :=
  ⟨fun⟨x,h1,h2⟩ i hi=>Int.le_trans (hL.least x h1 i hi) (a.great x h2 i hi),fun h=>⟨L,X83 hL a h⟩⟩
def X6y (L:Nat->Int):List (Nat×Nat)->Nat->Int->Int
  | [],_,a=>a
  | p::ps,i,a=>X6y L ps i (if p.2=i then(if L p.1+1>a then L p.1+1 else a)else a)
def up1 (ap:List (Nat×Nat)) (L:Nat->Int) (i:Nat):Int:=X6y L ap i (if 0<i then(if L (i-1)>L i then L (i-1)else L i)else L i)
def WQ (ap:List (Nat×Nat)):Nat->(Nat->Int)->Nat->Int
  | 0,L=>L
  | k+1,L=>fun j=>if j=k then up1 ap (WQ ap k L) k else WQ ap k L j
theorem X89 (L:Nat->Int) (i:Nat):∀(ap:List (Nat×Nat)) (a:Int),a<=X6y L ap i a/\∀p∈ap,p.2=i->L p.1+1<=X6y L ap i a
  | [],a=>⟨Int.le_refl _,by simp⟩
  | p::ps,a=>by
    unfold X6y;have b:a<=(if p.2=i then(if L p.1+1>a then L p.1+1 else a)else a)/\(p.2=i->L p.1+1<=(if p.2=i then(if L p.1+1>a then L p.1+1 else a)else a)):=by
      by_cases e:p.2=i
      · by_cases e2:L p.1+1>a
        · simp only[e,e2,if_true];exact⟨by omega,fun _=>Int.le_refl _⟩
        · simp only[e,e2,if_true,if_false];exact⟨Int.le_refl _,fun _=>by omega⟩
      · simp only[e,if_false];exact⟨Int.le_refl _,fun h=>h.elim⟩
    generalize (if p.2=i then(if L p.1+1>a then L p.1+1 else a)else a)=a' at b⊢;obtain⟨d,f⟩:=X89 L i ps a';refine⟨Int.le_trans b.1 d,fun q c e=>?_⟩;rcases jv.1 c with rfl|c
    · exact Int.le_trans (b.2 e) d
    · exact f q c e
theorem X8a (L:Nat->Int) (i:Nat) (b:Int):∀(ap:List (Nat×Nat)) (a:Int),a<=b->(∀p∈ap,p.2=i->L p.1+1<=b)->X6y L ap i a<=b
  | [],_,h,_=>h
  | p::ps,a,h,hp=>by
    unfold X6y;refine X8a L i b ps _ ?_ fun q c=>hp q (by simp[c])
    have:=hp p (by simp)
    split
    · rename_i e
      have:=this e;split<;>omega
    · exact h
theorem X91 (ap:List (Nat×Nat)) (L:Nat->Int):∀(k j:Nat),k<=j->WQ ap k L j=L j
  | 0,_,_=>rfl
  | k+1,j,h=>by
    unfold WQ;rw[if_neg (by omega)]
    exact X91 ap L k j (by omega)
theorem X3w {n:Nat} {c:Con} (g:X73 n c.ap):X6L n c (WQ c.ap n c.lo):=by
  have main:∀k,k<=n->(∀i,i<k->c.lo i<=WQ c.ap k c.lo i)/\(∀i,i+1<k->WQ c.ap k c.lo i<=WQ c.ap k c.lo (i+1))/\(∀p∈c.ap,p.2<k->WQ c.ap k c.lo p.1+1<=WQ c.ap k c.lo p.2) ∧
      ∀x,UpN n c x->∀i,i<k->WQ c.ap k c.lo i<=x i:=by
    intro k
    induction k with
    | zero=>intro _;exact⟨fun i h=>by omega,fun i h=>by omega,fun p _ h=>by omega,fun x _ i h=>by omega⟩
    | succ k ih =>
      intro w;obtain⟨r,o,q,m⟩:=ih (by omega)
      have a:∀j,j≠k->WQ c.ap (k+1) c.lo j=WQ c.ap k c.lo j:=fun j v=>by show(if j=k then _ else _)=_;rw[if_neg v]
      have b:WQ c.ap (k+1) c.lo k=up1 c.ap (WQ c.ap k c.lo) k:=by show(if k=k then _ else _)=_;rw[if_pos rfl]
      have f:WQ c.ap k c.lo k=c.lo k:=X91 _ _ _ _ (Nat.le_refl _);obtain⟨g1,g2⟩:=X89 (WQ c.ap k c.lo) k c.ap (if 0<k then(if WQ c.ap k c.lo (k-1)>WQ c.ap k c.lo k then WQ c.ap k c.lo (k-1)else WQ c.ap k c.lo k)else WQ c.ap k c.lo k);have g0:WQ c.ap k c.lo k<=(if 0<k then(if WQ c.ap k c.lo (k-1)>WQ c.ap k c.lo k then WQ c.ap k c.lo (k-1)else WQ c.ap k c.lo k)else WQ c.ap k c.lo k):=by
        split
        · split<;>omega
        · exact Int.le_refl _
      refine⟨fun i hi=>?_,fun i hi=>?_,fun p d hi=>?_,fun x l i hi=>?_⟩
      · by_cases e:i=k
        · subst e;rw[b,<-f];exact Int.le_trans g0 g1
        · rw[a i e];exact r i (by omega)
      · by_cases e:i+1=k
        · subst e
          rw[b,a i (by omega)]
          refine Int.le_trans ?_ g1;rw[if_pos (by omega),Nat.add_sub_cancel]
          split<;>omega
        · rw[a i (by omega),a (i+1) e];exact o i (by omega)
      · have:=g p d
        by_cases e:p.2=k
        · rw[e,b,a p.1 (by omega)];exact g2 p d e
        · rw[a p.1 (by omega),a p.2 e];exact q p d (by omega)
      · by_cases e:i=k
        · subst e
          rw[b];refine X8a _ _ _ _ _ ?_ fun p d e=>?_
          · have s:=l.1 i (by omega)
            rw[f];split
            · have:=m x l (i-1) (by omega)
              have t:=l.2.1 (i-1) (by omega)
              rw[Nat.sub_add_cancel (by omega)]at t
              split<;>omega
            · exact s
          · have y:=g p d
            have:=m x l p.1 (by omega)
            have u:=l.2.2 p d;rw[e]at u;omega
        · rw[a i e];exact m x l i (by omega)
  obtain⟨r,o,q,m⟩:=main n (Nat.le_refl _);exact⟨⟨r,o,fun p d=>q p d (g p d).2⟩,m⟩
def X6z (H:Nat->Int):List (Nat×Nat)->Nat->Int->Int
  | [],_,a=>a
  | p::ps,i,a=>X6z H ps i (if p.1=i then(if H p.2-1<a then H p.2-1 else a)else a)
def dn1 (n:Nat) (ap:List (Nat×Nat)) (H:Nat->Int) (i:Nat):Int:=X6z H ap i (if i+1<n then(if H (i+1)<H i then H (i+1)else H i)else H i)
def WO (n:Nat) (ap:List (Nat×Nat)):Nat->(Nat->Int)->Nat->Int
  | 0,H=>H
  | k+1,H=>fun j=>if j=n-1-k then dn1 n ap (WO n ap k H) (n-1-k)else WO n ap k H j
theorem X8c (H:Nat->Int) (i:Nat):∀(ap:List (Nat×Nat)) (a:Int),X6z H ap i a<=a/\∀p∈ap,p.1=i->X6z H ap i a<=H p.2-1
  | [],a=>⟨Int.le_refl _,by simp⟩
  | p::ps,a=>by
    unfold X6z;have b:(if p.1=i then(if H p.2-1<a then H p.2-1 else a)else a)<=a/\(p.1=i->(if p.1=i then(if H p.2-1<a then H p.2-1 else a)else a)<=H p.2-1):=by
      by_cases e:p.1=i
      · by_cases e2:H p.2-1<a
        · simp only[e,e2,if_true];exact⟨by omega,fun _=>Int.le_refl _⟩
        · simp only[e,e2,if_true,if_false];exact⟨Int.le_refl _,fun _=>by omega⟩
      · simp only[e,if_false];exact⟨Int.le_refl _,fun h=>h.elim⟩
    generalize (if p.1=i then(if H p.2-1<a then H p.2-1 else a)else a)=a' at b⊢;obtain⟨d,f⟩:=X8c H i ps a';refine⟨Int.le_trans d b.1,fun q c e=>?_⟩;rcases jv.1 c with rfl|c
    · exact Int.le_trans d (b.2 e)
    · exact f q c e
theorem X8b (H:Nat->Int) (i:Nat) (b:Int):∀(ap:List (Nat×Nat)) (a:Int),b<=a->(∀p∈ap,p.1=i->b<=H p.2-1)->b<=X6z H ap i a
  | [],_,h,_=>h
  | p::ps,a,h,hp=>by
    unfold X6z;refine X8b H i b ps _ ?_ fun q c=>hp q (by simp[c])
    have:=hp p (by simp)
    split
    · rename_i e
      have:=this e;split<;>omega
    · exact h
theorem X8S (n:Nat) (ap:List (Nat×Nat)) (H:Nat->Int):∀(k j:Nat),k<=n->j+k<n->WO n ap k H j=H j
  | 0,_,_,_=>rfl
  | k+1,j,hk,h=>by
    unfold WO;rw[if_neg (by omega)]
    exact X8S n ap H k j (by omega) (by omega)
theorem X3q {n:Nat} {c:Con} (l:X73 n c.ap):X6K n c (WO n c.ap n c.hi):=by
  have main:∀k,k<=n->(∀i,i<n->n<=i+k->WO n c.ap k c.hi i<=c.hi i)/\(∀i,i+1<n->n<=i+k->WO n c.ap k c.hi i<=WO n c.ap k c.hi (i+1))/\(∀p∈c.ap,n<=p.1+k->WO n c.ap k c.hi p.1+1<=WO n c.ap k c.hi p.2) ∧
      ∀x,DnN n c x->∀i,i<n->n<=i+k->x i<=WO n c.ap k c.hi i:=by
    intro k
    induction k with
    | zero=>intro _;exact⟨fun i h h'=>by omega,fun i h h'=>by omega,fun p d h=>by have:=l p d;omega,fun x _ i h h'=>by omega⟩
    | succ k ih =>
      intro y;obtain⟨t,r,s,o⟩:=ih (by omega)
      have a:∀j,j≠n-1-k->WO n c.ap (k+1) c.hi j=WO n c.ap k c.hi j:=fun j v=>by show(if j=n-1-k then _ else _)=_;rw[if_neg v]
      have b:WO n c.ap (k+1) c.hi (n-1-k)=dn1 n c.ap (WO n c.ap k c.hi) (n-1-k):=by show(if n-1-k=n-1-k then _ else _)=_;rw[if_pos rfl]
      have f:WO n c.ap k c.hi (n-1-k)=c.hi (n-1-k):=X8S _ _ _ _ _ (by omega) (by omega)
      obtain⟨g1,g2⟩:=X8c (WO n c.ap k c.hi) (n-1-k) c.ap (if n-1-k+1<n then(if WO n c.ap k c.hi (n-1-k+1)<WO n c.ap k c.hi (n-1-k)then WO n c.ap k c.hi (n-1-k+1)else WO n c.ap k c.hi (n-1-k))else WO n c.ap k c.hi (n-1-k));have g0:(if n-1-k+1<n then(if WO n c.ap k c.hi (n-1-k+1)<WO n c.ap k c.hi (n-1-k)then WO n c.ap k c.hi (n-1-k+1)else WO n c.ap k c.hi (n-1-k))else WO n c.ap k c.hi (n-1-k))<=WO n c.ap k c.hi (n-1-k):=by
        split
        · split<;>omega
        · exact Int.le_refl _
      refine⟨fun i hi m=>?_,fun i hi m=>?_,fun p d hi=>?_,fun x g i hi m=>?_⟩
      · by_cases e:i=n-1-k
        · rw[e,b,<-f];exact Int.le_trans g1 g0
        · rw[a i e];exact t i hi (by omega)
      · by_cases e:i=n-1-k
        · rw[e,b,a (n-1-k+1) (by omega)]
          refine Int.le_trans g1 ?_;rw[if_pos (by omega)]
          split<;>omega
        · rw[a i e,a (i+1) (by omega)];exact r i hi (by omega)
      · have:=l p d
        by_cases e:p.1=n-1-k
        · have:=g2 p d e
          rw[e,b,a p.2 (by omega)]
          unfold dn1;omega
        · rw[a p.1 e,a p.2 (by omega)];exact s p d (by omega)
      · by_cases e:i=n-1-k
        · rw[e,b]
          refine X8b _ _ _ _ _ ?_ fun p d e'=>?_
          · have q:=g.1 i hi
            rw[e]at q;rw[f];split
            · have:=o x g (n-1-k+1) (by omega) (by omega)
              have w:=g.2.1 (n-1-k) (by omega)
              split<;>omega
            · exact q
          · have z:=l p d
            have:=o x g p.2 (by omega) (by omega)
            have u:=g.2.2 p d;rw[e']at u;omega
        · rw[a i e];exact o x g i hi (by omega)
  obtain⟨t,r,s,o⟩:=main n (Nat.le_refl _);exact⟨⟨fun i hi=>t i hi (by omega),fun i hi=>r i hi (by omega),fun p d=>s p d (by omega)⟩,fun x g i hi=>o x g i hi (by omega)⟩
def X5b (n:Nat) (c:Con):Nat->Int:=WQ c.ap n c.lo
def X5a (n:Nat) (c:Con):Nat->Int:=WO n c.ap n c.hi
def okN (n:Nat) (c:Con):Bool:=(List.range n).all fun i=>decide (X5b n c i<=X5a n c i)
theorem X6B {n:Nat} {c:Con}:okN n c=true↔∀i,i<n->X5b n c i<=X5a n c i:=by
  unfold okN;rw[List.all_eq_true];exact⟨fun h i hi=>by simpa using h i (List.mem_range.2 hi),fun h i hi=>by simpa using h i (List.mem_range.1 hi)⟩
abbrev Str:=Int×Nat
def X2c (n:Nat) (c:Con) (s:Str) (a b:Int):Con where
  hi:=fun i=>if 0<=s.1/\i=s.1.toNat then(if b<c.hi i then b else c.hi i)else c.hi i
  lo:=fun i=>if s.2<n/\i=s.2 then(if a+1>c.lo i then a+1 else c.lo i)else c.lo i
  ap:=if 0<=s.1/\s.2<n then c.ap++[(s.1.toNat,s.2)]else c.ap
def X6U (n:Nat) (s:Str):Prop:=s.1<s.2/\s.2<=n /\ -1<=s.1
theorem X8U {n:Nat} {c:Con} (h:X73 n c.ap) {s:Str} (e:X6U n s) (a b:Int):X73 n (X2c n c s a b).ap:=by
  unfold X2c;simp only;split
  · rename_i hc
    intro p d;rcases List.mem_append.1 d with d|d
    · exact h p d
    · simp only[List.mem_singleton]at d
      subst d;unfold X6U at e;simp only;omega
  · exact h
def X7V (n:Nat) (x:Nat->Int) (s:Str) (a b:Int):Prop:=(0<=s.1->x s.1.toNat<=b)/\(s.2<n->a+1<=x s.2)/\(0<=s.1->s.2<n->x s.1.toNat+1<=x s.2)
theorem X71 {n:Nat} {c:Con} {s:Str} {a b:Int} {x:Nat->Int}:ApN (X2c n c s a b).ap x↔ApN c.ap x/\(0<=s.1->s.2<n->x s.1.toNat+1<=x s.2):=by
  unfold X2c ApN;simp only;split
  · rename_i hc
    constructor
    · intro h
      exact⟨fun p d=>h p (List.mem_append.2 (.inl d)),fun _ _=>h (s.1.toNat,s.2) (List.mem_append.2 (.inr (by simp)))⟩
    · rintro⟨f,e⟩ p d
      rcases List.mem_append.1 d with d|d
      · exact f p d
      · simp only[List.mem_singleton]at d
        subst d;exact e hc.1 hc.2
  · rename_i hc
    exact⟨fun h=>⟨h,fun f e=>absurd ⟨f,e⟩ hc⟩,fun h=>h.1⟩
theorem X9l {n:Nat} {c:Con} {s:Str} {a b:Int} {x:Nat->Int}:UpN n (X2c n c s a b) x↔UpN n c x/\(s.2<n->a+1<=x s.2)/\(0<=s.1->s.2<n->x s.1.toNat+1<=x s.2):=by
  unfold UpN;rw[X71];have e:(∀i,i<n->(X2c n c s a b).lo i<=x i)↔(∀i,i<n->c.lo i<=x i)/\(s.2<n->a+1<=x s.2):=by
    unfold X2c;simp only;constructor
    · intro h
      refine⟨fun i hi=>?_,fun l=>?_⟩
      · have:=h i hi
        split at this
        · split at this<;>omega
        · exact this
      · have:=h s.2 l
        rw[if_pos ⟨l,rfl⟩]at this;split at this<;>omega
    · rintro⟨f,d⟩ i hi
      have:=f i hi;split
      · rename_i hc
        have g:=d hc.1;rw[<-hc.2]at g;split<;>omega
      · exact this
  rw[e];constructor
  · rintro⟨⟨f,d⟩,g,j,k⟩;exact⟨⟨f,g,j⟩,d,k⟩
  · rintro⟨⟨f,g,j⟩,d,k⟩;exact⟨⟨f,d⟩,g,j,k⟩
theorem X9k {n:Nat} {c:Con} {s:Str} (m:X6U n s) {a b:Int} {x:Nat->Int}:DnN n (X2c n c s a b) x↔DnN n c x/\(0<=s.1->x s.1.toNat<=b)/\(0<=s.1->s.2<n->x s.1.toNat+1<=x s.2):=by
  unfold DnN;rw[X71];have e:(∀i,i<n->x i<=(X2c n c s a b).hi i)↔(∀i,i<n->x i<=c.hi i)/\(0<=s.1->x s.1.toNat<=b):=by
    unfold X2c;unfold X6U at m;simp only;constructor
    · intro h
      refine⟨fun i hi=>?_,fun l=>?_⟩
      · have:=h i hi
        split at this
        · split at this<;>omega
        · exact this
      · have:=h s.1.toNat (by omega)
        rw[if_pos ⟨l,rfl⟩]at this;split at this<;>omega
    · rintro⟨g,d⟩ i hi
      have:=g i hi;split
      · rename_i hc
        have f:=d hc.1;rw[<-hc.2]at f;split<;>omega
      · exact this
  rw[e];constructor
  · rintro⟨⟨g,d⟩,f,j,k⟩;exact⟨⟨g,f,j⟩,d,k⟩
  · rintro⟨⟨g,f,j⟩,d,k⟩;exact⟨⟨g,d⟩,f,j,k⟩
theorem X8s {n:Nat} {c:Con} {s:Str} (i:X6U n s) {a b:Int} {x:Nat->Int}:Sol n (X2c n c s a b) x↔Sol n c x/\X7V n x s a b:=by
  unfold Sol X7V;rw[X9l,X9k i];constructor
  · rintro⟨⟨g,e,d⟩,f,h,_⟩;exact⟨⟨g,f⟩,h,e,d⟩
  · rintro⟨⟨g,f⟩,h,e,d⟩;exact⟨⟨g,e,d⟩,f,h,d⟩
def EqC (n:Nat) (c c':Con):Prop:=(∀x,UpN n c x↔UpN n c' x)/\∀x,DnN n c x↔DnN n c' x
theorem EqC.lo {n:Nat} {c c':Con} (h:EqC n c c') (a:X73 n c.ap) (b:X73 n c'.ap) (i:Nat) (hi:i<n):X5b n c i=X5b n c' i:=X9b (X3w a) (X3w b) h.1 i hi
theorem EqC.hi {n:Nat} {c c':Con} (h:EqC n c c') (a:X73 n c.ap) (b:X73 n c'.ap) (i:Nat) (hi:i<n):X5a n c i=X5a n c' i:=X9a (X3q a) (X3q b) h.2 i hi
def X8d (n:Nat) (c:Con):Con:=⟨X5b n c,X5a n c,c.ap⟩
structure Wit where
  strs:List Str
  a:Int
  b:Int
def X8N (n:Nat) (w:Wit):Prop:=∀s∈w.strs,X6U n s
def X9 (n:Nat):List Wit->Con->List Con
  | [],c=>if okN n c then [X8d n c]else []
  | w::ws,c=>if okN n c then w.strs.flatMap fun s=>X9 n ws (X2c n c s w.a w.b)else []
def X98 (n:Nat) (c:Con) (ws:List Wit) (x:Nat->Int):Prop:=Sol n c x/\∀w∈ws,∃s∈w.strs,X7V n x s w.a w.b
theorem X59 {n:Nat}:∀(ws:List Wit) (c:Con),(∀w∈ws,X8N n w)->X73 n c.ap->∀d∈X9 n ws c,X98 n c ws d.lo/\X98 n c ws d.hi/\∀i,i<n->d.lo i<=d.hi i
  | [],c,_,h1,d,a=>by
    unfold X9 at a;split at a
    · rename_i g
      simp only[List.mem_singleton]at a;subst a;have b:=X6B.1 g;exact⟨⟨X83 (X3w h1) (X3q h1) b,by simp⟩,⟨X96 (X3w h1) (X3q h1) b,by simp⟩,b⟩
    · cases a
  | w::ws,c,hw,h1,d,a=>by
    unfold X9 at a;split at a
    · obtain⟨s,f,a⟩:=List.mem_flatMap.1 a
      have e:=hw w (by simp) s f
      obtain⟨⟨k1,k2⟩,⟨k3,k4⟩,k5⟩:=X59 ws _ (fun v hv=>hw v (by simp[hv])) (X8U h1 e _ _) d a
      rw[X8s e]at k1 k3;refine⟨⟨k1.1,fun v hv=>?_⟩,⟨k3.1,fun v hv=>?_⟩,k5⟩
      · rcases jv.1 hv with rfl|hv
        · exact⟨s,f,k1.2⟩
        · exact k2 v hv
      · rcases jv.1 hv with rfl|hv
        · exact⟨s,f,k3.2⟩
        · exact k4 v hv
    · cases a
theorem X5H {n:Nat}:∀(ws:List Wit) (c:Con),(∀w∈ws,X8N n w)->X73 n c.ap->∀x,X98 n c ws x->∃d∈X9 n ws c,∀i,i<n->d.lo i<=x i/\x i<=d.hi i
  | [],c,_,h1,x,hx=>by
    have g:okN n c=true:=X6B.2 ((X8X (X3w h1) (X3q h1)).1 ⟨x,hx.1⟩);unfold X9;rw[if_pos g];exact⟨X8d n c,List.mem_singleton.2 rfl,fun i hi=>⟨(X3w h1).least x hx.1.1 i hi,(X3q h1).great x hx.1.2 i hi⟩⟩
  | w::ws,c,hw,h1,x,hx=>by
    have g:okN n c=true:=X6B.2 ((X8X (X3w h1) (X3q h1)).1 ⟨x,hx.1⟩);unfold X9;rw[if_pos g];obtain⟨s,j,e⟩:=hx.2 w (by simp)
    have f:=hw w (by simp) s j
    obtain⟨d,k,h⟩:=X5H ws (X2c n c s w.a w.b) (fun v hv=>hw v (by simp[hv])) (X8U h1 f _ _) x ⟨(X8s f).2 ⟨hx.1,e⟩,fun v hv=>hx.2 v (by simp[hv])⟩
    exact⟨d,List.mem_flatMap.2 ⟨s,j,k⟩,h⟩
theorem X8p {n:Nat} {ws:List Wit} {c:Con} (b:∀w∈ws,X8N n w) (e:X73 n c.ap):X9 n ws c≠[]↔∃x,X98 n c ws x:=by
  constructor
  · intro h
    obtain⟨d,a⟩:=List.exists_mem_of_ne_nil _ h;exact⟨_,(X59 ws c b e d a).1⟩
  · rintro⟨x,f⟩ h
    obtain⟨d,a,_⟩:=X5H ws c b e x f;rw[h]at a;cases a
end Nore
open Go Go.Ab
namespace Nore
def WP (lo hi:Int) (l:List Int):Bool:=l.any fun n=>decide (n<lo)||decide (n>hi)
theorem X3f (lo hi:Int):WP lo hi []=false:=rfl
theorem X2G (lo hi n:Int) (l:List Int):WP lo hi (n::l)=(decide (n<lo)||decide (n>hi)||WP lo hi l):=rfl
def inN (n lo hi:Int):Bool:=decide (lo<=n)&&decide (n<=hi)
theorem X5J (n lo hi:Int):X4z n lo hi=some (inN n lo hi):=by
  unfold X4z inN
  by_cases h:lo<=n<;>simp[h]
def X5I:Int->List UInt8->Option Int
  | last,[]=>some last
  | last,c::l=>if 97<=(c.toNat:Int)/\(c.toNat:Int)<=122 then X5I c.toNat l else if(c.toNat:Int)≠45\/last=45 then none else X5I c.toNat l
def X4I:Option Int->Bool
  | none=>false
  | some last=>last != 45
def X6b (s:ByteArray):Bool:=decide (s.size<=14)&&X4I (X5I 45 s.toList)
theorem X93 (s:ByteArray) (i:Nat) (h:(s.get! i).toNat<128):Utf8.decode s i=((s.get! i).toNat,1):=by
  unfold Utf8.decode;simp only[Nat.add_zero];rw[if_pos h]
theorem X92 (s:ByteArray) (i:Nat) (h:¬(s.get! i).toNat<128):128<=(Utf8.decode s i).1:=by
  unfold Utf8.decode;simp only[Nat.add_zero,Utf8.runeError];rw[if_neg h]
  repeat' split
  all_goals simp_all
  all_goals omega
theorem X2j (s:ByteArray):s.toList.length=s.size:=by rw[ByteArray.toList_eq];rfl
theorem X8D (s:ByteArray) (i:Nat) (h:i<s.toList.length):s.get! i=s.toList[i]:=by
  have a:i<s.size:=by rw[<-X2j];exact h
  simp only[ByteArray.toList_eq];show(s.data[i]!)=_;have b:i<s.data.size:=a;rw[getElem!_pos s.data i b];rfl
theorem X7J (s:ByteArray):X56 s=some (X6b s):=by
  have key:=X1R (X1q s s) (fun o0=>Sum.elim (fun y1:Bool×Nat=>some y1.fst) (fun y2:Int×Nat=>bif decide ((↑(ByteArray.size s):Int)<=14)then some (y2.fst != 45)else some false) o0) s.toList.length (fun i (b:Int)=>(b,i)) (fun _ _=>True) (fun i b=>some (decide (s.size<=14)&&X4I (X5I b (s.toList.drop i))))
    (by
      intro b _ R;have hh:(decide ((↑s.size:Int)<=14))=decide (s.size<=14):=by rw[decide_eq_decide];omega
      have j:s.toList.drop s.size=[]:=jd (by rw[X2j];exact Nat.le_refl _)
      simp only[j,X5I,X4I,X1q,X1t,X2j,hh,Nat.lt_irrefl,decide_false,jA,jS,jy];cases decide (s.size<=14)<;>simp)
    (by
      intro i b hi _ R k;have f:i<s.size:=by rw[<-X2j];exact hi
      have g:=X8D s i hi;simp only[X1q,X1t];rw[jb hi];simp only[X5I]
      by_cases h:(s.get! i).toNat<128
      · rw[X93 s i h]
        have e:=k ((s.get! i).toNat:Int) trivial;rw[g]at *;generalize s.toList[i]=c at *;simp only[f,decide_true,jB]
        by_cases h1:97<=(c.toNat:Int)
        · have q1:decide ((c.toNat:Int)>=97)=true:=decide_eq_true h1
          by_cases h2:(c.toNat:Int)<=122
          · have q2:decide ((c.toNat:Int)<=122)=true:=decide_eq_true h2
            simp only[decide_true,decide_false,q1,q2,jB,jS,jw,h1,h2,and_self,if_true];exact e
          · have q2:decide ((c.toNat:Int)<=122)=false:=decide_eq_false h2
            have a:¬((c.toNat:Int)=45):=by omega
            have q3:((c.toNat:Int) != 45)=true:=bne_iff_ne.2 a;simp only[decide_true,decide_false,q1,q2,q3,jB,jA,jS,jw,jy,h2,and_false,if_false,ne_eq,a,not_false_iff,true_or,if_true,X4I,Bool.and_false]
        · have q1:decide ((c.toNat:Int)>=97)=false:=decide_eq_false h1
          by_cases a:(c.toNat:Int)=45
          · have q3:((c.toNat:Int) != 45)=false:=by rw[a];rfl
            by_cases h4:b=45
            · have q4:(b==45)=true:=by rw[h4];rfl
              rw[q1,q3,q4,if_neg (fun hc=>h1 hc.1),if_pos (Or.inr h4)];simp[X4I]
            · have q4:(b==45)=false:=beq_eq_false_iff_ne.2 h4
              simp only[decide_true,decide_false,q1,q3,q4,jB,jA,jS,jw,jy,h1,false_and,if_false,h4,ne_eq,a,not_true,or_self,if_true];rw[a]at e;exact e
          · have q3:((c.toNat:Int) != 45)=true:=bne_iff_ne.2 a
            simp only[decide_true,decide_false,q1,q3,jB,jA,jS,jw,jy,h1,false_and,if_false,ne_eq,a,not_false_iff,true_or,if_true,X4I,Bool.and_false]
      · have h':=X92 s i h
        rw[g]at h;generalize s.toList[i]=c at *;simp only[f,decide_true,jB];generalize (Utf8.decode s i)=d at *;have e1:((d.1:Nat):Int)>=97:=by omega
        have e2:¬((d.1:Nat):Int)<=122:=by omega
        have e3:¬((d.1:Nat):Int)=45:=by omega
        have e4:¬((c.toNat:Int)<=122):=by omega
        have e5:¬((c.toNat:Int)=45):=by omega
        have q1:decide (((d.1:Nat):Int)>=97)=true:=decide_eq_true e1;have q2:decide (((d.1:Nat):Int)<=122)=false:=decide_eq_false e2;have q3:(((d.1:Nat):Int) != 45)=true:=bne_iff_ne.2 e3;simp only[decide_true,decide_false,q1,q2,q3,jB,jA,jS,jw,jy,e4,and_false,if_false,ne_eq,e5,not_false_iff,true_or,if_true,X4I,Bool.and_false])
  exact(key 0 45 (by omega) trivial).trans (by simp[X6b])
theorem X7O (s:ByteArray):X4y s=some (X6b s):=by
  unfold X4y;rw[X5J];simp only[jS]
  by_cases hsz:1<=s.size/\s.size<=14
  · have e1:inN (↑s.size) 1 14=true:=by simp[inN];omega
    rw[e1];simp only[Bool.not_true,jA];have o:=X2j s;have key:=X1R (X1r s) (fun o0=>Sum.elim (fun y76:Bool=>some y76) (fun _:Unit=>some true) o0) s.toList.length (fun i (_:Int)=>(i:Int)) (fun i b=>b=if i=0 then 45 else((s.toList.getD (i-1) 0).toNat:Int)) (fun i b=>some (if i<s.toList.length then X4I (X5I b (s.toList.drop i))else true))
      (by
        intro b _ R;simp[X1r,X1C,X2j])
      (by
        intro i b hi j R n;have m:i<s.size:=by rw[<-X2j];exact hi
        simp only[X1r,X1C];rw[jb hi];have a:=n ((s.toList[i]).toNat:Int) (by simp[List.getD,hi])
        have l:=wS i (by omega)
        have f:IntKind.wrap .i64 ((i:Int)-1)=((i:Int)-1):=by rw[w64]<;>omega
        have e:IntKind.wrap .i64 ((s.size:Int)-1)=((s.size:Int)-1):=by rw[w64]<;>omega
        simp only[X5I,kS,XP _ _ _ hi,l,f,e];have d1:decide ((i:Int)<↑s.size)=true:=by simp[m]
        have d2:=z0S i;simp only[d1,d2,ju,jB,hi,if_true];generalize hc:s.toList[i]=c at *
        by_cases h1:97<=(c.toNat:Int)/\(c.toNat:Int)<=122
        · have q1:decide ((c.toNat:Int)>=97)=true:=decide_eq_true h1.1
          have q2:decide ((c.toNat:Int)<=122)=true:=decide_eq_true h1.2;simp only[decide_true,decide_false,q1,q2,jB,jS,jw,h1,and_self,if_true];have d:¬((c.toNat:Int)=45):=by omega
          rw[a]
          by_cases hi2:i+1<s.toList.length
          · simp[hi2]
          · have:s.toList.drop (i+1)=[]:=jd (by omega)
            simp[hi2,this,X5I,X4I,d]
        · have g:(bif decide ((c.toNat:Int)>=97)then bif decide ((c.toNat:Int)<=122)then true else false else false)=false:=by
            by_cases a1:(c.toNat:Int)>=97
            · by_cases a2:(c.toNat:Int)<=122
              · exact absurd ⟨a1,a2⟩ h1
              · simp[a1,a2]
            · simp[a1]
          have g2:∀(Z:Type) (x y:Z),(bif decide ((c.toNat:Int)>=97)then bif decide ((c.toNat:Int)<=122)then x else y else y)=y:=by
            intro Z x y
            by_cases a1:(c.toNat:Int)>=97
            · by_cases a2:(c.toNat:Int)<=122
              · exact absurd ⟨a1,a2⟩ h1
              · simp[a1,a2]
            · simp[a1]
          rw[g2,if_neg h1]
          by_cases h2:(c.toNat:Int)=45
          · simp only[h2,bne_self_eq_false,jA]
            by_cases h3:i=0
            · subst h3
              simp[j,X4I]
            · by_cases h4:i+1=s.size
              · have:s.toList.drop (i+1)=[]:=jd (by omega)
                have e5:(i:Int)=(s.size:Int)-1:=by omega
                have e6:((s.size:Int)-1==0)=false:=by simp;omega
                simp only[e5,e6,this,X5I]
                by_cases h5:b=45<;>simp[h5,X4I]
              · have e5:((i:Int)==(s.size:Int)-1)=false:=by simp;omega
                have e6:((i:Int)==0)=false:=by simp;omega
                have e7:(0:Int)<=(i:Int)-1:=by omega
                have e8:(i:Int)-1<(s.size:Int):=by omega
                have e9:((i:Int)-1).toNat=i-1:=by omega
                simp only[e5,e6,e7,e8,e9,jA,decide_true,ju,jB];simp only[h3,if_false]at j;rw[<-j]
                by_cases h5:b=45
                · simp[h5,X4I]
                · have q5:(b==45)=false:=beq_eq_false_iff_ne.2 h5
                  rw[h2]at a;rw[q5];simp only[jA,jS,jw,ne_eq,not_true,false_or,h5,if_false];rw[a];simp[show i+1<s.toList.length by omega]
          · have:((c.toNat:Int) != 45)=true:=by simp[h2]
            simp[this,h2,X4I])
    have:=key 0 45 (by omega) (by simp)
    refine this.trans ?_;simp[X6b,show 0<s.toList.length by omega,hsz.2]
  · have e1:inN (↑s.size) 1 14=false:=by
      simp[inN];omega
    rw[e1];simp only[Bool.not_false,jB,X6b]
    by_cases h:s.size<=14
    · have k:s.toList=[]:=by
        apply List.eq_nil_of_length_eq_zero;rw[X2j];omega
      simp[k,X5I,X4I]
    · simp[h]
theorem X5U (n lo hi:Int):inN n lo hi = !WP lo hi [n]:=by
  simp only[inN,X2G,X3f,Bool.or_false,Bool.not_or];congr 1<;>rw[<-decide_not,decide_eq_decide]<;>omega
def X5V (lo hi:Int):Int->List Y2->Int
  | e,[]=>e
  | e,s::l=>if WP lo hi [s.Lo,s.Hi]then 7 else X5V lo hi (if s.Lo>s.Hi then 2 else e) l
theorem X7a (l:List Y2) (lo hi:Int) (h:l.length<1000000):X3Q l lo hi=some (X5V lo hi 0 l):=by
  unfold X3Q;exact X1R (WZ lo l hi) _ l.length (fun i (b:Int)=>(b,(i:Int))) (fun _ _=>True) (fun i b=>some (X5V lo hi b (l.drop i)))
      (by
        intro b _ R;simp[WZ,X15,X5V])
      (by
        intro i b c _ R d;simp only[WZ,X15];rw[jb c];have e:=wS i (by omega)
        simp only[kS,XP _ _ _ c,X5V,e];rw[X5J,X5J,X5U,X5U];have g:decide ((i:Int)<↑l.length)=true:=by simp[c]
        have f:=z0S i;simp only[g,f,ju,jB,jS];have a:WP lo hi [l[i].Lo,l[i].Hi]=(WP lo hi [l[i].Lo]||WP lo hi [l[i].Hi]):=by simp[WP]
        rw[a];cases h3:WP lo hi [l[i].Lo]
        · cases h4:WP lo hi [l[i].Hi]
          · by_cases h5:l[i].Lo>l[i].Hi
            · have:=d 2 trivial
              simp only[h5];simp;simpa using this
            · have:=d b trivial
              simp only[h5];simp;simpa using this
          · simp
        · simp) 0 0 (by omega) trivial
theorem Z9a (a b:ByteArray):(a==b)=(a.data==b.data):=by cases a;cases b;rfl
instance:LawfulBEq ByteArray where
  rfl:=by intro a;rw[Z9a];simp
  eq_of_beq:=by
    intro a b h;rw[Z9a]at h;have:=eq_of_beq h;cases a;cases b;simp only at this;rw[this]
instance:DecidableEq ByteArray:=fun a b=>if h:(a==b)=true then isTrue (eq_of_beq h)else isFalse (fun e=>h (by rw[e];simp))
def X5B (s:ByteArray) (names:List ByteArray):Int:=if X6b s then(if s∈names then 5 else 0)else 6
theorem X7F {a b:ByteArray} (h:a.toList=b.toList):a=b:=by
  cases a;cases b;simp only[ByteArray.toList_eq]at h;congr 1;exact Array.ext' h
theorem X7w (s:ByteArray) (names:List ByteArray) (j:names.length<1000000):X4b s names=some (X5B s names):=by
  unfold X4b X5B;rw[X7O];simp only[jS];cases X6b s
  · simp
  · simp only[Bool.not_true,jA,if_true]
    unfold X4K;have key:=X1R (WM s names) (fun o78=>Option.bind (Sum.elim (fun y79:Int=>some y79) (fun _:Unit=>some (-1)) o78) fun r82=>bif decide (r82>=0)then some (5:Int)else some 0) names.length (fun i (_:Unit)=>(i:Int)) (fun _ _=>True) (fun i _=>some (if s∈names.drop i then 5 else 0))
      (by
        intro b _ R;simp[WM,X1e])
      (by
        intro i b hi _ R f;have c:=f () trivial;simp only[WM,X1e];rw[jb hi];have d:=wS i (by omega)
        simp only[kS,XP _ _ _ hi,d];have g:decide ((i:Int)<↑names.length)=true:=by simp[hi]
        have e:=z0S i;simp only[g,e,ju,jB]
        by_cases h:names[i]=s
        · simp[h]
        · have h':(names[i].toList==s.toList)=false:=by
            simp only[beq_eq_false_iff_ne];intro hh;exact h (X7F hh)
          have a:¬s=names[i]:=fun hh=>h hh.symm;simp only[h',jA,jS,jw,jv,a,false_or];exact c)
    have:=key 0 () (by omega) trivial
    simp only[List.drop_zero]at this;rw[<-this];show Option.bind (Option.bind _ _) _=Option.bind _ _;unfold X3r;simp only[Int.natCast_zero];cases Z8I (WM s names) 0<;>rfl
end Nore
open Go Go.Ab
namespace Nore
def spN (L H:Nat->Int):Nat->Y2:=fun j=>⟨L j,H j⟩
def X3d (f:Nat->Y2) (k:Nat) (s:Y2):Nat->Y2:=fun j=>bif Nat.beq j k then s else f j
theorem X8u (f:Nat->Y2) (k:Nat) (s s':Y2):(fun j=>bif Nat.beq j k then s' else X3d f k s j)=X3d f k s':=by
  funext j;unfold X3d;cases Nat.beq j k<;>rfl
theorem X8t (f:Nat->Y2) (k:Nat) (s:Y2):X3d f k s k=s:=by unfold X3d;simp
theorem X7A (f:Nat->Y2) {k j:Nat} (s:Y2) (h:j≠k):X3d f k s j=f j:=by
  unfold X3d;cases e:Nat.beq j k with
  | false=>rfl
  | true=>exact absurd (je e) h
def X3 (ap:List Zb):List (Nat×Nat):=ap.map fun s=>(s.from_.toNat,s.to_.toNat)
def X8j (ap:List Zb):Prop:=ap.length<=1000/\∀s∈ap,0<=s.from_/\s.from_<s.to_/\s.to_<10
def BdN (L:Nat->Int):Prop:=∀i,-1000000<=L i/\L i<=1000000
theorem X94 (L:Nat->Int) (p:Nat×Nat) (ps:List (Nat×Nat)) (i:Nat) (a:Int):X6y L (p::ps) i a=X6y L ps i (if p.2=i then(if L p.1+1>a then L p.1+1 else a)else a):=rfl
theorem X95 (H:Nat->Int) (p:Nat×Nat) (ps:List (Nat×Nat)) (i:Nat) (a:Int):X6z H (p::ps) i a=X6z H ps i (if p.1=i then(if H p.2-1<a then H p.2-1 else a)else a):=rfl
theorem X6F (ap:List Zb) (f:X8j ap) (L H:Nat->Int) (hL:BdN L) (k:Nat) (t:k<10) (a:Int) (s : -1000000<=a/\a<=1000001) (x1 x3:Int) (x6:List Zb) (x9:Zc) (x10:Nat->Y2) :
    Wv (ap.length:Int) x1 (k:Int) x3 (k:Int) x6 ap x9 x10 (0,X3d (spN L H) k ⟨a,H k⟩)=some (X3d (spN L H) k ⟨X6y L (X3 ap) k a,H k⟩):=by
  obtain⟨w,o,n⟩:=X28 (XA (ap.length:Int) x1 (k:Int) x3 (k:Int) x6 ap x9 x10) ap.length (fun i (b:Nat->Y2)=>((i:Int),b))
    (fun i b=>∃a',(-1000000<=a'/\a'<=1000001)/\b=X3d (spN L H) k ⟨a',H k⟩/\X6y L (X3 (ap.drop i)) k a'=X6y L (X3 ap) k a) (fun w=>w=X3d (spN L H) k ⟨X6y L (X3 ap) k a,H k⟩)
    (fun b ⟨a',_,e,h⟩=>⟨_,by simp[XA,Xe];rfl,by
      rw[e,<-h,List.drop_length];rfl⟩)
    (fun i b hi ⟨a',m,e,h⟩=>by
      right;have g:ap[i]∈ap:=jl hi;obtain⟨s1,s2,s3⟩:=f.2 _ g;have j:ap.getD i ⟨0,0⟩=ap[i]:=XP _ _ _ hi;have e1:decide ((i:Int)<(ap.length:Int))=true:=by simp;omega
      have w1:=wS i (by have:=f.1;omega)
      have c:X3 (ap.drop i)=(ap[i].from_.toNat,ap[i].to_.toNat)::X3 (ap.drop (i+1)):=by
        rw[jb hi];rfl
      rw[c,X94]at h;simp only at h;simp only[XA,Xe,e1,z0S,ju,jB,kS,j,w1]
      by_cases ht:ap[i].to_=(k:Int)
      · have p:ap[i].from_.toNat≠k:=by omega
        have c1:(ap[i].to_==(k:Int))=true:=by simp[ht]
        have c2:decide ((k:Int)<(10:Int))=true:=by simp;omega
        have c3:Nat.blt k 10=true:=by simp[Nat.blt_eq];omega
        have c4:decide (0<=ap[i].from_)=true:=by simp[s1]
        have c5:decide (ap[i].from_<(10:Int))=true:=by simp;omega
        have c6:Nat.blt ap[i].from_.toNat 10=true:=by rw[Nat.blt_eq];omega
        have hv:=hL ap[i].from_.toNat;have r:(b ap[i].from_.toNat).Lo=L ap[i].from_.toNat:=by rw[e,X7A _ _ p];rfl
        have q:b k=⟨a',H k⟩:=by rw[e,X8t]
        have w2:IntKind.wrap .i64 (L ap[i].from_.toNat+1)=L ap[i].from_.toNat+1:=by rw[w64]<;>omega
        simp only[c1,c2,c3,c4,c5,c6,jB,ju,r,q,w2];have d:ap[i].to_.toNat=k:=by omega
        rw[if_pos d]at h;refine⟨_,rfl,(if L ap[i].from_.toNat+1>a' then L ap[i].from_.toNat+1 else a'),by split<;>omega,?_,h⟩
        rw[e,X8u]
        by_cases hc:L ap[i].from_.toNat+1>a'<;>simp[hc]
      · have c1:(ap[i].to_==(k:Int))=false:=X4j ht
        simp only[c1,jA];have d:¬ap[i].to_.toNat=k:=by omega
        rw[if_neg d]at h;exact⟨_,rfl,a',m,e,h⟩) 0 _ (Nat.zero_le _) ⟨a,s,rfl,rfl⟩
  have l:Wv (ap.length:Int) x1 (k:Int) x3 (k:Int) x6 ap x9 x10 (0,X3d (spN L H) k ⟨a,H k⟩)=some w:=o;rw[l,n]
theorem X8g (ap:List Zb) (b:X8j ap) (L H:Nat->Int) (hL:BdN L) (k:Nat) (c:k<10) (a:Int) (d : -1000000<=a/\a<=1000001) (x1 x3:Int) (x6:List Zb) (x9:Zc) (x10:Nat->Y2) :
    X1k (ap.length:Int) x1 (k:Int) x3 (k:Int) x6 ap x9 x10 (0,X3d (spN L H) k ⟨a,H k⟩)=some (X3d (spN L H) k ⟨X6y L (X3 ap) k a,H k⟩) :=
  X6F ap b L H hL k c a d x1 x3 x6 x9 x10
theorem X6G (ap:List Zb) (f:X8j ap) (L H:Nat->Int) (r:BdN H) (k:Nat) (u:k<10) (a:Int) (t : -1000001<=a/\a<=1000000) (x2:Int) (x5:List Zb) (x7:Zc) (x8:Nat->Y2) :
    Wx ap x2 (ap.length:Int) (k:Int) x5 x7 x8 (0,X3d (spN L H) k ⟨L k,a⟩)=some (X3d (spN L H) k ⟨L k,X6z H (X3 ap) k a⟩):=by
  obtain⟨w,o,n⟩:=X28 (XC ap x2 (ap.length:Int) (k:Int) x5 x7 x8) ap.length (fun i (b:Nat->Y2)=>((i:Int),b))
    (fun i b=>∃a',(-1000001<=a'/\a'<=1000000)/\b=X3d (spN L H) k ⟨L k,a'⟩/\X6z H (X3 (ap.drop i)) k a'=X6z H (X3 ap) k a) (fun w=>w=X3d (spN L H) k ⟨L k,X6z H (X3 ap) k a⟩)
    (fun b ⟨a',_,e,h⟩=>⟨_,by simp[XC,Xf];rfl,by
      rw[e,<-h,List.drop_length];rfl⟩)
    (fun i b hi ⟨a',m,e,h⟩=>by
      right;have g:ap[i]∈ap:=jl hi;obtain⟨s1,s2,s3⟩:=f.2 _ g;have j:ap.getD i ⟨0,0⟩=ap[i]:=XP _ _ _ hi;have e1:decide ((i:Int)<(ap.length:Int))=true:=by simp;omega
      have w1:=wS i (by have:=f.1;omega)
      have c:X3 (ap.drop i)=(ap[i].from_.toNat,ap[i].to_.toNat)::X3 (ap.drop (i+1)):=by
        rw[jb hi];rfl
      rw[c,X95]at h;simp only at h;simp only[XC,Xf,e1,z0S,ju,jB,kS,j,w1]
      by_cases ht:ap[i].from_=(k:Int)
      · have p:ap[i].to_.toNat≠k:=by omega
        have c1:(ap[i].from_==(k:Int))=true:=by simp[ht]
        have c2:decide ((k:Int)<(10:Int))=true:=by simp;omega
        have c3:Nat.blt k 10=true:=by simp[Nat.blt_eq];omega
        have c4:decide (0<=ap[i].to_)=true:=by simp;omega
        have c5:decide (ap[i].to_<(10:Int))=true:=by simp;omega
        have c6:Nat.blt ap[i].to_.toNat 10=true:=by rw[Nat.blt_eq];omega
        have hv:=r ap[i].to_.toNat;have s:(b ap[i].to_.toNat).Hi=H ap[i].to_.toNat:=by rw[e,X7A _ _ p];rfl
        have q:b k=⟨L k,a'⟩:=by rw[e,X8t]
        have w2:IntKind.wrap .i64 (H ap[i].to_.toNat-1)=H ap[i].to_.toNat-1:=by rw[w64]<;>omega
        simp only[c1,c2,c3,c4,c5,c6,jB,ju,s,q,w2];have d:ap[i].from_.toNat=k:=by omega
        rw[if_pos d]at h;refine⟨_,rfl,(if H ap[i].to_.toNat-1<a' then H ap[i].to_.toNat-1 else a'),by split<;>omega,?_,h⟩
        rw[e,X8u]
        by_cases hc:H ap[i].to_.toNat-1<a'<;>simp[hc]
      · have c1:(ap[i].from_==(k:Int))=false:=X4j ht
        simp only[c1,jA];have d:¬ap[i].from_.toNat=k:=by omega
        rw[if_neg d]at h;exact⟨_,rfl,a',m,e,h⟩) 0 _ (Nat.zero_le _) ⟨a,t,rfl,rfl⟩
  have l:Wx ap x2 (ap.length:Int) (k:Int) x5 x7 x8 (0,X3d (spN L H) k ⟨L k,a⟩)=some w:=o;rw[l,n]
theorem X8i (ap:List Zb) (b:X8j ap) (L H:Nat->Int) (e:BdN H) (k:Nat) (c:k<10) (a:Int) (d : -1000001<=a/\a<=1000000) (x2:Int) (x5:List Zb) (x7:Zc) (x8:Nat->Y2) :
    X1l ap x2 (ap.length:Int) (k:Int) x5 x7 x8 (0,X3d (spN L H) k ⟨L k,a⟩)=some (X3d (spN L H) k ⟨L k,X6z H (X3 ap) k a⟩) :=
  X6G ap b L H e k c a d x2 x5 x7 x8
end Nore
open Go Go.Ab
namespace Nore
theorem X90 (ap:List (Nat×Nat)) (L:Nat->Int) (a b:Int) (hL:∀i,a<=L i/\L i<=b):∀(k j:Nat),a<=WQ ap k L j/\WQ ap k L j<=b+k
  | 0,j=>by
    have:=hL j;show a<=L j/\L j<=b+((0:Nat):Int);omega
  | k+1,j=>by
    have ih:=X90 ap L a b hL k;unfold WQ;split
    · unfold up1
      obtain⟨g,_⟩:=X89 (WQ ap k L) k ap (if 0<k then(if WQ ap k L (k-1)>WQ ap k L k then WQ ap k L (k-1)else WQ ap k L k)else WQ ap k L k);have i1:=ih k;have i2:=ih (k-1);refine⟨Int.le_trans ?_ g,X8a _ _ _ _ _ ?_ fun p _ _=>?_⟩
      · split
        · split<;>omega
        · omega
      · split
        · split<;>omega
        · omega
      · have:=ih p.1
        omega
    · have:=ih j
      omega
theorem X8R (n:Nat) (ap:List (Nat×Nat)) (H:Nat->Int) (a b:Int) (c:∀i,a<=H i/\H i<=b):∀(k j:Nat),a-k<=WO n ap k H j/\WO n ap k H j<=b
  | 0,j=>by
    have:=c j;show a-((0:Nat):Int)<=H j/\H j<=b;omega
  | k+1,j=>by
    have ih:=X8R n ap H a b c k;unfold WO;split
    · unfold dn1
      obtain⟨g,_⟩:=X8c (WO n ap k H) (n-1-k) ap (if n-1-k+1<n then(if WO n ap k H (n-1-k+1)<WO n ap k H (n-1-k)then WO n ap k H (n-1-k+1)else WO n ap k H (n-1-k))else WO n ap k H (n-1-k));have i1:=ih (n-1-k);have i2:=ih (n-1-k+1);refine⟨X8b _ _ _ _ _ ?_ fun p _ _=>?_,Int.le_trans g ?_⟩
      · split
        · split<;>omega
        · omega
      · have:=ih p.2
        omega
      · split
        · split<;>omega
        · omega
    · have:=ih j
      omega
theorem X82 (f:Nat->Y2) (k:Nat):X3d f k (f k)=f:=by
  funext j;unfold X3d;cases e:Nat.beq j k with
  | false=>rfl
  | true=>rw[je e];rfl
theorem X8W (ap:List (Nat×Nat)) (L H:Nat->Int) (i:Nat):X3d (spN (WQ ap i L) H) i ⟨up1 ap (WQ ap i L) i,H i⟩=spN (WQ ap (i+1) L) H:=by
  funext j;unfold X3d spN;cases e:Nat.beq j i with
  | false =>
    have:j≠i:=fun h=>by subst h;simp at e
    show(⟨WQ ap i L j,H j⟩:Y2)=⟨if j=i then _ else _,H j⟩;rw[if_neg this]
  | true =>
    have:=je e;subst this;show(⟨_,_⟩:Y2)=⟨if j=j then _ else _,H j⟩;rw[if_pos rfl]
theorem X9m (n:Nat) (ap:List (Nat×Nat)) (L H:Nat->Int) (i:Nat):X3d (spN L (WO n ap i H)) (n-1-i) ⟨L (n-1-i),dn1 n ap (WO n ap i H) (n-1-i)⟩=spN L (WO n ap (i+1) H):=by
  funext j;unfold X3d spN;cases e:Nat.beq j (n-1-i)with
  | false =>
    have:j≠n-1-i:=fun h=>by subst h;simp at e
    show(⟨L j,WO n ap i H j⟩:Y2)=⟨L j,if j=n-1-i then _ else _⟩;rw[if_neg this]
  | true =>
    have:=je e;subst this;show(⟨_,_⟩:Y2)=⟨L (n-1-i),if n-1-i=n-1-i then _ else _⟩;rw[if_pos rfl]
theorem X8f (ap:List Zb) (c:X8j ap) (L H:Nat->Int) (hL:∀i,-900000<=L i/\L i<=900000) (n:Nat) (p:n<=10) (x1:Int) (x5:Zc) (x6:Nat->Y2) :
    Wu (n:Int) x1 ap x5 x6 (0,spN L H)=some (spN (WQ (X3 ap) n L) H):=by
  obtain⟨w,m,k⟩:=X28 (Xz (n:Int) x1 ap x5 x6) n (fun i (b:Nat->Y2)=>((i:Int),b))
    (fun i b=>b=spN (WQ (X3 ap) i L) H) (fun w=>w=spN (WQ (X3 ap) n L) H)
    (fun b d=>⟨b,by simp[Xz,XR],d⟩)
    (fun i b hi d=>by
      right;have e1:decide ((i:Int)<(n:Int))=true:=by simp;omega
      have w1:=wS i (by omega)
      have f:=X90 (X3 ap) L _ _ hL i;have h:BdN (WQ (X3 ap) i L):=fun j=>by have:=f j;omega
      have o:=f i;simp only[Xz,XR,e1,jB,w1,kS]
      by_cases h0:0<i
      · have l:=f (i-1)
        have c1:decide ((i:Int)>0)=true:=by simp;omega
        have c2:decide ((i:Int)<(10:Int))=true:=by simp;omega
        have c3:Nat.blt i 10=true:=by rw[Nat.blt_eq];omega
        have w2:IntKind.wrap .i64 ((i:Int)-1)=((i-1:Nat):Int):=by rw[w64]<;>omega
        have c4:decide (((i-1:Nat):Int)<(10:Int))=true:=by simp;omega
        have c5:Nat.blt (i-1) 10=true:=by rw[Nat.blt_eq];omega
        simp only[c1,c2,c3,w2,c4,c5,z0S,kS,ju,jB];have a:(fun j=>bif Nat.beq j i then(⟨bif decide ((b (i-1)).Lo>(b i).Lo)then(b (i-1)).Lo else(b i).Lo,(b i).Hi⟩:Y2)else b j)=X3d (spN (WQ (X3 ap) i L) H) i ⟨if WQ (X3 ap) i L (i-1)>WQ (X3 ap) i L i then WQ (X3 ap) i L (i-1)else WQ (X3 ap) i L i,H i⟩:=by
          rw[d];funext j;unfold X3d spN
          by_cases hc:WQ (X3 ap) i L (i-1)>WQ (X3 ap) i L i<;>simp[hc]
        rw[a,X6F ap c _ H h i (by omega) _ (by split<;>omega)]
        refine⟨_,rfl,?_⟩;rw[<-X8W];unfold up1;rw[if_pos h0]
      · have g:i=0:=by omega
        subst g;have c1:decide (((0:Nat):Int)>0)=false:=rfl;simp only[c1,jA];have a:b=X3d (spN (WQ (X3 ap) 0 L) H) 0 ⟨WQ (X3 ap) 0 L 0,H 0⟩:=by
          rw[d];exact(X82 (spN (WQ (X3 ap) 0 L) H) 0).symm
        rw[a,X8g ap c _ H h 0 (by omega) _ (by omega)]
        refine⟨_,rfl,?_⟩;rw[<-X8W];rfl) 0 _ (Nat.zero_le _) rfl
  have e:Wu (n:Int) x1 ap x5 x6 (0,spN L H)=some w:=m;rw[e,k]
theorem X8h (ap:List Zb) (d:X8j ap) (L H:Nat->Int) (r:∀i,-900000<=H i/\H i<=900000) (n:Nat) (t:n<=10) (x4:Zc) (x5:Nat->Y2) :
    Ww (n:Int) ap x4 x5 ((n:Int)-1,spN L H)=some (spN L (WO n (X3 ap) n H)):=by
  obtain⟨w,l,o⟩:=X28 (XB (n:Int) ap x4 x5) n (fun i (b:Nat->Y2)=>((n:Int)-1-i,b))
    (fun i b=>b=spN L (WO n (X3 ap) i H)) (fun w=>w=spN L (WO n (X3 ap) n H))
    (fun b e=>⟨b,by
      have e1:decide ((n:Int)-1-(n:Int)>=0)=false:=by simp;omega
      simp only[XB,XS,e1,jA],e⟩)
    (fun i b hi e=>by
      right;obtain⟨k,q⟩:∃k:Nat,k=n-1-i:=⟨_,rfl⟩;have f:(n:Int)-1-i=(k:Int):=by omega
      have e1:decide ((k:Int)>=0)=true:=by simp
      have w1:=wS k (by omega)
      have w3:IntKind.wrap .i64 ((k:Int)-1)=(n:Int)-1-((i+1:Nat):Int):=by rw[w64]<;>omega
      have g:=X8R n (X3 ap) H _ _ r i;have m:BdN (WO n (X3 ap) i H):=fun j=>by have:=g j;omega
      have p:=g k;have a:=X9m n (X3 ap) L H i;rw[<-q]at a;unfold dn1 at a;simp only[f,XB,XS,e1,jB,w1,kS,w3]
      by_cases h0:k+1<n
      · have s:=g (k+1)
        have c1:decide (((k+1:Nat):Int)<(n:Int))=true:=by simp;omega
        have c2:decide ((k:Int)<(10:Int))=true:=by simp;omega
        have c3:Nat.blt k 10=true:=by rw[Nat.blt_eq];omega
        have c4:decide (((k+1:Nat):Int)<(10:Int))=true:=by simp;omega
        have c5:Nat.blt (k+1) 10=true:=by rw[Nat.blt_eq];omega
        simp only[c1,c2,c3,c4,c5,z0S,kS,ju,jB];have c:(fun j=>bif Nat.beq j k then(⟨(b k).Lo,bif decide ((b (k+1)).Hi<(b k).Hi)then(b (k+1)).Hi else(b k).Hi⟩:Y2)else b j)=X3d (spN L (WO n (X3 ap) i H)) k ⟨L k,if WO n (X3 ap) i H (k+1)<WO n (X3 ap) i H k then WO n (X3 ap) i H (k+1)else WO n (X3 ap) i H k⟩:=by
          rw[e];funext j;unfold X3d spN
          by_cases hc:WO n (X3 ap) i H (k+1)<WO n (X3 ap) i H k<;>simp[hc]
        rw[c,X6G ap d L _ m k (by omega) _ (by split<;>omega)]
        refine⟨_,rfl,?_⟩;rw[if_pos h0]at a;exact a
      · have c1:decide (((k+1:Nat):Int)<(n:Int))=false:=by simp;omega
        simp only[c1,jA];have c:b=X3d (spN L (WO n (X3 ap) i H)) k ⟨L k,WO n (X3 ap) i H k⟩:=by
          rw[e];exact(X82 (spN L (WO n (X3 ap) i H)) k).symm
        rw[c,X8i ap d L _ m k (by omega) _ (by omega)]
        refine⟨_,rfl,?_⟩;rw[if_neg h0]at a;exact a) 0 _ (Nat.zero_le _) rfl
  have e0:(n:Int)-1-((0:Nat):Int)=(n:Int)-1:=by omega
  rw[e0]at l;have h:Ww (n:Int) ap x4 x5 ((n:Int)-1,spN L H)=some w:=l;rw[h,o]
def X7K (L H:Nat->Int) (ap:List Zb):Con:=⟨L,H,X3 ap⟩
theorem X8I (q:Zc) (L H:Nat->Int) (ap:List Zb) (g:X8j ap) (hL:∀i,-900000<=L i/\L i<=900000) (s:∀i,-900000<=H i/\H i<=900000) (m:q.CoRecord.Entries.length<=10) :
    XI q (spN L H) ap=some (spN (X5b q.CoRecord.Entries.length (X7K L H ap)) (X5a q.CoRecord.Entries.length (X7K L H ap)),okN q.CoRecord.Entries.length (X7K L H ap)):=by
  rw[X3y];unfold Wi;generalize q.CoRecord.Entries.length=n at m;have w1:IntKind.wrap .i64 ((n:Int)-1)=(n:Int)-1:=by rw[w64]<;>omega
  rw[X8f ap g L H hL n m];simp only[jS,w1];rw[X8h ap g _ H s n m];have c1:decide ((n:Int)<=(10:Int))=true:=by simp;omega
  simp only[jS,z0S,c1,ju,jB,kS,List.drop_zero];have c:(List.map (spN (WQ (X3 ap) n L) (WO n (X3 ap) n H)) (List.range 10)).take n=(List.range n).map (spN (X5b n (X7K L H ap)) (X5a n (X7K L H ap))):=by
    rw[<-List.map_take,List.take_range,Nat.min_eq_left m];rfl
  rw[c];generalize hA:X5b n (X7K L H ap)=A;generalize hB:X5a n (X7K L H ap)=B;have a:((List.range n).map (spN A B)).length=n:=by simp
  obtain⟨w,u,r⟩:=X28 (XD (n:Int) ((List.range n).map (spN A B))) n (fun i (_:Unit)=>(i:Int)) (fun i _=>∀j,j<i->A j<=B j)
    (fun w=>(∃j:Nat,w=.inl (j:Int)/\¬∀i,i<n->A i<=B i)\/(w=.inr ()/\∀i,i<n->A i<=B i))
    (fun _ h=>⟨.inr (),by simp[XD,XT],.inr ⟨rfl,h⟩⟩)
    (fun i _ hi h=>by
      have e1:decide ((i:Int)<(n:Int))=true:=by simp;omega
      have l:((List.range n).map (spN A B)).getD i ⟨0,0⟩=⟨A i,B i⟩:=by
        rw[XP _ _ _ (by rw[a];exact hi)]
        simp[spN]
      have w1:=wS i (by omega)
      simp only[XD,XT,e1,a,z0S,ju,jB,kS,l,w1];rw[X34];unfold Wa;simp only[jS]
      by_cases hc:A i>B i
      · left
        exact⟨.inl (i:Int),by simp[hc],.inl ⟨i,rfl,fun k=>by have:=k i hi;omega⟩⟩
      · right
        refine⟨(),by simp[hc],fun j t=>?_⟩
        by_cases e:j=i
        · subst e;omega
        · exact h j (by omega)) 0 () (Nat.zero_le _) (fun j t=>by omega)
  have p:X1m (n:Int) ((List.range n).map (spN A B)) 0=some w:=u;have d:WQ (X3 ap) n L=A:=hA;have b:WO n (X3 ap) n H=B:=hB;rw[a,p,d,b];rcases r with⟨k,rfl,o⟩|⟨rfl,f⟩
  · have:okN n (X7K L H ap)=false:=by
      rw[Bool.eq_false_iff];intro h;rw[X6B,hA,hB]at h;exact o h
    rw[this];simp
  · have:okN n (X7K L H ap)=true:=by
      rw[X6B,hA,hB];exact f
    rw[this];simp
end Nore
open Go Go.Ab
namespace Nore
def gtN (l:List Int) (i:Nat):Int:=l.getD i 0
structure X9v (n:Nat) (c:Con) (A B:Nat->Int) (lo hi:List Int):Prop where
  l1:lo.length=n
  l2:hi.length=n
  bd:∀i,i<n->c.lo i<=gtN lo i/\gtN lo i<=A i/\B i<=gtN hi i/\gtN hi i<=c.hi i
end Nore
open Go Go.Ab
namespace Nore
def OkR (n:Nat) (ap:List Z6):Prop:=ap.length<=1000000/\∀s∈ap,0<=s.from_/\s.from_<s.to_/\s.to_<n
end Nore
open Go Go.Ab
namespace Nore
structure X9u (n:Nat) (x:Z8):Prop where
  l1:x.lo.length=n
  l2:x.hi.length=n
  ap:OkR n x.later
  bd:∀i,i<n -> -900000<=gtN x.lo i/\gtN x.lo i<=900000 /\ -900000<=gtN x.hi i/\gtN x.hi i<=900000
end Nore
open Go Go.Ab
namespace Nore
def X6k (dev st:Int):List Zq->Nat->Int->Int->List Z6
  | [],i,now,fr=>if now=st then [⟨fr,i⟩]else []
  | x::xs,i,now,fr=>if x.Device=dev then(if now=st then [⟨fr,i⟩]else [])++X6k dev st xs (i+1) x.State i else X6k dev st xs (i+1) now fr
theorem X5P (dev st:Int) (i:Nat) (now fr:Int):X6k dev st [] i now fr=if now=st then [⟨fr,i⟩]else []:=rfl
theorem X42 (dev st:Int) (x:Zq) (xs:List Zq) (i:Nat) (now fr:Int):X6k dev st (x::xs) i now fr=if x.Device=dev then(if now=st then [⟨fr,i⟩]else [])++X6k dev st xs (i+1) x.State i else X6k dev st xs (i+1) now fr:=rfl
theorem X7c {c d:Con} (g:∀i,c.lo i=d.lo i) (f:∀i,c.hi i=d.hi i) (h:c.ap=d.ap):c=d:=by
  obtain⟨a,b,e⟩:=c;obtain⟨a',b',e'⟩:=d;have g:a=a':=funext g;have f:b=b':=funext f;simp only at h;rw[g,f,h]
end Nore
open Go Go.Ab
namespace Nore
end Nore
open Go Go.Ab
namespace Nore
theorem X9e {σ ω:Type} {st st':σ->Option (σ⊕ω)} (h:∀s x,st s=some x->st' s=some x) {s:σ} {w:ω} (hr:Z8I st s=some w):Z8I st' s=some w:=by
  rw[Z1C]at hr⊢
  induction hr with
  | done e=>exact .done (h _ _ e)
  | next e _ ih=>exact .next (h _ _ e) ih
theorem X7Y {α β:Type} {t:(α->Option β)->α->Option β} (ht:∀f g:α->Option β,(∀x r,f x=some r->g x=some r)->∀x r,t f x=some r->t g x=some r) :
    ∀(n:Nat) (x:α) (r:β),Z9E t n x=some r->Z9E t (n+1) x=some r
  | 0,_,_,h=>by cases h
  | n+1,x,r,h=>ht _ _ (X7Y ht n) x r h
theorem ZfI {α β:Type} {t:(α->Option β)->α->Option β} (ht:∀f g:α->Option β,(∀x r,f x=some r->g x=some r)->∀x r,t f x=some r->t g x=some r) (n:Nat) :
    ∀(k:Nat) (x:α) (r:β),Z9E t n x=some r->Z9E t (n+k) x=some r
  | 0,_,_,h=>h
  | k+1,x,r,h=>X7Y ht (n+k) x r (ZfI ht n k x r h)
theorem X7v {α β:Type} {t:(α->Option β)->α->Option β} (ht:∀f g:α->Option β,(∀x r,f x=some r->g x=some r)->∀x r,t f x=some r->t g x=some r) {n:Nat} {x:α} {r:β} (h:Z9E t n x=some r):Zba t x=some r:=by
  refine Zka (fun m q b=>?_) ⟨n,r,h⟩;have c:=ZfI ht n m x r h;have a:=ZfI ht m n x q b;rw[Nat.add_comm]at a;rw[c]at a;exact(Option.some.inj a).symm
theorem X7f (dev st:Int) (n:Nat):∀(e:List Zq) (i:Nat) (now fr:Int),i+e.length=n -> -1<=fr->fr<i->((X6k dev st e i now fr).length<=e.length+1)/\∀s∈X6k dev st e i now fr,-1<=s.from_/\s.from_<s.to_/\s.to_<=n
  | [],i,now,fr,h,h1,h2=>by
    simp only[List.length_nil,Nat.add_zero]at h;rw[X5P];split
    · refine⟨by simp,fun s a=>?_⟩
      rw[List.mem_singleton.1 a];simp only;omega
    · exact⟨by simp,fun s a=>by cases a⟩
  | x::xs,i,now,fr,h,h1,h2=>by
    simp only[List.length_cons]at h;rw[X42];split
    · obtain⟨g1,g2⟩:=X7f dev st n xs (i+1) x.State i (by omega) (by omega) (by omega)
      split
      · refine⟨by simp only[List.length_append,List.length_cons,List.length_nil];omega,fun s a=>?_⟩
        rcases List.mem_append.1 a with q|q
        · rw[List.mem_singleton.1 q]
          simp only;omega
        · exact g2 s q
      · refine⟨by simp only[List.nil_append,List.length_cons];omega,fun s a=>g2 s (by simpa using a)⟩
    · obtain⟨g1,g2⟩:=X7f dev st n xs (i+1) now fr (by omega) h1 (by omega)
      exact⟨by simp only[List.length_cons];omega,g2⟩
end Nore
open Go Go.Ab
namespace Nore
def X4M (r:CoRecord) (x:Zr):List Z6:=X6k x.Device x.State r.Entries 0 (r.Devices.getD x.Device.toNat ⟨ByteArray.empty,0,0⟩).First (-1)
def X3i (s:Z6):Str:=(s.from_,s.to_.toNat)
def X2d (r:CoRecord) (x:Zr):Wit:=⟨(X4M r x).map X3i,x.At.Lo,x.At.Hi⟩
structure X3G (r:CoRecord) (x:Zr):Prop where
  dev:0<=x.Device/\x.Device<r.Devices.length
  lo : -900000<=x.At.Lo/\x.At.Lo<900000
  hi : -900000<=x.At.Hi/\x.At.Hi<=900000
theorem X9h {r:CoRecord} (x:Zr) {n:Nat} (d:r.Entries.length=n):(X4M r x).length<=n+1/\∀s∈X4M r x,0<=s.to_/\X6U n (X3i s):=by
  obtain⟨a,c⟩:=X7f x.Device x.State n r.Entries 0 (r.Devices.getD x.Device.toNat ⟨ByteArray.empty,0,0⟩).First (-1) (by omega) (by omega) (by omega)
  rw[d]at a;refine⟨a,fun s b=>?_⟩;have:=c s b;unfold X6U X3i;simp only;omega
end Nore
open Go Go.Ab
namespace Nore
end Nore
open Go Go.Ab
namespace Nore
def X8k (r:CoRecord):Prop:=r.Entries.length<=10/\∀x∈r.Entries,-900000<=x.At.Lo/\x.At.Lo<=900000 /\ -900000<=x.At.Hi/\x.At.Hi<=900000
end Nore
open Go Go.Ab
namespace Nore
def LeO {β:Type} (a b:Option β):Prop:=∀r,a=some r->b=some r
theorem LeO.same {β:Type} (a:Option β):LeO a a:=fun _ h=>h
theorem LeO.cond {β:Type} {c:Bool} {a a' b b':Option β} (d:LeO a a') (e:LeO b b'):LeO (bif c then a else b) (bif c then a' else b'):=by
  cases c
  · exact e
  · exact d
theorem LeO.bind {α β:Type} {o o':Option α} {k k':α->Option β} (b:LeO o o') (c:∀a,LeO (k a) (k' a)):LeO (o.bind k) (o'.bind k'):=fun r h=>by
  cases o with
  | none=>cases h
  | some a=>rw[b a rfl];exact c a r h
theorem LeO.run {σ ω:Type} {st st':σ->Option (σ⊕ω)} (h:∀s,LeO (st s) (st' s)) (s:σ):LeO (Z8I st s) (Z8I st' s):=fun _ hr=>X9e h hr
theorem X7H (f g:((Nat->Y2)×Int×(List Zb)×Zc×Bool×Zc×Zc)->Option ((Bool×Zc×Bool×Zc×Zc)⊕(Bool×Zc×Bool×Zc×Zc))) (h:∀x,LeO (f x) (g x)) (x):LeO (X4 f x) (X4 g x):=by
  unfold X4 Xg;refine .bind (.same _) fun a=>.cond (.same _) (.cond (.same _) (.cond (.cond (.cond (.cond (.bind ?_ fun _=>.same _) (.same _)) (.same _)) (.same _)) (.same _)));unfold XM;refine LeO.run (fun s=>?_) _;unfold Xb X1;dsimp only
  repeat' (first|with_reducible exact LeO.same _|with_reducible exact LeO.bind (h _) fun _=>LeO.same _|with_reducible apply LeO.cond)
end Nore
open Go Go.Ab
namespace Nore
def X2H (u:Nat->Y2) (ap:List Zb):Con:=X7K (fun j=>(u j).Lo) (fun j=>(u j).Hi) ap
def UBd (u:Nat->Y2):Prop:=∀i,-900000<=(u i).Lo/\(u i).Lo<=900000 /\ -900000<=(u i).Hi/\(u i).Hi<=900000
def ApK (n k:Nat) (ap:List Zb):Prop:=ap.length<=k/\∀s∈ap,0<=s.from_/\s.from_<s.to_/\s.to_<n
theorem ApK.bd {n k:Nat} {ap:List Zb} (h:ApK n k ap) (c:n<=10) (a:k<=1000):X8j ap:=⟨Nat.le_trans h.1 a,fun s b=>by have:=h.2 s b;omega⟩
theorem ApK.keep {n k:Nat} {ap:List Zb} (h:ApK n k ap):ApK n (k+1) ap:=⟨Nat.le_succ_of_le h.1,h.2⟩
theorem ApK.add {n k:Nat} {ap:List Zb} (h:ApK n k ap) {f t:Nat} (c:f<t) (b:t<n):ApK n (k+1) (ap++[⟨(f:Int),(t:Int)⟩]) :=
  ⟨by rw[List.length_append,List.length_singleton];exact Nat.succ_le_succ h.1,fun s a=>by
    rcases List.mem_append.1 a with q|q
    · exact h.2 s q
    · rw[List.mem_singleton.1 q];simp only;omega⟩
theorem X5c (q:Zc) (u:Nat->Y2) (ap:List Zb) {k:Nat} (a:UBd u) (b:ApK q.CoRecord.Entries.length k ap) (d:k<=1000) (c:q.CoRecord.Entries.length<=10) :
    XI q u ap=some (spN (X5b q.CoRecord.Entries.length (X2H u ap)) (X5a q.CoRecord.Entries.length (X2H u ap)),okN q.CoRecord.Entries.length (X2H u ap)) :=
  X8I q (fun j=>(u j).Lo) (fun j=>(u j).Hi) ap (b.bd c d) (fun i=>⟨(a i).1,(a i).2.1⟩) (fun i=>⟨(a i).2.2.1,(a i).2.2.2⟩) c
def X5p (u:Nat->Y2) (f:Nat) (b:Int):Nat->Y2:=fun j=>bif Nat.beq j f then Y2.mk (u f).Lo (bif decide (b<(u f).Hi)then b else(u f).Hi)else u j
def X5q (u:Nat->Y2) (t:Nat) (a:Int):Nat->Y2:=fun j=>bif Nat.beq j t then Y2.mk (bif decide (a>(u t).Lo)then a else(u t).Lo) (u t).Hi else u j
theorem X6p (u:Nat->Y2) (f:Nat) (b:Int) (j:Nat):(X5p u f b j).Lo=(u j).Lo:=by
  unfold X5p;cases e:Nat.beq j f with
  | true=>rw[je e];rfl
  | false=>rfl
theorem X7i (u:Nat->Y2) (f:Nat) (b:Int) (j:Nat):(X5p u f b j).Hi=if j=f then(if b<(u f).Hi then b else(u f).Hi)else(u j).Hi:=by
  unfold X5p;cases e:Nat.beq j f with
  | true =>
    rw[if_pos (je e)]
    by_cases c:b<(u f).Hi<;>simp[c]
  | false=>rw[if_neg (Nat.ne_of_beq_eq_false e)];rfl
theorem X7j (u:Nat->Y2) (f:Nat) (b:Int) (j:Nat):(X5q u f b j).Hi=(u j).Hi:=by
  unfold X5q;cases e:Nat.beq j f with
  | true=>rw[je e];rfl
  | false=>rfl
theorem X7k (u:Nat->Y2) (f:Nat) (b:Int) (j:Nat):(X5q u f b j).Lo=if j=f then(if b>(u f).Lo then b else(u f).Lo)else(u j).Lo:=by
  unfold X5q;cases e:Nat.beq j f with
  | true =>
    rw[if_pos (je e)]
    by_cases c:b>(u f).Lo<;>simp[c]
  | false=>rw[if_neg (Nat.ne_of_beq_eq_false e)];rfl
theorem UBd.hi {u:Nat->Y2} (h:UBd u) (f:Nat) {b:Int} (c : -900000<=b/\b<=900000):UBd (X5p u f b):=fun i=>by
  rw[X6p,X7i];have a:=h i;have d:=h f;refine⟨a.1,a.2.1,?_⟩;split
  · split<;>omega
  · exact a.2.2
theorem UBd.lo {u:Nat->Y2} (h:UBd u) (f:Nat) {b:Int} (c : -900000<=b/\b<=900000):UBd (X5q u f b):=fun i=>by
  rw[X7k,X7j];have a:=h i;have d:=h f;refine⟨?_,?_,a.2.2⟩
  · split
    · split<;>omega
    · exact a.1
  · split
    · split<;>omega
    · exact a.2.1
theorem X8G (ap:List Zb) (f t:Nat):X3 (ap++[⟨(f:Int),(t:Int)⟩])=X3 ap++[(f,t)]:=by
  unfold X3;rw[List.map_append];rfl
theorem X7X (u:Nat->Y2) (ap:List Zb) {n f t:Nat} (ht:t<n) (a b:Int):X2H (X5q (X5p u f b) t (a+1)) (ap++[⟨(f:Int),(t:Int)⟩])=X2c n (X2H u ap) ((f:Int),t) a b:=by
  refine X7c (fun i=>?_) (fun i=>?_) ?_
  · show(X5q (X5p u f b) t (a+1) i).Lo=if t<n/\i=t then(if a+1>(u i).Lo then a+1 else(u i).Lo)else(u i).Lo
    rw[X7k,X6p,X6p]
    by_cases e:i=t
    · subst e;simp[ht]
    · rw[if_neg e,if_neg fun h=>e h.2]
  · show(X5q (X5p u f b) t (a+1) i).Hi=if 0<=(f:Int)/\i=(f:Int).toNat then(if b<(u i).Hi then b else(u i).Hi)else(u i).Hi
    rw[X7j,X7i,kS]
    by_cases e:i=f
    · subst e;simp
    · rw[if_neg e,if_neg fun h=>e h.2]
  · show X3 (ap++[⟨(f:Int),(t:Int)⟩])=if 0<=(f:Int)/\t<n then X3 ap++[((f:Int).toNat,t)]else X3 ap
    rw[if_pos ⟨by omega,ht⟩,X8G,kS]
theorem X8O (u:Nat->Y2) (ap:List Zb) {n f t:Nat} (ht:¬t<n) (a b:Int):X2H (X5p u f b) ap=X2c n (X2H u ap) ((f:Int),t) a b:=by
  refine X7c (fun i=>?_) (fun i=>?_) ?_
  · show(X5p u f b i).Lo=if t<n/\i=t then(if a+1>(u i).Lo then a+1 else(u i).Lo)else(u i).Lo
    rw[X6p,if_neg fun h=>ht h.1]
  · show(X5p u f b i).Hi=if 0<=(f:Int)/\i=(f:Int).toNat then(if b<(u i).Hi then b else(u i).Hi)else(u i).Hi
    rw[X7i,kS]
    by_cases e:i=f
    · subst e;simp
    · rw[if_neg e,if_neg fun h=>e h.2]
  · show X3 ap=if 0<=(f:Int)/\t<n then X3 ap++[((f:Int).toNat,t)]else X3 ap
    rw[if_neg fun h=>ht h.2]
theorem X8P (u:Nat->Y2) (ap:List Zb) {n t:Nat} {fr:Int} (c:¬0<=fr) (ht:t<n) (a b:Int):X2H (X5q u t (a+1)) ap=X2c n (X2H u ap) (fr,t) a b:=by
  refine X7c (fun i=>?_) (fun i=>?_) ?_
  · show(X5q u t (a+1) i).Lo=if t<n/\i=t then(if a+1>(u i).Lo then a+1 else(u i).Lo)else(u i).Lo
    rw[X7k]
    by_cases e:i=t
    · subst e;simp[ht]
    · rw[if_neg e,if_neg fun h=>e h.2]
  · show(X5q u t (a+1) i).Hi=if 0<=fr/\i=fr.toNat then(if b<(u i).Hi then b else(u i).Hi)else(u i).Hi
    rw[X7j,if_neg fun h=>c h.1]
  · show X3 ap=if 0<=fr/\t<n then X3 ap++[(fr.toNat,t)]else X3 ap
    rw[if_neg fun h=>c h.1]
theorem X8Q (u:Nat->Y2) (ap:List Zb) {n t:Nat} {fr:Int} (c:¬0<=fr) (ht:¬t<n) (a b:Int):X2H u ap=X2c n (X2H u ap) (fr,t) a b:=by
  refine X7c (fun i=>?_) (fun i=>?_) ?_
  · show(u i).Lo=if t<n/\i=t then(if a+1>(u i).Lo then a+1 else(u i).Lo)else(u i).Lo
    rw[if_neg fun h=>ht h.1]
  · show(u i).Hi=if 0<=fr/\i=fr.toNat then(if b<(u i).Hi then b else(u i).Hi)else(u i).Hi
    rw[if_neg fun h=>c h.1]
  · show X3 ap=if 0<=fr/\t<n then X3 ap++[(fr.toNat,t)]else X3 ap
    rw[if_neg fun h=>c h.1]
def X6H (n:Nat) (dev st:Int) (E:List Zq) (i:Nat) (now fr:Int):List Z6:=if i<=n then X6k dev st (E.drop i) i now fr else []
theorem X6I (n:Nat) (dev st:Int) (E:List Zq) (now fr:Int):X6H n dev st E (n+1) now fr=[]:=if_neg (by omega)
theorem X85 {n:Nat} {E:List Zq} (hE:E.length=n) (dev st:Int) {i:Nat} (hi:i<n+1) (now fr:Int) {X:Zq} (hX:(E++[Zq.mk dev (-1) (Y2.mk 0 0)]).getD i (Zq.mk 0 0 (Y2.mk 0 0))=X) :
    X6H n dev st E i now fr=if X.Device=dev then(if now=st then [⟨fr,i⟩]else [])++X6H n dev st E (i+1) X.State i else X6H n dev st E (i+1) now fr:=by
  by_cases h:i<n
  · have b:X=E[i]:=by
      rw[<-hX,XP _ _ _ (by rw[List.length_append,List.length_singleton];omega),List.getElem_append_left (by omega)]
    have d:i<=n:=by omega
    have c:i+1<=n:=by omega
    simp only[X6H,d,c,if_true];rw[jb (by omega),X42,<-b]
  · have a:i=n:=by omega
    subst a;have b:X=Zq.mk dev (-1) (Y2.mk 0 0):=by
      rw[<-hX,XP _ _ _ (by rw[List.length_append,List.length_singleton];omega),List.getElem_append_right (by omega)]
      simp
    rw[X6I,X6I,b,if_pos rfl];unfold X6H;rw[if_pos (Nat.le_refl _),jd (by omega),X5P,jo]
def X7x (q:Zc) (L:List Con):(Bool×Zc×Bool×Zc×Zc)⊕(Bool×Zc×Bool×Zc×Zc) :=
  if L.isEmpty then .inl (true,q,false,q,q)else .inr (false,q,true,q,q)
theorem X6Y (n:Nat) (c:Con):X9 n [] c=if okN n c then [X8d n c]else []:=rfl
theorem X6x (n:Nat) (w:Wit) (ws:List Wit) (c:Con):X9 n (w::ws) c=if okN n c then w.strs.flatMap fun s=>X9 n ws (X2c n c s w.a w.b)else []:=rfl
theorem X4S (q:Zc) (n:Nat) (o:q.CoRecord.Entries.length=n) (h10:n<=10) (h8:q.seen.length<=8) (hs:∀x∈q.seen,X3G q.CoRecord x)
    (ih0:((Nat->Y2)×Int×(List Zb)×Zc×Bool×Zc×Zc)->Option ((Bool×Zc×Bool×Zc×Zc)⊕(Bool×Zc×Bool×Zc×Zc))) (l:List Zr) (k:Nat) (hk:k+l.length=q.seen.length) (hd:q.seen.drop k=l)
    (ih:∀x l',l=x::l'->k+1+l'.length=q.seen.length->q.seen.drop (k+1)=l'->∀(u:Nat->Y2) (ap:List Zb),UBd u->ApK n (k+1) ap->∀c,X2H u ap=c->ih0 (u,((k+1:Nat):Int),ap,q,false,q,q)=some (X7x q (X9 n (l'.map (X2d q.CoRecord)) c)))
    (u:Nat->Y2) (ap:List Zb) (r:UBd u) (a:ApK n k ap) (c:Con) (hc:X2H u ap=c) :
    Xg ih0 u (k:Int) ap q false q q=some (X7x q (X9 n (l.map (X2d q.CoRecord)) c)):=by
  cases l with
  | nil =>
    have h:=X5c q u ap r (o▸a) (by omega) (by omega)
    rw[o,hc]at h;unfold Xg;simp only[h,jS,List.map_nil,X6Y];have c1:((k:Int)==(q.seen.length:Int))=true:=by simp only[List.length_nil,Nat.add_zero]at hk;simp[hk]
    cases okN n c with
    | false=>rfl
    | true=>simp only[Bool.not_true,jA,c1,jB];rfl
  | cons x l =>
    simp only[List.length_cons]at hk;have h:=X5c q u ap r (o▸a) (by omega) (by omega)
    rw[o,hc]at h;have p:k<q.seen.length:=by omega
    have d:q.seen.drop k=q.seen[k]::q.seen.drop (k+1):=jb p;rw[hd]at d;injection d with hx hl
    have g:X3G q.CoRecord x:=hs x (hx▸jl p);have a0:q.seen.getD k (Zr.mk 0 0 (Y2.mk 0 0))=x:=by rw[XP _ _ _ p,<-hx]
    have j:=ih x l rfl (by omega) hl.symm
    unfold Xg;simp only[h,jS,jr];show _=some (X7x q (X9 n (X2d q.CoRecord x::l.map (X2d q.CoRecord)) c));rw[X6x];cases hok:okN n c with
    | false=>rfl
    | true =>
      have c1:((k:Int)==(q.seen.length:Int))=false:=X4j (by omega)
      have c2:decide ((k:Int)<(q.seen.length:Int))=true:=by simp;omega
      have c3:decide (0<=x.Device)=true:=by simp[g.dev.1]
      have c4:decide (x.Device<(q.CoRecord.Devices.length:Int))=true:=by simp[g.dev.2]
      have c5:Nat.ble (n*(32+1)) 100000000000000=true:=by rw[Nat.ble_eq];omega
      have c6:Nat.ble ((n+1)*(32+1)) 200000000000000=true:=by rw[Nat.ble_eq];omega
      have c7:Nat.blt 0 4=true:=rfl;have t:(q.CoRecord.Entries++[Zq.mk x.Device (-1) (Y2.mk 0 0)]).length=n+1:=by rw[List.length_append,List.length_singleton,o]
      simp only[Bool.not_true,jA,c1,c2,c3,c4,o,c5,List.length_singleton,c6,c7,z0S,ju,jB,kS,a0,if_true,t];unfold XM;refine Eq.trans (X1R _ _ (n+1) (fun i (b:Int×Zb)=>((i:Int),b.1,b.2,q,false,q,q)) (fun i b => -1<=b.2.from_/\b.2.from_<i)
        (fun i b=>some (X7x q ((X6H n x.Device x.State q.CoRecord.Entries i b.1 b.2.from_).flatMap fun s=>X9 n (l.map (X2d q.CoRecord)) (X2c n c (X3i s) x.At.Lo x.At.Hi)))) ?_ ?_ 0
        ((q.CoRecord.Devices.getD x.Device.toNat ⟨ByteArray.empty,0,0⟩).First,⟨-1,0⟩) (by omega) ⟨by simp,by simp⟩) ?_
      · intro b hP R
        have e1:decide (((n+1:Nat):Int)<((n+1:Nat):Int))=false:=by simp
        simp only[Xb,X1,e1,jA,X6I];rfl
      · intro i b hi hP R hR
        obtain⟨now,s⟩:=b;obtain⟨v,hP2⟩:=hP;simp only at v hP2;generalize hX:(q.CoRecord.Entries++[Zq.mk x.Device (-1) (Y2.mk 0 0)]).getD i (Zq.mk 0 0 (Y2.mk 0 0))=X;simp only;rw[X85 o x.Device x.State hi now s.from_ hX];have e1:decide ((i:Int)<((n+1:Nat):Int))=true:=by simp;omega
        have e3:Nat.blt i (n+1)=true:=by rw[Nat.blt_eq];exact hi
        have w1:=wS i (by omega)
        have w2:=wS k (by omega)
        have w3:IntKind.wrap .i64 (x.At.Lo+1)=x.At.Lo+1:=by have:=g.lo;rw[w64]<;>omega
        have hl2:=a.1;have b1:Nat.ble (ap.length*(16+1)) 100000000000000=true:=by rw[Nat.ble_eq];omega
        have b2:Nat.ble ((ap.length+1)*(16+1)) 200000000000000=true:=by rw[Nat.ble_eq];omega
        have b3:Nat.blt 0 2=true:=rfl;have hxl:=g.lo;have w:=g.hi;simp only[Xb,X1,t,e1,e3,z0S,ju,jB,kS,w1,w2,w3,hX,o,b1,b2,b3,List.length_singleton]
        by_cases hdv:X.Device=x.Device
        · have d1:(X.Device != x.Device)=false:=by simp[hdv]
          simp only[d1,jA];rw[if_pos hdv]
          by_cases hnow:now=x.State
          · have d2:(now==x.State)=true:=by simp[hnow]
            simp only[d2,jB];rw[if_pos hnow,List.singleton_append,List.flatMap_cons];generalize hrest:((X6H n x.Device x.State q.CoRecord.Entries (i+1) X.State (i:Int)).flatMap fun s=>X9 n (l.map (X2d q.CoRecord)) (X2c n c (X3i s) x.At.Lo x.At.Hi))=rest;have m:R (((i+1:Nat):Int),X.State,Zb.mk (i:Int) (i:Int),q,false,q,q)=some (X7x q rest):=by
              rw[<-hrest];exact hR (X.State,⟨(i:Int),(i:Int)⟩) ⟨by simp only;omega,by simp only;omega⟩
            show _=some (X7x q (X9 n (l.map (X2d q.CoRecord)) (X2c n c (s.from_,(i:Int).toNat) x.At.Lo x.At.Hi)++rest));rw[kS]
            by_cases hf:0<=s.from_
            · obtain⟨f,z⟩:=Int.eq_ofNat_of_zero_le hf
              have f1:decide ((f:Int)>=0)=true:=by simp
              have f2:decide ((f:Int)<(10:Int))=true:=by simp;omega
              have f3:Nat.blt f 10=true:=by rw[Nat.blt_eq];omega
              by_cases hin:i<n
              · have g1:decide ((i:Int)<(n:Int))=true:=by simp;omega
                have g2:decide ((i:Int)<(10:Int))=true:=by simp;omega
                have g3:Nat.blt i 10=true:=by rw[Nat.blt_eq];omega
                simp only[z,f1,f2,f3,g1,g2,g3,z0S,kS,ju,jB];rw[j _ _ ?b1h1 ?b1h2 (X2c n c ((f:Int),i) x.At.Lo x.At.Hi) ?b1h3]
                case b1h1=>exact(r.hi f w).lo i (by omega)
                case b1h2=>exact a.add (by omega) hin
                case b1h3=>rw[<-hc];exact X7X u ap hin x.At.Lo x.At.Hi
                generalize X9 n (l.map (X2d q.CoRecord)) (X2c n c ((f:Int),i) x.At.Lo x.At.Hi)=L1;cases L1 with
                | nil=>exact m
                | cons y ys=>rfl
              · have g1:decide ((i:Int)<(n:Int))=false:=by simp;omega
                simp only[z,f1,f2,f3,g1,z0S,kS,ju,jB,jA];rw[j _ _ ?b2h1 ?b2h2 (X2c n c ((f:Int),i) x.At.Lo x.At.Hi) ?b2h3]
                case b2h1=>exact r.hi f w
                case b2h2=>exact a.keep
                case b2h3=>rw[<-hc];exact X8O u ap hin x.At.Lo x.At.Hi
                generalize X9 n (l.map (X2d q.CoRecord)) (X2c n c ((f:Int),i) x.At.Lo x.At.Hi)=L1;cases L1 with
                | nil=>exact m
                | cons y ys=>rfl
            · have f1:decide (s.from_>=0)=false:=by simp;omega
              by_cases hin:i<n
              · have g1:decide ((i:Int)<(n:Int))=true:=by simp;omega
                have g2:decide ((i:Int)<(10:Int))=true:=by simp;omega
                have g3:Nat.blt i 10=true:=by rw[Nat.blt_eq];omega
                simp only[f1,g1,g2,g3,z0S,kS,ju,jB,jA];rw[j _ _ ?b3h1 ?b3h2 (X2c n c (s.from_,i) x.At.Lo x.At.Hi) ?b3h3]
                case b3h1=>exact r.lo i (by omega)
                case b3h2=>exact a.keep
                case b3h3=>rw[<-hc];exact X8P u ap hf hin x.At.Lo x.At.Hi
                generalize X9 n (l.map (X2d q.CoRecord)) (X2c n c (s.from_,i) x.At.Lo x.At.Hi)=L1;cases L1 with
                | nil=>exact m
                | cons y ys=>rfl
              · have g1:decide ((i:Int)<(n:Int))=false:=by simp;omega
                simp only[f1,g1,z0S,kS,ju,jB,jA];rw[j _ _ ?b4h1 ?b4h2 (X2c n c (s.from_,i) x.At.Lo x.At.Hi) ?b4h3]
                case b4h1=>exact r
                case b4h2=>exact a.keep
                case b4h3=>rw[<-hc];exact X8Q u ap hf hin x.At.Lo x.At.Hi
                generalize X9 n (l.map (X2d q.CoRecord)) (X2c n c (s.from_,i) x.At.Lo x.At.Hi)=L1;cases L1 with
                | nil=>exact m
                | cons y ys=>rfl
          · have d2:(now==x.State)=false:=X4j hnow
            simp only[d2,jA];rw[if_neg hnow,List.nil_append];exact hR (X.State,⟨(i:Int),(i:Int)⟩) ⟨by simp only;omega,by simp only;omega⟩
        · have d1:(X.Device != x.Device)=true:=X4n hdv
          simp only[d1,jB];rw[if_neg hdv];exact hR (now,s) ⟨v,by simp only;omega⟩
      · simp only[if_true]
        show some (X7x q ((X6H n x.Device x.State q.CoRecord.Entries 0 (q.CoRecord.Devices.getD x.Device.toNat ⟨ByteArray.empty,0,0⟩).First (-1)).flatMap fun s=>X9 n (l.map (X2d q.CoRecord)) (X2c n c (X3i s) x.At.Lo x.At.Hi)))=_;have e:X6H n x.Device x.State q.CoRecord.Entries 0 (q.CoRecord.Devices.getD x.Device.toNat ⟨ByteArray.empty,0,0⟩).First (-1)=X4M q.CoRecord x:=if_pos (Nat.zero_le _);rw[e];show _=some (X7x q (((X4M q.CoRecord x).map X3i).flatMap fun s=>X9 n (l.map (X2d q.CoRecord)) (X2c n c s x.At.Lo x.At.Hi)));rw[List.flatMap_map]
theorem X5R (q:Zc) (n:Nat) (e:q.CoRecord.Entries.length=n) (a:n<=10) (b:q.seen.length<=8) (d:∀x∈q.seen,X3G q.CoRecord x) :
    ∀(l:List Zr) (k:Nat),k+l.length=q.seen.length->q.seen.drop k=l->∀(u:Nat->Y2) (ap:List Zb),UBd u->ApK n k ap->∀c,X2H u ap=c →
      Z9E X4 (l.length+1) (u,(k:Int),ap,q,false,q,q)=some (X7x q (X9 n (l.map (X2d q.CoRecord)) c))
  | [],k,hk,hd,u,ap,hu,hap,c,hc=>X4S q n e a b d (Z9E X4 0) [] k hk hd (fun _ _ h=>by cases h) u ap hu hap c hc
  | x::l,k,hk,hd,u,ap,hu,hap,c,hc=>X4S q n e a b d (Z9E X4 (l.length+1)) (x::l) k hk hd (fun x' l' h g f=>by
      injection h with _ h
      subst h;exact X5R q n e a b d l (k+1) g f) u ap hu hap c hc
theorem X7Q (q:Zc) (n:Nat) (i:q.CoRecord.Entries.length=n) (a:n<=10) (c:q.seen.length<=8) (e:∀x∈q.seen,X3G q.CoRecord x) (k:Nat) (j:k<=q.seen.length) (u:Nat->Y2) (ap:List Zb) (d:UBd u) (b:ApK n k ap) :
    W1 (u,(k:Int),ap,q,false,q,q)=some (X7x q (X9 n ((q.seen.drop k).map (X2d q.CoRecord)) (X2H u ap))) :=
  X7v (fun f g h x r hr=>X7H f g h x r hr) (X5R q n i a c e (q.seen.drop k) k (by rw[List.length_drop];omega) rfl u ap d b _ rfl)
end Nore
open Go Go.Ab
namespace Nore
theorem X7P (q:Zc) (n:Nat) (g:q.CoRecord.Entries.length=n) (a:n<=10) (f:q.seen.length<=8) (b:∀x∈q.seen,X3G q.CoRecord x) (u:Nat->Y2) (d:UBd u) :
    W0 (u,0,q,false,q,q)=some (X7x q (X9 n (q.seen.map (X2d q.CoRecord)) (X2H u []))):=by
  rw[X23];exact X4S q n g a f b W1 q.seen 0 (by omega) rfl (fun x l' h j i u ap d e c hc=>by
    rw[X7Q q n g a f b 1 (by omega) u ap d e,hc,i]) u [] d ⟨Nat.le_refl _,fun s b=>by cases b⟩ _ rfl
def X1s (r:CoRecord):Nat->Y2:=fun j=>(r.Entries.getD j (Zq.mk 0 0 (Y2.mk 0 0))).At
theorem X8n {r:CoRecord} (h:X8k r):UBd (X1s r):=fun i=>by
  unfold X1s
  by_cases hi:i<r.Entries.length
  · rw[XP _ _ _ hi]
    exact h.2 _ (jl hi)
  · have:r.Entries.getD i (Zq.mk 0 0 (Y2.mk 0 0))=Zq.mk 0 0 (Y2.mk 0 0):=by simp[List.getD,List.getElem?_eq_none (by omega:r.Entries.length<=i)]
    rw[this];simp
theorem X8m (r:CoRecord) (g:r.Entries.length<=10) (x3 x4:Zc) (x6:Bool) (x7:Zc) :
    W4 r.Entries (r.Entries.length:Int) x3 x4 x6 x7 (0,fun _=>Y2.mk 0 0)=some (X1s r):=by
  obtain⟨w,f,d⟩:=X28 (Xi r.Entries (r.Entries.length:Int) x3 x4 x6 x7) r.Entries.length (fun i (b:Nat->Y2)=>((i:Int),b))
    (fun i b=>∀j,b j=if j<i then X1s r j else Y2.mk 0 0) (fun w=>w=X1s r)
    (fun b c=>⟨b,by simp[Xi,X6],funext fun j=>by
      rw[c j];split
      · rfl
      · rename_i h
        unfold X1s;rw[show r.Entries.getD j (Zq.mk 0 0 (Y2.mk 0 0))=Zq.mk 0 0 (Y2.mk 0 0) by simp[List.getD,List.getElem?_eq_none (by omega:r.Entries.length<=j)]]⟩)
    (fun i b hi c=>by
      right;have e1:decide ((i:Int)<(r.Entries.length:Int))=true:=by simp;omega
      have e2:decide ((i:Int)<(10:Int))=true:=by simp;omega
      have e3:Nat.blt i 10=true:=by rw[Nat.blt_eq];omega
      have w1:=wS i (by omega)
      simp only[Xi,X6,e1,e2,e3,z0S,kS,ju,jB,w1];refine⟨_,rfl,fun j=>?_⟩;cases e:Nat.beq j i with
      | true =>
        have:=je e;subst this;rw[if_pos (by omega)];rfl
      | false =>
        have:=Nat.ne_of_beq_eq_false e;simp only[jA];rw[c j]
        by_cases h:j<i
        · rw[if_pos h,if_pos (by omega)]
        · rw[if_neg h,if_neg (by omega)]) 0 (fun _=>Y2.mk 0 0) (Nat.zero_le _) (fun j=>by simp)
  have a:W4 r.Entries (r.Entries.length:Int) x3 x4 x6 x7 (0,fun _=>Y2.mk 0 0)=some w:=f;rw[a,d]
theorem X78 (q:Zc) (h:X8k q.CoRecord) (a:q.seen.length<=8) (b:∀x∈q.seen,X3G q.CoRecord x) :
    X8 q=some (!(X9 q.CoRecord.Entries.length (q.seen.map (X2d q.CoRecord)) (X2H (X1s q.CoRecord) [])).isEmpty):=by
  rw[X3K];unfold Ws;rw[X2A];unfold XJ;simp only[X8m q.CoRecord h.1,jS];rw[X7P q _ rfl h.1 a b _ (X8n h)];simp only[jS];generalize X9 q.CoRecord.Entries.length (q.seen.map (X2d q.CoRecord)) (X2H (X1s q.CoRecord) [])=L;cases L with
  | nil=>rfl
  | cons y ys=>rfl
end Nore
open Go Go.Ab
namespace Nore
def mmN (n:Nat) (l t:Nat->Y2):Nat->Y2:=fun j=>if j<n then⟨if(l j).Lo<(t j).Lo then(l j).Lo else(t j).Lo,if(l j).Hi>(t j).Hi then(l j).Hi else(t j).Hi⟩else t j
def Zd1 (n:Nat) (s:Bool×(Nat->Y2)) (c:Con):Bool×(Nat->Y2):=(true,mmN n (spN c.lo c.hi) (if s.1 then s.2 else spN c.lo c.hi))
theorem X9c (n i:Nat) (l t:Nat->Y2):(fun j=>bif Nat.beq j i then Y2.mk (bif decide ((l i).Lo<(t i).Lo)then(l i).Lo else(t i).Lo) (bif decide ((l i).Hi>(t i).Hi)then(l i).Hi else(t i).Hi)else mmN i l t j)=mmN (i+1) l t:=by
  funext j;cases e:Nat.beq j i with
  | true =>
    have:=je e;subst this;have e1:j<j+1:=by omega
    simp only[mmN,jB,e1,if_true]
    by_cases h1:(l j).Lo<(t j).Lo<;>by_cases h2:(l j).Hi>(t j).Hi<;>simp[h1,h2]
  | false =>
    have:=Nat.ne_of_beq_eq_false e;simp only[mmN,jA]
    by_cases h:j<i
    · have e1:j<i+1:=by omega
      simp only[h,e1,if_true]
    · have e1:¬j<i+1:=by omega
      simp only[h,e1,if_false]
theorem X72 (n:Nat) (g:n<=10) (l t:Nat->Y2) (x2 x4:Zc) (x6:Int) (x7:Bool) (x8:List Zr) (x9:Int) (x10:CoRecord) (x11:Bool) (x12:CoRecord) :
    XN (n:Int) x2 x4 l x6 x7 x8 x9 x10 x11 x12 (0,t)=some (mmN n l t):=by
  obtain⟨w,f,e⟩:=X28 (Xc (n:Int) x2 x4 l x6 x7 x8 x9 x10 x11 x12) n (fun i (b:Nat->Y2)=>((i:Int),b)) (fun i b=>b=mmN i l t) (fun w=>w=mmN n l t)
    (fun b a=>⟨b,by simp[Xc,X0],a⟩)
    (fun i b hi a=>by
      right;have e1:decide ((i:Int)<(n:Int))=true:=by simp;omega
      have e2:decide ((i:Int)<(10:Int))=true:=by simp;omega
      have e3:Nat.blt i 10=true:=by rw[Nat.blt_eq];omega
      have w1:=wS i (by omega)
      have d:b i=t i:=by rw[a];unfold mmN;rw[if_neg (by omega)]
      simp only[Xc,X0,e1,e2,e3,z0S,kS,ju,jB,w1,d];refine⟨_,rfl,?_⟩;rw[a];exact X9c n i l t) 0 t (Nat.zero_le _) (funext fun j=>by unfold mmN;rw[if_neg (by omega)])
  have c:XN (n:Int) x2 x4 l x6 x7 x8 x9 x10 x11 x12 (0,t)=some w:=f;rw[c,e]
theorem X8w (ih:((Nat->Y2)×Int×(List Zb)×Zc×(Nat->Y2)×Zc×Int×Bool×(List Zr)×Int×CoRecord×Bool×CoRecord)->Option (Bool×Zc×(Nat->Y2)×Zc×Int×Bool×(List Zr)×Int×CoRecord×Bool×CoRecord)) (n:Nat) (a:n<=10) (l t:Nat->Y2) (x2 x4:Zc) (x6:Int) (x7:Bool) (x8:List Zr) (x9:Int) (x10:CoRecord) (x11:Bool) (x12:CoRecord) :
    Wq ih (n:Int) x2 x4 l x6 x7 x8 x9 x10 x11 x12 (0,t)=some (mmN n l t) :=
  X72 n a l t x2 x4 x6 x7 x8 x9 x10 x11 x12
theorem X8x (ih:((Nat->Y2)×Int×(List Zb)×Zc×(Nat->Y2)×Zc×Int×Bool×(List Zr)×Int×CoRecord×Bool×CoRecord)->Option (Bool×Zc×(Nat->Y2)×Zc×Int×Bool×(List Zr)×Int×CoRecord×Bool×CoRecord)) (n:Nat) (a:n<=10) (l t:Nat->Y2) (x2 x4:Zc) (x6:Int) (x7:Bool) (x8:List Zr) (x9:Int) (x10:CoRecord) (x11:Bool) (x12:CoRecord) :
    Wr ih (n:Int) x2 x4 l x6 x7 x8 x9 x10 x11 x12 (0,t)=some (mmN n l t) :=
  X72 n a l t x2 x4 x6 x7 x8 x9 x10 x11 x12
theorem X7I (f g:((Nat->Y2)×Int×(List Zb)×Zc×(Nat->Y2)×Zc×Int×Bool×(List Zr)×Int×CoRecord×Bool×CoRecord)->Option (Bool×Zc×(Nat->Y2)×Zc×Int×Bool×(List Zr)×Int×CoRecord×Bool×CoRecord)) (h:∀x,LeO (f x) (g x)) (x):LeO (X5 f x) (X5 g x):=by
  unfold X5 Xh;refine .bind (.same _) fun a=>.cond (.same _) (.cond ?_ (.cond (.cond (.cond (.cond (.bind ?_ fun _=>.same _) (.same _)) (.same _)) (.same _)) (.same _)))
  · exact .cond (.bind (.same _) fun _=>.same _) (.bind (.same _) fun _=>.same _)
  unfold XO;refine LeO.run (fun s=>?_) _;unfold Xd X2;dsimp only
  repeat' (first|with_reducible exact LeO.same _|with_reducible exact LeO.bind (h _) fun _=>LeO.same _|with_reducible apply LeO.cond)
end Nore
open Go Go.Ab
namespace Nore
def X6C (n:Nat) (q q5:Zc) (n6:Int) (b7:Bool) (l8:List Zr) (n9:Int) (r10 r12:CoRecord) (fd:Bool) (tm:Nat->Y2) (L:List Con):Bool×Zc×(Nat->Y2)×Zc×Int×Bool×(List Zr)×Int×CoRecord×Bool×CoRecord :=
  (true,q,(L.foldl (Zd1 n) (fd,tm)).2,q5,n6,b7,l8,n9,r10,(L.foldl (Zd1 n) (fd,tm)).1,r12)
theorem X6D (n:Nat) (q q5:Zc) (n6:Int) (b7:Bool) (l8:List Zr) (n9:Int) (r10 r12:CoRecord) (fd:Bool) (tm:Nat->Y2) (L M:List Con) :
    X6C n q q5 n6 b7 l8 n9 r10 r12 fd tm (L++M)=X6C n q q5 n6 b7 l8 n9 r10 r12 (L.foldl (Zd1 n) (fd,tm)).1 (L.foldl (Zd1 n) (fd,tm)).2 M:=by
  unfold X6C;rw[List.foldl_append]
theorem X4T (q q5:Zc) (n6:Int) (b7:Bool) (l8:List Zr) (n9:Int) (r10 r12:CoRecord) (n:Nat) (o:q.CoRecord.Entries.length=n) (hr:r12.Entries.length=n) (y:n<=10) (h8:q.seen.length<=8) (hs:∀x∈q.seen,X3G q.CoRecord x)
    (ih0:((Nat->Y2)×Int×(List Zb)×Zc×(Nat->Y2)×Zc×Int×Bool×(List Zr)×Int×CoRecord×Bool×CoRecord)->Option (Bool×Zc×(Nat->Y2)×Zc×Int×Bool×(List Zr)×Int×CoRecord×Bool×CoRecord)) (l:List Zr) (k:Nat) (hk:k+l.length=q.seen.length) (hd:q.seen.drop k=l)
    (ih:∀x l',l=x::l'->k+1+l'.length=q.seen.length->q.seen.drop (k+1)=l'->∀(u:Nat->Y2) (ap:List Zb),UBd u->ApK n (k+1) ap->∀c,X2H u ap=c->∀(fd:Bool) (tm:Nat->Y2),ih0 (u,((k+1:Nat):Int),ap,q,tm,q5,n6,b7,l8,n9,r10,fd,r12)=some (X6C n q q5 n6 b7 l8 n9 r10 r12 fd tm (X9 n (l'.map (X2d q.CoRecord)) c)))
    (u:Nat->Y2) (ap:List Zb) (r:UBd u) (a:ApK n k ap) (c:Con) (hc:X2H u ap=c) (fd:Bool) (tm:Nat->Y2) :
    Xh ih0 u (k:Int) ap q tm q5 n6 b7 l8 n9 r10 fd r12=some (X6C n q q5 n6 b7 l8 n9 r10 r12 fd tm (X9 n (l.map (X2d q.CoRecord)) c)):=by
  cases l with
  | nil =>
    have h:=X5c q u ap r (o▸a) (by omega) (by omega)
    rw[o,hc]at h;unfold Xh;simp only[h,jS,List.map_nil,X6Y];have c1:((k:Int)==(q.seen.length:Int))=true:=by simp only[List.length_nil,Nat.add_zero]at hk;simp[hk]
    cases okN n c with
    | false=>rfl
    | true =>
      simp only[Bool.not_true,jA,c1,jB,hr,if_true];cases fd with
      | false =>
        rw[X8w _ n y];rfl
      | true =>
        rw[X8x _ n y];rfl
  | cons x l =>
    simp only[List.length_cons]at hk;have h:=X5c q u ap r (o▸a) (by omega) (by omega)
    rw[o,hc]at h;have p:k<q.seen.length:=by omega
    have d:q.seen.drop k=q.seen[k]::q.seen.drop (k+1):=jb p;rw[hd]at d;injection d with hx hl
    have g:X3G q.CoRecord x:=hs x (hx▸jl p);have v:q.seen.getD k (Zr.mk 0 0 (Y2.mk 0 0))=x:=by rw[XP _ _ _ p,<-hx]
    have j:=ih x l rfl (by omega) hl.symm
    unfold Xh;simp only[h,jS,jr];show _=some (X6C n q q5 n6 b7 l8 n9 r10 r12 fd tm (X9 n (X2d q.CoRecord x::l.map (X2d q.CoRecord)) c));rw[X6x];cases hok:okN n c with
    | false=>rfl
    | true =>
      have c1:((k:Int)==(q.seen.length:Int))=false:=X4j (by omega)
      have c2:decide ((k:Int)<(q.seen.length:Int))=true:=by simp;omega
      have c3:decide (0<=x.Device)=true:=by simp[g.dev.1]
      have c4:decide (x.Device<(q.CoRecord.Devices.length:Int))=true:=by simp[g.dev.2]
      have c5:Nat.ble (n*(32+1)) 100000000000000=true:=by rw[Nat.ble_eq];omega
      have c6:Nat.ble ((n+1)*(32+1)) 200000000000000=true:=by rw[Nat.ble_eq];omega
      have c7:Nat.blt 0 4=true:=rfl;have w:(q.CoRecord.Entries++[Zq.mk x.Device (-1) (Y2.mk 0 0)]).length=n+1:=by rw[List.length_append,List.length_singleton,o]
      simp only[Bool.not_true,jA,c1,c2,c3,c4,o,c5,List.length_singleton,c6,c7,z0S,ju,jB,kS,v,if_true,w];unfold XO;refine Eq.trans (X1R _ _ (n+1) (fun i (b:Int×Zb×Bool×(Nat->Y2))=>((i:Int),b.1,q,b.2.2.2,q5,b.2.1,n6,b7,l8,n9,r10,b.2.2.1,r12)) (fun i b => -1<=b.2.1.from_/\b.2.1.from_<i)
        (fun i b=>some (X6C n q q5 n6 b7 l8 n9 r10 r12 b.2.2.1 b.2.2.2 ((X6H n x.Device x.State q.CoRecord.Entries i b.1 b.2.1.from_).flatMap fun s=>X9 n (l.map (X2d q.CoRecord)) (X2c n c (X3i s) x.At.Lo x.At.Hi)))) ?_ ?_ 0
        ((q.CoRecord.Devices.getD x.Device.toNat ⟨ByteArray.empty,0,0⟩).First,⟨-1,0⟩,fd,tm) (by omega) ⟨by simp,by simp⟩) ?_
      · intro b hP R
        have e1:decide (((n+1:Nat):Int)<((n+1:Nat):Int))=false:=by simp
        simp only[Xd,X2,e1,jA,X6I];rfl
      · intro i b hi hP R hR
        obtain⟨now,s,fd,tm⟩:=b;obtain⟨t,hP2⟩:=hP;simp only at t hP2;generalize hX:(q.CoRecord.Entries++[Zq.mk x.Device (-1) (Y2.mk 0 0)]).getD i (Zq.mk 0 0 (Y2.mk 0 0))=X;simp only;rw[X85 o x.Device x.State hi now s.from_ hX];have e1:decide ((i:Int)<((n+1:Nat):Int))=true:=by simp;omega
        have e3:Nat.blt i (n+1)=true:=by rw[Nat.blt_eq];exact hi
        have w1:=wS i (by omega)
        have w2:=wS k (by omega)
        have w3:IntKind.wrap .i64 (x.At.Lo+1)=x.At.Lo+1:=by have:=g.lo;rw[w64]<;>omega
        have hl2:=a.1;have b1:Nat.ble (ap.length*(16+1)) 100000000000000=true:=by rw[Nat.ble_eq];omega
        have b2:Nat.ble ((ap.length+1)*(16+1)) 200000000000000=true:=by rw[Nat.ble_eq];omega
        have b3:Nat.blt 0 2=true:=rfl;have hxl:=g.lo;have z:=g.hi;simp only[Xd,X2,w,e1,e3,z0S,ju,jB,kS,w1,w2,w3,hX,o,b1,b2,b3,List.length_singleton]
        by_cases hdv:X.Device=x.Device
        · have d1:(X.Device != x.Device)=false:=by simp[hdv]
          simp only[d1,jA];rw[if_pos hdv]
          by_cases hnow:now=x.State
          · have d2:(now==x.State)=true:=by simp[hnow]
            simp only[d2,jB];rw[if_pos hnow,List.singleton_append,List.flatMap_cons];generalize hrest:((X6H n x.Device x.State q.CoRecord.Entries (i+1) X.State (i:Int)).flatMap fun s=>X9 n (l.map (X2d q.CoRecord)) (X2c n c (X3i s) x.At.Lo x.At.Hi))=rest;have m:∀fd tm,R (((i+1:Nat):Int),X.State,q,tm,q5,Zb.mk (i:Int) (i:Int),n6,b7,l8,n9,r10,fd,r12)=some (X6C n q q5 n6 b7 l8 n9 r10 r12 fd tm rest):=fun fd tm=>by
              rw[<-hrest];exact hR (X.State,⟨(i:Int),(i:Int)⟩,fd,tm) ⟨by simp only;omega,by simp only;omega⟩
            show _=some (X6C n q q5 n6 b7 l8 n9 r10 r12 fd tm (X9 n (l.map (X2d q.CoRecord)) (X2c n c (s.from_,(i:Int).toNat) x.At.Lo x.At.Hi)++rest));rw[kS]
            by_cases hf:0<=s.from_
            · obtain⟨f,a0⟩:=Int.eq_ofNat_of_zero_le hf
              have f1:decide ((f:Int)>=0)=true:=by simp
              have f2:decide ((f:Int)<(10:Int))=true:=by simp;omega
              have f3:Nat.blt f 10=true:=by rw[Nat.blt_eq];omega
              by_cases hin:i<n
              · have g1:decide ((i:Int)<(n:Int))=true:=by simp;omega
                have g2:decide ((i:Int)<(10:Int))=true:=by simp;omega
                have g3:Nat.blt i 10=true:=by rw[Nat.blt_eq];omega
                simp only[a0,f1,f2,f3,g1,g2,g3,z0S,kS,ju,jB];rw[j _ _ ?b1h1 ?b1h2 (X2c n c ((f:Int),i) x.At.Lo x.At.Hi) ?b1h3]
                case b1h1=>exact(r.hi f z).lo i (by omega)
                case b1h2=>exact a.add (by omega) hin
                case b1h3=>rw[<-hc];exact X7X u ap hin x.At.Lo x.At.Hi
                rw[X6D];exact m _ _
              · have g1:decide ((i:Int)<(n:Int))=false:=by simp;omega
                simp only[a0,f1,f2,f3,g1,z0S,kS,ju,jB,jA];rw[j _ _ ?b2h1 ?b2h2 (X2c n c ((f:Int),i) x.At.Lo x.At.Hi) ?b2h3]
                case b2h1=>exact r.hi f z
                case b2h2=>exact a.keep
                case b2h3=>rw[<-hc];exact X8O u ap hin x.At.Lo x.At.Hi
                rw[X6D];exact m _ _
            · have f1:decide (s.from_>=0)=false:=by simp;omega
              by_cases hin:i<n
              · have g1:decide ((i:Int)<(n:Int))=true:=by simp;omega
                have g2:decide ((i:Int)<(10:Int))=true:=by simp;omega
                have g3:Nat.blt i 10=true:=by rw[Nat.blt_eq];omega
                simp only[f1,g1,g2,g3,z0S,kS,ju,jB,jA];rw[j _ _ ?b3h1 ?b3h2 (X2c n c (s.from_,i) x.At.Lo x.At.Hi) ?b3h3]
                case b3h1=>exact r.lo i (by omega)
                case b3h2=>exact a.keep
                case b3h3=>rw[<-hc];exact X8P u ap hf hin x.At.Lo x.At.Hi
                rw[X6D];exact m _ _
              · have g1:decide ((i:Int)<(n:Int))=false:=by simp;omega
                simp only[f1,g1,z0S,kS,ju,jB,jA];rw[j _ _ ?b4h1 ?b4h2 (X2c n c (s.from_,i) x.At.Lo x.At.Hi) ?b4h3]
                case b4h1=>exact r
                case b4h2=>exact a.keep
                case b4h3=>rw[<-hc];exact X8Q u ap hf hin x.At.Lo x.At.Hi
                rw[X6D];exact m _ _
          · have d2:(now==x.State)=false:=X4j hnow
            simp only[d2,jA];rw[if_neg hnow,List.nil_append];exact hR (X.State,⟨(i:Int),(i:Int)⟩,fd,tm) ⟨by simp only;omega,by simp only;omega⟩
        · have d1:(X.Device != x.Device)=true:=X4n hdv
          simp only[d1,jB];rw[if_neg hdv];exact hR (now,s,fd,tm) ⟨t,by simp only;omega⟩
      · simp only[if_true]
        show some (X6C n q q5 n6 b7 l8 n9 r10 r12 fd tm ((X6H n x.Device x.State q.CoRecord.Entries 0 (q.CoRecord.Devices.getD x.Device.toNat ⟨ByteArray.empty,0,0⟩).First (-1)).flatMap fun s=>X9 n (l.map (X2d q.CoRecord)) (X2c n c (X3i s) x.At.Lo x.At.Hi)))=_;have e:X6H n x.Device x.State q.CoRecord.Entries 0 (q.CoRecord.Devices.getD x.Device.toNat ⟨ByteArray.empty,0,0⟩).First (-1)=X4M q.CoRecord x:=if_pos (Nat.zero_le _);rw[e];show _=some (X6C n q q5 n6 b7 l8 n9 r10 r12 fd tm (((X4M q.CoRecord x).map X3i).flatMap fun s=>X9 n (l.map (X2d q.CoRecord)) (X2c n c s x.At.Lo x.At.Hi)));rw[List.flatMap_map]
theorem X5S (q q5:Zc) (n6:Int) (b7:Bool) (l8:List Zr) (n9:Int) (r10 r12:CoRecord) (n:Nat) (e:q.CoRecord.Entries.length=n) (hr:r12.Entries.length=n) (a:n<=10) (b:q.seen.length<=8) (d:∀x∈q.seen,X3G q.CoRecord x) :
    ∀(l:List Zr) (k:Nat),k+l.length=q.seen.length->q.seen.drop k=l->∀(u:Nat->Y2) (ap:List Zb),UBd u->ApK n k ap->∀c,X2H u ap=c->∀(fd:Bool) (tm:Nat->Y2),
      Z9E X5 (l.length+1) (u,(k:Int),ap,q,tm,q5,n6,b7,l8,n9,r10,fd,r12)=some (X6C n q q5 n6 b7 l8 n9 r10 r12 fd tm (X9 n (l.map (X2d q.CoRecord)) c))
  | [],k,hk,hd,u,ap,hu,hap,c,hc,fd,tm=>X4T q q5 n6 b7 l8 n9 r10 r12 n e hr a b d (Z9E X5 0) [] k hk hd (fun _ _ h=>by cases h) u ap hu hap c hc fd tm
  | x::l,k,hk,hd,u,ap,hu,hap,c,hc,fd,tm=>X4T q q5 n6 b7 l8 n9 r10 r12 n e hr a b d (Z9E X5 (l.length+1)) (x::l) k hk hd (fun x' l' h g f=>by
      injection h with _ h
      subst h;exact X5S q q5 n6 b7 l8 n9 r10 r12 n e hr a b d l (k+1) g f) u ap hu hap c hc fd tm
theorem X7S (q q5:Zc) (n6:Int) (b7:Bool) (l8:List Zr) (n9:Int) (r10 r12:CoRecord) (n:Nat) (i:q.CoRecord.Entries.length=n) (hr:r12.Entries.length=n) (a:n<=10) (c:q.seen.length<=8) (e:∀x∈q.seen,X3G q.CoRecord x) (k:Nat) (j:k<=q.seen.length) (u:Nat->Y2) (ap:List Zb) (d:UBd u) (b:ApK n k ap) (fd:Bool) (tm:Nat->Y2) :
    W3 (u,(k:Int),ap,q,tm,q5,n6,b7,l8,n9,r10,fd,r12)=some (X6C n q q5 n6 b7 l8 n9 r10 r12 fd tm (X9 n ((q.seen.drop k).map (X2d q.CoRecord)) (X2H u ap))) :=
  X7v (fun f g h x r hr=>X7I f g h x r hr) (X5S q q5 n6 b7 l8 n9 r10 r12 n i hr a c e (q.seen.drop k) k (by rw[List.length_drop];omega) rfl u ap d b _ rfl fd tm)
end Nore
open Go Go.Ab
namespace Nore
theorem X7R (q q5:Zc) (n6:Int) (b7:Bool) (l8:List Zr) (n9:Int) (r10 r12:CoRecord) (n:Nat) (g:q.CoRecord.Entries.length=n) (hr:r12.Entries.length=n) (a:n<=10) (f:q.seen.length<=8) (b:∀x∈q.seen,X3G q.CoRecord x) (u:Nat->Y2) (d:UBd u) (fd:Bool) (tm:Nat->Y2) :
    W2 (u,0,q,tm,q5,n6,b7,l8,n9,r10,fd,r12)=some (X6C n q q5 n6 b7 l8 n9 r10 r12 fd tm (X9 n (q.seen.map (X2d q.CoRecord)) (X2H u []))):=by
  rw[X25];exact X4T q q5 n6 b7 l8 n9 r10 r12 n g hr a f b W3 q.seen 0 (by omega) rfl (fun x l' h j i u ap d e c hc fd tm=>by
    rw[X7S q q5 n6 b7 l8 n9 r10 r12 n g hr a f b 1 (by omega) u ap d e,hc,i]) u [] d ⟨Nat.le_refl _,fun s b=>by cases b⟩ _ rfl fd tm
theorem X99 (r:CoRecord) (a:r.Entries.length<=10) (x4:Nat->Y2) (x5:Zc) (x6:Int) (x7:Bool) (x8:List Zr) (x9:Int) (x10:CoRecord) (x11:Zc) (x12:Bool) (x13:CoRecord) :
    WJ r.Entries (r.Entries.length:Int) x4 x5 x6 x7 x8 x9 x10 x11 x12 x13 (0,fun _=>Y2.mk 0 0)=some (X1s r) :=
  X8m r a x5 x5 x7 x5
theorem X5X (q q1:Zc) (tm:Nat->Y2) (n6:Int) (b7:Bool) (l8:List Zr) (n9:Int) (r10 r12:CoRecord) (fd:Bool) (h:X8k q.CoRecord) (hr:r12.Entries.length=q.CoRecord.Entries.length) (a:q.seen.length<=8) (b:∀x∈q.seen,X3G q.CoRecord x) :
    Wf (tm,q1,n6,b7,l8,n9,r10,q,fd,r12)=some (((X9 q.CoRecord.Entries.length (q.seen.map (X2d q.CoRecord)) (X2H (X1s q.CoRecord) [])).foldl (Zd1 q.CoRecord.Entries.length) (fd,tm)).2,q1,n6,b7,l8,n9,r10,q,
      ((X9 q.CoRecord.Entries.length (q.seen.map (X2d q.CoRecord)) (X2H (X1s q.CoRecord) [])).foldl (Zd1 q.CoRecord.Entries.length) (fd,tm)).1,r12):=by
  rw[X2C];unfold XK;simp only[X99 q.CoRecord h.1,jS];rw[X7R q q1 n6 b7 l8 n9 r10 r12 _ rfl hr h.1 a b _ (X8n h)];rfl
end Nore
open Go Go.Ab
namespace Nore
def X3T (i:Nat) (s:Y2) (c:Con):Y2:=⟨if c.lo i<s.Lo then c.lo i else s.Lo,if c.hi i>s.Hi then c.hi i else s.Hi⟩
theorem X7n (n:Nat):∀(L:List Con) (t:Nat->Y2),L.foldl (Zd1 n) (true,t)=(true,fun j=>if j<n then L.foldl (X3T j) (t j)else t j)
  | [],t=>by
    simp only[List.foldl_nil,ite_self]
  | c::L,t=>by
    rw[List.foldl_cons];show L.foldl (Zd1 n) (true,mmN n (spN c.lo c.hi) t)=_;rw[X7n n L];congr 1;funext j
    by_cases h:j<n
    · rw[if_pos h,if_pos h,List.foldl_cons]
      congr 1;unfold mmN;rw[if_pos h];rfl
    · rw[if_neg h,if_neg h]
      unfold mmN;rw[if_neg h]
theorem X8o (n:Nat) (c:Con) (L:List Con) (tm:Nat->Y2):(c::L).foldl (Zd1 n) (false,tm)=(true,fun j=>if j<n then(c::L).foldl (X3T j) ⟨c.lo j,c.hi j⟩else⟨c.lo j,c.hi j⟩):=by
  rw[List.foldl_cons];show L.foldl (Zd1 n) (true,mmN n (spN c.lo c.hi) (spN c.lo c.hi))=_;rw[X7n n L];congr 1;funext j
  by_cases h:j<n
  · rw[if_pos h,if_pos h,List.foldl_cons]
    congr 1;unfold mmN;rw[if_pos h];rfl
  · rw[if_neg h,if_neg h]
    unfold mmN;rw[if_neg h];rfl
def X3v (n:Nat) (L:List Con):List Y2:=(List.range n).map fun j=>L.foldl (X3T j) ⟨(L.headD ⟨fun _=>0,fun _=>0,[]⟩).lo j,(L.headD ⟨fun _=>0,fun _=>0,[]⟩).hi j⟩
structure X7T (r:CoRecord) (l:List Zr):Prop where
  ent:X8k r
  many:l.length<=8
  seen:∀x∈l,X3G r x
theorem X8M (r:CoRecord) (l:List Zr):∀w∈l.map (X2d r),X8N r.Entries.length w:=fun w a=>by
  obtain⟨x,_,rfl⟩:=List.mem_map.1 a;intro s b;obtain⟨t,ht,rfl⟩:=List.mem_map.1 b;exact((X9h x rfl).2 t ht).2
def X36 (r:CoRecord) (l:List Zr):List Con:=X9 r.Entries.length (l.map (X2d r)) (X2H (X1s r) [])
theorem X4t {r:CoRecord} {l:List Zr} (h:X7T r l):X8 ⟨r,l⟩=some (!(X36 r l).isEmpty):=X78 ⟨r,l⟩ h.ent h.many h.seen
def X7E (r:CoRecord) (l:List Zr):List Y2×Int:=if(X36 r l).isEmpty then([],9)else(X3v r.Entries.length (X36 r l),0)
theorem X6M {r:CoRecord} {l:List Zr} (h:X7T r l) (hc:X1L r l=some (⟨r,l⟩,0)):X45 r l=some (X7E r l):=by
  rw[X4q];unfold X1J;have e0:((0:Int) != 0)=false:=rfl;simp only[hc,jS,e0,jA];rw[X5X ⟨r,l⟩ ⟨r,l⟩ _ 0 false l 0 r r false h.ent rfl h.many h.seen];unfold X7E;show Option.bind (some (((X36 r l).foldl (Zd1 r.Entries.length) (false,fun _=>Y2.mk 0 0)).2,(⟨r,l⟩:Zc),(0:Int),false,l,(0:Int),r,(⟨r,l⟩:Zc),((X36 r l).foldl (Zd1 r.Entries.length) (false,fun _=>Y2.mk 0 0)).1,r)) _=_;have e:=h.ent.1;cases hA:X36 r l with
  | nil=>rfl
  | cons c L =>
    rw[X8o];have c1:decide ((r.Entries.length:Int)<=(10:Int))=true:=by simp;omega
    have c2:Nat.blt 0 2=true:=rfl;have d:((List.map (fun j=>if j<r.Entries.length then(c::L).foldl (X3T j) ⟨c.lo j,c.hi j⟩else⟨c.lo j,c.hi j⟩) (List.range 10)).take r.Entries.length)=X3v r.Entries.length (c::L):=by
      rw[<-List.map_take,List.take_range,Nat.min_eq_left e];unfold X3v;refine List.map_congr_left fun j b=>?_;rw[if_pos (List.mem_range.1 b)];rfl
    have a:(X3v r.Entries.length (c::L)).length=r.Entries.length:=by unfold X3v;simp
    have c3:Nat.ble (r.Entries.length*(16+1)) 100000000000000=true:=by rw[Nat.ble_eq];omega
    simp only[jS,Bool.not_true,jA,z0S,c1,ju,jB,kS,d,List.drop_zero,a,c2,c3];rfl
end Nore
open Go Go.Ab
namespace Nore
theorem Wh (lo up:Int) (l:List Int) (g:l.length<1000000):XW lo up l=some (WP lo up l):=by
  rw[X4W];unfold X1M;have key:=X1R (WN (↑l.length) l up lo) (fun o3=>Sum.elim (fun y4:Int=>some (decide (y4>=0))) (fun _=>some (decide ((-1:Int)>=0))) o3) l.length (fun i (_:Unit)=>(i:Int)) (fun _ _=>True) (fun i _=>some (WP lo up (l.drop i)))
    (by
      intro b _ R;simp[WN,WX,X3f])
    (by
      intro i b hi _ R e;have a:=e () trivial;simp only[WN,WX];rw[jb hi];simp only[kS,XP _ _ _ hi,X2G];have c:=wS i (by omega)
      rw[c];have f:decide ((i:Int)<↑l.length)=true:=by simp[hi]
      have d:=z0S i;simp only[f,d,ju,jB]
      by_cases h3:l[i]<lo
      · simp[h3]
      · by_cases h4:l[i]>up
        · simp[h3,h4]
        · simp[h3,h4];exact a)
  exact(key 0 () (by omega) trivial).trans (by simp)
theorem X4l (n lo hi:Int):X4d n lo hi=some (inN n lo hi):=by
  rw[X6Z];unfold X3R inN
  by_cases h:lo<=n<;>simp[h]
def X17 (r:CoRecord) (dev st:Int) (s:Y2):Int :=
  if WP 0 ((r.Devices.length:Int)-1) [dev]then 4 else
  if WP 0 (IntKind.wrap .i64 ((r.Devices.getD dev.toNat (Zm.mk ByteArray.empty 0 0)).States-1)) [st]then 7 else
  if WP 0 9999 [s.Lo,s.Hi]then 7 else if s.Lo>s.Hi then 2 else 0
theorem X27 {lo hi n:Int} (h:WP lo hi [n]=false):lo<=n/\n<=hi:=by
  simp only[X2G,X3f,Bool.or_false,Bool.or_eq_false_iff,decide_eq_false_iff_not]at h;omega
theorem X8F {lo hi n m:Int} (h:WP lo hi [n,m]=false):lo<=n/\n<=hi/\lo<=m/\m<=hi:=by
  simp only[X2G,X3f,Bool.or_false,Bool.or_eq_false_iff,decide_eq_false_iff_not]at h;omega
theorem X5z (r:CoRecord) (x:Zr) (hr:r.Devices.length<=1000000):X3Z r x=some (X17 r x.Device x.State x.At):=by
  rw[X61];unfold X2T;have w1:IntKind.wrap .i64 ((r.Devices.length:Int)-1)=(r.Devices.length:Int)-1:=by rw[w64]<;>omega
  rw[w1,Wh _ _ _ (by simp)]
  simp only[jS];unfold X17;cases h1:WP 0 ((r.Devices.length:Int)-1) [x.Device]with
  | true=>rfl
  | false =>
    have h:=X27 h1;have c1:decide (0<=x.Device)=true:=by simp[h.1]
    have c2:decide (x.Device<(r.Devices.length:Int))=true:=by simp;omega
    simp only[jA,c1,c2,ju,jB];rw[Wh _ _ _ (by simp)]
    simp only[jS];cases h2:WP 0 (IntKind.wrap .i64 ((r.Devices.getD x.Device.toNat (Zm.mk ByteArray.empty 0 0)).States-1)) [x.State]with
    | true=>rfl
    | false =>
      simp only[jA];rw[Wh _ _ _ (by simp)]
      simp only[jS];cases h3:WP 0 9999 [x.At.Lo,x.At.Hi]with
      | true=>rfl
      | false=>by_cases h4:x.At.Lo>x.At.Hi<;>simp[h4]
theorem X5M (r:CoRecord) (dev st:Int) (s:Y2) (hr:r.Devices.length<=1000000):X4D r dev st s=some (X17 r dev st s):=by
  rw[X6e];unfold X2X;have w1:IntKind.wrap .i64 ((r.Devices.length:Int)-1)=(r.Devices.length:Int)-1:=by rw[w64]<;>omega
  rw[w1,X4l,X5U];simp only[jS];unfold X17;cases h1:WP 0 ((r.Devices.length:Int)-1) [dev]with
  | true=>rfl
  | false =>
    have h:=X27 h1;have c1:decide (0<=dev)=true:=by simp[h.1]
    have c2:decide (dev<(r.Devices.length:Int))=true:=by simp;omega
    simp only[Bool.not_false,Bool.not_true,jA,c1,c2,ju,jB];rw[X4l,X5U];simp only[jS];cases h2:WP 0 (IntKind.wrap .i64 ((r.Devices.getD dev.toNat (Zm.mk ByteArray.empty 0 0)).States-1)) [st]with
    | true=>rfl
    | false =>
      simp only[Bool.not_false,Bool.not_true,jA];unfold X4L;rw[X7a _ _ _ (by simp)]
      simp only[jS,X5V];cases h3:WP 0 9999 [s.Lo,s.Hi]with
      | true=>rfl
      | false=>by_cases h4:s.Lo>s.Hi<;>simp[h4]
def X1z {α:Type} (f:Nat->α->Int):Nat->List α->Int×Int
  | _,[]=>(0,0)
  | i,x::xs=>if f i x≠0 then((i:Int),f i x)else X1z f (i+1) xs
theorem X2i {α:Type} (f:Nat->α->Int) (i:Nat) (x:α) (xs:List α):X1z f i (x::xs)=if f i x≠0 then((i:Int),f i x)else X1z f (i+1) xs:=rfl
def Xm:Int->Nat->List Zq->Int×Int
  | _,_,[]=>(0,0)
  | least,i,x::xs=>if(if x.At.Lo>least then x.At.Lo else least)>x.At.Hi then((i:Int),9)else Xm (if x.At.Lo>least then x.At.Lo else least) (i+1) xs
theorem X4a (least:Int) (i:Nat) (x:Zq) (xs:List Zq):Xm least i (x::xs)=if(if x.At.Lo>least then x.At.Lo else least)>x.At.Hi then((i:Int),9)else Xm (if x.At.Lo>least then x.At.Lo else least) (i+1) xs:=rfl
def X7M (names:List ByteArray) (d:Zm):Int :=
  if X5B d.Name names≠0 then X5B d.Name names else if WP 2 4 [d.States]||WP 0 (IntKind.wrap .i64 (d.States-1)) [d.First]then 7 else 0
def X3C (r:CoRecord):Int×Int:=X1z (fun i d=>X7M ((r.Devices.take i).map (·.Name)) d) 0 r.Devices
def X2L (r:CoRecord):Int×Int:=X1z (fun _ x=>X17 r x.Device x.State x.At) 0 r.Entries
def X13 (r:CoRecord):Int×Int×Int :=
  if WP 1 4 [(r.Devices.length:Int)]||decide ((r.Entries.length:Int)>10)then(1,0,3)else
  if(X3C r).2≠0 then(2,(X3C r).1,(X3C r).2)else
  if(X2L r).2≠0 then(3,(X2L r).1,(X2L r).2)else
  if(Xm 0 0 r.Entries).2≠0 then(3,(Xm 0 0 r.Entries).1,(Xm 0 0 r.Entries).2)else(0,0,0)
def WH (r:CoRecord) (l:List Zr):Int×Int :=
  if(X13 r).2.2≠0 then(0,(X13 r).2.2)else if(l.length:Int)>4 then(0,3)else X1z (fun _ x=>X17 r x.Device x.State x.At) 0 l
theorem X6O (r:CoRecord) (d:r.Devices.length<=1000000) (f:r.Entries.length<=1000000):W8 (r.Entries,r)=some ((X2L r).1,(X2L r).2,r):=by
  rw[X2e];unfold Xx Wz;refine Eq.trans (X1R _ _ r.Entries.length (fun i (_:Unit)=>(i:Int)) (fun _ _=>True) (fun i _=>some ((X1z (fun _ x=>X17 r x.Device x.State x.At) i (r.Entries.drop i)).1,(X1z (fun _ x=>X17 r x.Device x.State x.At) i (r.Entries.drop i)).2,r)) ?_ ?_ 0 () (Nat.zero_le _) trivial) rfl
  · intro b _ R
    have e1:decide ((r.Entries.length:Int)<(r.Entries.length:Int))=false:=by simp
    simp only[Xt,Xo,e1,jA,List.drop_length];rfl
  · intro i b hi _ R c
    have a:=c () trivial;have e1:decide ((i:Int)<(r.Entries.length:Int))=true:=by simp[hi]
    have w1:=wS i (by omega)
    rw[jb hi,X2i];simp only[Xt,Xo,e1,z0S,kS,ju,jB,XP _ _ _ hi,X5z r _ d,jS,w1];generalize X17 r r.Entries[i].Device r.Entries[i].State r.Entries[i].At=e
    by_cases he:e=0
    · have c1:(e != 0)=false:=by simp[he]
      simp only[c1,jA,if_neg (fun h:e≠0=>h he)];exact a
    · have c1:(e != 0)=true:=X4n he
      simp only[c1,jB,if_pos he];rfl
theorem X6P (r:CoRecord) (l:List Zr) (d:r.Devices.length<=1000000) (f:l.length<=1000000):We (l,r)=some ((X1z (fun _ (x:Zr)=>X17 r x.Device x.State x.At) 0 l).1,(X1z (fun _ (x:Zr)=>X17 r x.Device x.State x.At) 0 l).2,r):=by
  rw[X2y];unfold XH WI;refine Eq.trans (X1R _ _ l.length (fun i (_:Unit)=>(i:Int)) (fun _ _=>True) (fun i _=>some ((X1z (fun _ (x:Zr)=>X17 r x.Device x.State x.At) i (l.drop i)).1,(X1z (fun _ (x:Zr)=>X17 r x.Device x.State x.At) i (l.drop i)).2,r)) ?_ ?_ 0 () (Nat.zero_le _) trivial) rfl
  · intro b _ R
    have e1:decide ((l.length:Int)<(l.length:Int))=false:=by simp
    simp only[Xv,Xs,e1,jA,List.drop_length];rfl
  · intro i b hi _ R c
    have a:=c () trivial;have e1:decide ((i:Int)<(l.length:Int))=true:=by simp[hi]
    have w1:=wS i (by omega)
    rw[jb hi,X2i];simp only[Xv,Xs,e1,z0S,kS,ju,jB,XP _ _ _ hi,X5z r _ d,jS,w1];generalize X17 r l[i].Device l[i].State l[i].At=e
    by_cases he:e=0
    · have c1:(e != 0)=false:=by simp[he]
      simp only[c1,jA,if_neg (fun h:e≠0=>h he)];exact a
    · have c1:(e != 0)=true:=X4n he
      simp only[c1,jB,if_pos he];rfl
theorem X6t (l:List Zq) (g:l.length<=1000000):∃q,W9 (l,0)=some ((Xm 0 0 l).1,(Xm 0 0 l).2,q):=by
  rw[X2g];unfold Xy WA;simp only
  let k:((Int×Int×Int×Zq×Zq)⊕Int)->Option (Int×Int×Int):=fun o41=>Sum.elim (fun y42=>some (y42.snd.fst,y42.fst,y42.snd.snd.fst)) (fun y43=>some (0,0,y43)) o41
  obtain⟨w,e,d⟩:=X28 (X7 l (l.length:Int)) l.length (fun i (b:Int)=>((i:Int),b)) (fun i b=>Xm b i (l.drop i)=Xm 0 0 l) (fun w=>∃q,k w=some ((Xm 0 0 l).1,(Xm 0 0 l).2,q))
    (fun b a=>by
      have e1:decide ((l.length:Int)<(l.length:Int))=false:=by simp
      simp only[X7,Xp,e1,jA];refine⟨_,rfl,b,?_⟩;rw[List.drop_length]at a;rw[<-a];rfl)
    (fun i b hi a=>by
      have e1:decide ((i:Int)<(l.length:Int))=true:=by simp[hi]
      have w1:=wS i (by omega)
      rw[jb hi,X4a]at a;have f:(bif decide (l[i].At.Lo>b)then l[i].At.Lo else b)=(if l[i].At.Lo>b then l[i].At.Lo else b):=by by_cases h:l[i].At.Lo>b<;>simp[h]
      simp only[X7,Xp,e1,z0S,kS,ju,jB,XP _ _ _ hi,w1,f]
      by_cases hc:(if l[i].At.Lo>b then l[i].At.Lo else b)>l[i].At.Hi
      · left
        rw[if_pos hc]at a;simp only[hc,decide_true,jB];refine⟨_,rfl,(if l[i].At.Lo>b then l[i].At.Lo else b),?_⟩;rw[<-a];rfl
      · right
        rw[if_neg hc]at a;simp only[hc,decide_false,jA];exact⟨_,rfl,a⟩) 0 0 (Nat.zero_le _) rfl
  have c:Z8I (X7 l (l.length:Int)) (0,0)=some w:=e;rw[c];exact d
theorem X7m (l:List Zm) (j:l.length<=1000000) (d:Zm) :
    (∃(i:Nat) (y:Zm),Xn (l.length:Int) l d 0=some (.inl ((i:Int),y))/\d.Name∈l.map (·.Name))\/(Xn (l.length:Int) l d 0=some (.inr ())/\¬d.Name∈l.map (·.Name)):=by
  obtain⟨w,f,e⟩:=X28 (Xa (l.length:Int) l d) l.length (fun i (_:Unit)=>(i:Int)) (fun i _=>∀x∈l.take i,x.Name≠d.Name)
    (fun w=>(∃(i:Nat) (y:Zm),w=.inl ((i:Int),y)/\d.Name∈l.map (·.Name))\/(w=.inr ()/\¬d.Name∈l.map (·.Name)))
    (fun _ c=>by
      have e1:decide ((l.length:Int)<(l.length:Int))=false:=by simp
      simp only[Xa,Xl,e1,jA];refine⟨_,rfl,.inr ⟨rfl,fun h=>?_⟩⟩;obtain⟨x,a,g⟩:=List.mem_map.1 h;rw[List.take_length]at c;exact c x a g)
    (fun i _ hi c=>by
      have e1:decide ((i:Int)<(l.length:Int))=true:=by simp[hi]
      have w1:=wS i (by omega)
      simp only[Xa,Xl,e1,z0S,kS,ju,jB,XP _ _ _ hi,w1]
      by_cases hn:l[i].Name=d.Name
      · left
        have c1:(l[i].Name.toList==d.Name.toList)=true:=by rw[hn];simp
        simp only[c1,jB];exact⟨_,rfl,.inl ⟨i,_,rfl,List.mem_map.2 ⟨l[i],jl hi,hn⟩⟩⟩
      · right
        have c1:(l[i].Name.toList==d.Name.toList)=false:=beq_eq_false_iff_ne.2 fun h=>hn (X7F h);simp only[c1,jA];refine⟨(),by first|rfl|trivial,fun x a=>?_⟩
        rw[List.take_succ_eq_append_getElem hi]at a;rcases List.mem_append.1 a with q|q
        · exact c x q
        · rw[List.mem_singleton.1 q];exact hn) 0 () (Nat.zero_le _) (fun x a=>by simp at a)
  have b:Xn (l.length:Int) l d 0=some w:=f;rcases e with⟨i,y,rfl,h⟩|⟨rfl,h⟩
  · exact .inl ⟨i,y,b,h⟩
  · exact .inr ⟨b,h⟩
theorem X6N (r:CoRecord) (k:r.Devices.length<=1000000):XZ (r.Devices,r)=some ((X3C r).1,(X3C r).2,r):=by
  rw[X21];unfold Xu Wp;refine Eq.trans (X1R _ _ r.Devices.length (fun i (_:Unit)=>(i:Int)) (fun _ _=>True) (fun i _=>some ((X1z (fun i d=>X7M ((r.Devices.take i).map (·.Name)) d) i (r.Devices.drop i)).1,(X1z (fun i d=>X7M ((r.Devices.take i).map (·.Name)) d) i (r.Devices.drop i)).2,r)) ?_ ?_ 0 () (Nat.zero_le _) trivial) rfl
  · intro b _ R
    have e1:decide ((r.Devices.length:Int)<(r.Devices.length:Int))=false:=by simp
    simp only[Xr,Xk,e1,jA,List.drop_length];rfl
  · intro i b hi _ R h
    have g:=h () trivial;have e1:decide ((i:Int)<(r.Devices.length:Int))=true:=by simp[hi]
    have e2:decide ((i:Int)<=(r.Devices.length:Int))=true:=by simp;omega
    have w1:=wS i (by omega)
    rw[jb hi,X2i];simp only[Xr,Xk,e1,e2,z0S,kS,ju,jB,XP _ _ _ hi,X7J,jS,w1,List.drop_zero];generalize r.Devices[i]=d;have c:X7M ((r.Devices.take i).map (·.Name)) d=if X6b d.Name then(if d.Name∈(r.Devices.take i).map (·.Name)then 5 else if WP 2 4 [d.States]||WP 0 (IntKind.wrap .i64 (d.States-1)) [d.First]then 7 else 0)else 6:=by
      unfold X7M X5B;generalize (r.Devices.take i).map (·.Name)=names;cases q1:X6b d.Name with
      | false=>rfl
      | true =>
        by_cases q2:d.Name∈names
        · simp only[q2,if_true];rfl
        · simp only[q2,if_true,if_false];rfl
    rw[c];cases hn:X6b d.Name with
    | false=>rfl
    | true =>
      simp only[Bool.not_true,jA,if_true];have a:(r.Devices.take i).length<=1000000:=by rw[List.length_take];omega
      rcases X7m (r.Devices.take i) a d with⟨j,y,f,e⟩|⟨f,e⟩
      · have c1:decide ((j:Int)>=0)=true:=by simp
        simp only[f,jS,jw,c1,jB,if_pos e];rfl
      · simp only[f,jS,jy,if_neg e]
        rw[Wh _ _ _ (by simp),Wh _ _ _ (by simp)]
        simp only[jS];cases q1:WP 2 4 [d.States]with
        | true=>rfl
        | false =>
          cases q2:WP 0 (IntKind.wrap .i64 (d.States-1)) [d.First]with
          | true=>rfl
          | false=>exact g
theorem X76 (r:CoRecord):X4H r=some (X13 r):=by
  rw[X5t];unfold X2w;rw[Wh _ _ _ (by simp)]
  simp only[jS];unfold X13;cases q1:WP 1 4 [(r.Devices.length:Int)]with
  | true=>rfl
  | false =>
    have d:=X27 q1;have b:r.Devices.length<=1000000:=by omega
    by_cases q2:(r.Entries.length:Int)>10
    · simp only[jA,q2,decide_true,jB,Bool.false_or,if_true]
    · have a:r.Entries.length<=1000000:=by omega
      simp only[jA,q2,decide_false,Bool.false_or,X6N r b,jS];simp only[jg,if_false]
      by_cases q3:(X3C r).2=0
      · have c3:((X3C r).2 != 0)=false:=by simp[q3]
        simp only[c3,jA,X6O r b a,jS,if_neg (fun h:(X3C r).2≠0=>h q3)]
        by_cases q4:(X2L r).2=0
        · have c4:((X2L r).2 != 0)=false:=by simp[q4]
          obtain⟨q,c⟩:=X6t r.Entries a;simp only[c4,jA,c,jS,if_neg (fun h:(X2L r).2≠0=>h q4)]
          by_cases q5:(Xm 0 0 r.Entries).2=0
          · have c5:((Xm 0 0 r.Entries).2 != 0)=false:=by simp[q5]
            simp only[c5,jA,if_neg (fun h:(Xm 0 0 r.Entries).2≠0=>h q5)]
          · have c5:((Xm 0 0 r.Entries).2 != 0)=true:=X4n q5
            simp only[c5,jB,if_pos q5]
        · have c4:((X2L r).2 != 0)=true:=X4n q4
          simp only[c4,jB,if_pos q4]
      · have c3:((X3C r).2 != 0)=true:=X4n q3
        simp only[c3,jB,if_pos q3]
end Nore
open Go Go.Ab
namespace Nore
theorem X7b (r:CoRecord):X4c r=some (X13 r):=by
  rw[X5K];unfold X2E;rw[X4l,X5U];simp only[jS];unfold X13;cases q1:WP 1 4 [(r.Devices.length:Int)]with
  | true=>rfl
  | false =>
    have n:=X27 q1;have q:r.Devices.length<=4:=by omega
    by_cases q2:(r.Entries.length:Int)>10
    · simp only[Bool.not_false,Bool.not_true,jA,q2,decide_true,jB,Bool.false_or,if_true]
    · have p:r.Entries.length<=10:=by omega
      simp only[Bool.not_false,Bool.not_true,jA,q2,decide_false,Bool.false_or,jg,if_false];unfold X3s;refine Eq.trans (X1R _ _ r.Devices.length (fun i (b:List ByteArray)=>((i:Int),b)) (fun i b=>b=(r.Devices.take i).map (·.Name))
        (fun i _=>if(X1z (fun i d=>X7M ((r.Devices.take i).map (·.Name)) d) i (r.Devices.drop i)).2≠0 then some (2,(X1z (fun i d=>X7M ((r.Devices.take i).map (·.Name)) d) i (r.Devices.drop i)).1,(X1z (fun i d=>X7M ((r.Devices.take i).map (·.Name)) d) i (r.Devices.drop i)).2)else
          some (if(X2L r).2≠0 then(3,(X2L r).1,(X2L r).2)else if(Xm 0 0 r.Entries).2≠0 then(3,(Xm 0 0 r.Entries).1,(Xm 0 0 r.Entries).2)else(0,0,0))) ?_ ?_ 0 [] (Nat.zero_le _) rfl) ?_
      · intro b _ R
        have e1:decide ((r.Devices.length:Int)<(r.Devices.length:Int))=false:=by simp
        simp only[X1O,X1g,e1,jA,List.drop_length];show Option.bind (X2s r 0) _=some (if(X2L r).2≠0 then(3,(X2L r).1,(X2L r).2)else if(Xm 0 0 r.Entries).2≠0 then(3,(Xm 0 0 r.Entries).1,(Xm 0 0 r.Entries).2)else(0,0,0));unfold X2s;refine Eq.trans (X1R _ _ r.Entries.length (fun i (_:Unit)=>(i:Int)) (fun _ _=>True)
          (fun i _=>some (if(X1z (fun _ (x:Zq)=>X17 r x.Device x.State x.At) i (r.Entries.drop i)).2≠0 then(3,(X1z (fun _ (x:Zq)=>X17 r x.Device x.State x.At) i (r.Entries.drop i)).1,(X1z (fun _ (x:Zq)=>X17 r x.Device x.State x.At) i (r.Entries.drop i)).2)else if(Xm 0 0 r.Entries).2≠0 then(3,(Xm 0 0 r.Entries).1,(Xm 0 0 r.Entries).2)else(0,0,0))) ?_ ?_ 0 () (Nat.zero_le _) trivial) rfl
        · intro b _ R
          have e1:decide ((r.Entries.length:Int)<(r.Entries.length:Int))=false:=by simp
          simp only[X1P,X1h,e1,jA,List.drop_length];show Option.bind (X2t r (0,0)) _=some (if(Xm 0 0 r.Entries).2≠0 then(3,(Xm 0 0 r.Entries).1,(Xm 0 0 r.Entries).2)else(0,0,0));unfold X2t;refine Eq.trans (X1R _ _ r.Entries.length (fun i (b:Int)=>((i:Int),b)) (fun _ _=>True)
            (fun i b=>some (if(Xm b i (r.Entries.drop i)).2≠0 then(3,(Xm b i (r.Entries.drop i)).1,(Xm b i (r.Entries.drop i)).2)else(0,0,0))) ?_ ?_ 0 0 (Nat.zero_le _) trivial) rfl
          · intro b _ R
            simp only[X1Q,X1i,e1,jA,List.drop_length];rfl
          · intro i b hi _ R c
            have e1:decide ((i:Int)<(r.Entries.length:Int))=true:=by simp[hi]
            have w1:=wS i (by omega)
            have o:(bif decide (r.Entries[i].At.Lo>b)then r.Entries[i].At.Lo else b)=(if r.Entries[i].At.Lo>b then r.Entries[i].At.Lo else b):=by by_cases h:r.Entries[i].At.Lo>b<;>simp[h]
            rw[jb hi,X4a];simp only[X1Q,X1i,e1,z0S,kS,ju,jB,XP _ _ _ hi,w1,o]
            by_cases hc:(if r.Entries[i].At.Lo>b then r.Entries[i].At.Lo else b)>r.Entries[i].At.Hi
            · rw[if_pos hc]
              simp only[hc,decide_true,jB];rfl
            · rw[if_neg hc]
              simp only[hc,decide_false,jA];exact c _ trivial
        · intro i b hi _ R c
          have m:=c () trivial;have e1:decide ((i:Int)<(r.Entries.length:Int))=true:=by simp[hi]
          have w1:=wS i (by omega)
          rw[jb hi,X2i];simp only[X1P,X1h,e1,z0S,kS,ju,jB,XP _ _ _ hi,X5M r _ _ _ (by omega:r.Devices.length<=1000000),jS,w1]
          generalize X17 r r.Entries[i].Device r.Entries[i].State r.Entries[i].At=e
          by_cases he:e=0
          · have c1:(e != 0)=false:=by simp[he]
            simp only[c1,jA,if_neg (fun h:e≠0=>h he)];exact m
          · have c1:(e != 0)=true:=X4n he
            simp only[c1,jB,if_pos he];rfl
      · intro i b hi j R c
        have e1:decide ((i:Int)<(r.Devices.length:Int))=true:=by simp[hi]
        have w1:=wS i (by omega)
        have f:b.length=i:=by rw[j,List.length_map,List.length_take];omega
        have b1:Nat.ble ((i+1)*(16+1)) 200000000000000=true:=by rw[Nat.ble_eq];omega
        have g:=X7w r.Devices[i].Name b (by omega)
        have a:=c ((r.Devices.take (i+1)).map (·.Name)) rfl;rw[jb hi,X2i];simp only[X1O,X1g,e1,z0S,kS,ju,jB,XP _ _ _ hi,g,jS,w1,f,List.length_singleton,b1];have k:b++[r.Devices[i].Name]=(r.Devices.take (i+1)).map (·.Name):=by rw[j,List.take_succ_eq_append_getElem hi,List.map_append];rfl
        rw[<-j];have l:X7M b r.Devices[i]=if X5B r.Devices[i].Name b≠0 then X5B r.Devices[i].Name b else if WP 2 4 [r.Devices[i].States]||WP 0 (IntKind.wrap .i64 (r.Devices[i].States-1)) [r.Devices[i].First]then 7 else 0:=rfl;rw[l];generalize X5B r.Devices[i].Name b=e
        by_cases he:e=0
        · have c1:(e==0)=true:=by simp[he]
          have c2:(e != 0)=false:=by simp[he]
          simp only[c1,c2,jB,jA,if_neg (fun h:e≠0=>h he),X4l,X5U,jS,Bool.not_not];cases q5:WP 2 4 [r.Devices[i].States]with
          | true=>rfl
          | false =>
            simp only[jA,Bool.false_or];cases q6:WP 0 (IntKind.wrap .i64 (r.Devices[i].States-1)) [r.Devices[i].First]with
            | true=>rfl
            | false =>
              simp only[jA];rw[k];exact a
        · have c1:(e==0)=false:=X4j he
          have c2:(e != 0)=true:=X4n he;simp only[c1,c2,jB,jA,if_pos he];rfl
      · simp only[List.drop_zero]
        show(if(X3C r).2≠0 then some (2,(X3C r).1,(X3C r).2)else some (if(X2L r).2≠0 then(3,(X2L r).1,(X2L r).2)else if(Xm 0 0 r.Entries).2≠0 then(3,(Xm 0 0 r.Entries).1,(Xm 0 0 r.Entries).2)else(0,0,0)))=some (if(X3C r).2≠0 then(2,(X3C r).1,(X3C r).2)else if(X2L r).2≠0 then(3,(X2L r).1,(X2L r).2)else if(Xm 0 0 r.Entries).2≠0 then(3,(Xm 0 0 r.Entries).1,(Xm 0 0 r.Entries).2)else(0,0,0))
        by_cases q3:(X3C r).2=0
        · simp only[ne_eq,q3,not_true_eq_false,if_false]
        · simp only[ne_eq,q3,not_false_eq_true,if_true]
structure X5h (r:CoRecord):Prop where
  devs:1<=r.Devices.length/\r.Devices.length<=4
  many:r.Entries.length<=10
  dev:∀d∈r.Devices,(2<=d.States/\d.States<=4)/\0<=d.First/\d.First<d.States
  ent:∀x∈r.Entries,X17 r x.Device x.State x.At=0
  order:Xm 0 0 r.Entries=(0,0)
theorem X5T {α:Type} (f:Nat->α->Int):∀(l:List α) (i:Nat),(X1z f i l).2=0->∀(j:Nat) (h:j<l.length),f (i+j) l[j]=0
  | x::xs,i,h,j,hj=>by
    rw[X2i]at h
    by_cases he:f i x=0
    · rw[if_neg (fun q=>q he)]at h
      cases j with
      | zero=>exact he
      | succ j =>
        have:=X5T f xs (i+1) h j (by simpa using hj)
        rw[show i+(j+1)=i+1+j by omega]
        exact this
    · rw[if_pos he]at h
      exact absurd h he
theorem X80:∀(l:List Zq) (a:Int) (i:Nat),(Xm a i l).2=0->Xm a i l=(0,0)
  | [],_,_,_=>rfl
  | x::xs,a,i,h=>by
    rw[X4a]at h⊢
    by_cases hc:(if x.At.Lo>a then x.At.Lo else a)>x.At.Hi
    · rw[if_pos hc]at h
      exact absurd h (by simp)
    · rw[if_neg hc]at h⊢
      exact X80 xs _ _ h
theorem X6q {r:CoRecord} (h:(X13 r).2.2=0):X5h r:=by
  unfold X13 at h;cases q1:WP 1 4 [(r.Devices.length:Int)]with
  | true=>rw[q1]at h;exact absurd h (by simp)
  | false =>
    have b:=X27 q1
    by_cases q2:(r.Entries.length:Int)>10
    · simp only[q1,q2,decide_true,Bool.or_true,if_true]at h;exact absurd h (by simp)
    · simp only[q1,q2,decide_false,Bool.or_self,jg,if_false]at h
      by_cases q3:(X3C r).2=0
      · rw[if_neg (fun k=>k q3)]at h
        by_cases q4:(X2L r).2=0
        · rw[if_neg (fun k=>k q4)]at h
          by_cases q5:(Xm 0 0 r.Entries).2=0
          · refine⟨by omega,by omega,fun d b=>?_,fun x c=>?_,X80 _ _ _ q5⟩
            · obtain⟨j,a,rfl⟩:=List.getElem_of_mem b
              have:=X5T _ _ 0 q3 j a;simp only[X7M]at this;split at this
              · rename_i k;exact absurd this k
              · split at this
                · exact absurd this (by simp)
                · rename_i k
                  simp only[Bool.or_eq_true,not_or,Bool.not_eq_true]at k;have k1:=X27 k.1;have k2:=X27 k.2;rw[w64 (by omega) (by omega)]at k2
                  omega
            · obtain⟨j,a,rfl⟩:=List.getElem_of_mem c
              exact X5T _ _ 0 q4 j a
          · rw[if_pos q5]at h;exact absurd h q5
        · rw[if_pos q4]at h;exact absurd h q4
      · rw[if_pos q3]at h;exact absurd h q3
theorem X8e {r:CoRecord} {x:Zr} (h:X17 r x.Device x.State x.At=0):X3G r x/\0<=x.At.Lo/\x.At.Lo<=x.At.Hi/\x.At.Hi<=9999:=by
  unfold X17 at h;cases q1:WP 0 ((r.Devices.length:Int)-1) [x.Device]with
  | true=>rw[q1]at h;exact absurd h (by simp)
  | false =>
    rw[q1]at h;have k1:=X27 q1;cases q2:WP 0 (IntKind.wrap .i64 ((r.Devices.getD x.Device.toNat (Zm.mk ByteArray.empty 0 0)).States-1)) [x.State]with
    | true=>rw[q2]at h;exact absurd h (by simp)
    | false =>
      rw[q2]at h;cases q3:WP 0 9999 [x.At.Lo,x.At.Hi]with
      | true=>rw[q3]at h;exact absurd h (by simp)
      | false =>
        rw[q3]at h;have k3:=X8F q3
        by_cases q4:x.At.Lo>x.At.Hi
        · simp only[jg,if_false,q4,if_true]at h;exact absurd h (by simp)
        · exact⟨⟨by omega,by omega,by omega⟩,by omega,by omega,by omega⟩
theorem X9o {r:CoRecord} (h:X5h r):X8k r:=⟨h.many,fun x a=>by
  have:=(X8e (x:=⟨x.Device,x.State,x.At⟩) (h.ent x a)).2;simp only at this;omega⟩
theorem X6E {r:CoRecord} {l:List Zr} (h:(WH r l).2=0):X5h r/\l.length<=4/\∀x∈l,X17 r x.Device x.State x.At=0:=by
  unfold WH at h
  by_cases q1:(X13 r).2.2=0
  · rw[if_neg (fun k=>k q1)]at h
    by_cases q2:(l.length:Int)>4
    · rw[if_pos q2]at h;exact absurd h (by simp)
    · rw[if_neg q2]at h
      refine⟨X6q q1,by omega,fun x b=>?_⟩
      obtain⟨j,a,rfl⟩:=List.getElem_of_mem b;exact X5T _ _ 0 h j a
  · rw[if_pos q1]at h;exact absurd h q1
theorem X87 {r:CoRecord} {l:List Zr} (h:(WH r l).2=0):X7T r l:=by
  obtain⟨a,d,b⟩:=X6E h;exact⟨X9o a,by omega,fun x c=>(X8e (b x c)).1⟩
theorem X5Y (r:CoRecord) (l:List Zr):X3p r l=some (WH r l):=by
  rw[X4A];unfold X1f;rw[X7b r];simp only[jS];unfold WH
  by_cases q1:(X13 r).2.2=0
  · have c1:((X13 r).2.2==0)=true:=by simp[q1]
    have c2:((X13 r).2.2 != 0)=false:=by simp[q1]
    have hr:=X6q q1;simp only[c1,c2,jB,jA,if_neg (fun h:(X13 r).2.2≠0=>h q1)]
    by_cases q2:(l.length:Int)>4
    · simp only[q2,decide_true,jB,if_true]
    · have f:l.length<=4:=by omega
      simp only[q2,decide_false,jA,if_false];unfold X1o;refine Eq.trans (X1R _ _ l.length (fun i (_:Unit)=>(i:Int)) (fun _ _=>True) (fun i _=>some (X1z (fun _ (x:Zr)=>X17 r x.Device x.State x.At) i (l.drop i))) ?_ ?_ 0 () (Nat.zero_le _) trivial) rfl
      · intro b _ R
        have e1:decide ((l.length:Int)<(l.length:Int))=false:=by simp
        simp only[WY,Wt,e1,jA,List.drop_length];rfl
      · intro i b hi _ R d
        have a:=d () trivial;have e1:decide ((i:Int)<(l.length:Int))=true:=by simp[hi]
        have w1:=wS i (by omega)
        have c:=hr.devs;rw[jb hi,X2i];simp only[WY,Wt,e1,z0S,kS,ju,jB,XP _ _ _ hi,X5M r _ _ _ (by omega:r.Devices.length<=1000000),jS,w1]
        generalize X17 r l[i].Device l[i].State l[i].At=e
        by_cases he:e=0
        · have c1:(e != 0)=false:=by simp[he]
          simp only[c1,jA,if_neg (fun h:e≠0=>h he)];exact a
        · have c1:(e != 0)=true:=X4n he
          simp only[c1,jB,if_pos he];rfl
  · have c1:((X13 r).2.2==0)=false:=X4j q1
    have c2:((X13 r).2.2 != 0)=true:=X4n q1;simp only[c1,c2,jB,jA,if_pos q1]
theorem X5W (r:CoRecord) (l:List Zr):X3j r l=some (WH r l):=by
  rw[X4o];unfold X1d;rw[X76 r];simp only[jS];unfold WH
  by_cases q1:(X13 r).2.2=0
  · have c1:((X13 r).2.2 != 0)=false:=by simp[q1]
    have hr:=(X6q q1).devs;simp only[c1,jA,if_neg (fun h:(X13 r).2.2≠0=>h q1)]
    by_cases q2:(l.length:Int)>4
    · simp only[q2,decide_true,jB,if_true]
    · simp only[q2,decide_false,jA,if_false,X6P r l (by omega) (by omega),jS]
  · have c1:((X13 r).2.2 != 0)=true:=X4n q1
    simp only[c1,jB,if_pos q1]
theorem X3l (r:CoRecord) (l:List Zr):X1L r l=some (⟨r,l⟩,(WH r l).2):=by
  rw[X5x];unfold X2x;rw[X5W r l];rfl
end Nore
open Go Go.Ab
namespace Nore
end Nore
open Go Go.Ab
namespace Nore
def X4N (r:CoRecord) (l:List Zr):Bool×Int:=if(WH r l).2≠0 then(false,(WH r l).2)else(!(X36 r l).isEmpty,0)
def X6l (r:CoRecord) (l:List Zr):List Y2×Int:=if(WH r l).2≠0 then([],(WH r l).2)else X7E r l
theorem X5j (r:CoRecord) (l:List Zr):X2R r l=some (X4N r l):=by
  rw[X5r];unfold X2v;rw[X3l r l];simp only[jS];unfold X4N
  by_cases q:(WH r l).2=0
  · have c:((WH r l).2 != 0)=false:=by simp[q]
    simp only[c,jA,if_neg (fun h:(WH r l).2≠0=>h q),X4t (X87 q),jS]
  · have c:((WH r l).2 != 0)=true:=X4n q
    simp only[c,jB,if_pos q]
theorem X77 (r:CoRecord) (l:List Zr):X45 r l=some (X6l r l):=by
  by_cases q:(WH r l).2=0
  · rw[X6M (X87 q) (by rw[X3l,q])]
    unfold X6l;rw[if_neg (fun h=>h q)]
  · rw[X4q];unfold X1J
    rw[X3l r l];have c:((WH r l).2 != 0)=true:=X4n q;unfold X6l;simp only[jS,c,jB,if_pos q]
end Nore
namespace Nore
def WS (r:CoRecord) (l:List Zr):Bool := !(X36 r l).isEmpty
end Nore
open Go Go.Ab
namespace Nore
def X7y {α:Type} (m:Nat):Nat->List α->List α
  | _,[]=>[]
  | i,x::xs=>if m.testBit i then X7y m (i+1) xs else x::X7y m (i+1) xs
def X8Y {α:Type} (m:Nat):Nat->List α->List Int
  | _,[]=>[]
  | i,x::xs=>if m.testBit i then(i:Int)::X8Y m (i+1) xs else X8Y m (i+1) xs
def X9s:List Int->List Int->Int
  | [],[]=>0
  | [],_::_ => -1
  | _::_,[]=>1
  | a::s,b::t=>if a<b then -1 else if a>b then 1 else X9s s t
def Z3z (a b:List Int):Prop:=a.length<b.length\/(a.length=b.length/\X9s a b<=0)
structure X9r (r:CoRecord) (l:List Zr) (k:Nat) (fd:Bool) (best:List Int):Prop where
  yes:fd=true->∃m,m<k/\best=X8Y m 0 l/\WS r (X7y m 0 l)=true
  least:fd=true->∀m,m<k->WS r (X7y m 0 l)=true->Z3z best (X8Y m 0 l)
  no:fd=false->best=[]/\∀m,m<k->WS r (X7y m 0 l)=false
end Nore
open Go Go.Ab
namespace Nore
theorem X5A {α:Type} (f:Nat->α->Int):∀(l:List α) (i:Nat),(∀x∈l,∀j,f j x=0)->X1z f i l=(0,0)
  | [],_,_=>rfl
  | x::l,i,h=>by
    rw[X2i,if_neg (fun q=>q (h x (by simp) i))]
    exact X5A f l (i+1) fun y hy=>h y (by simp[hy])
theorem X7z {r:CoRecord} {l:List Zr} (h:(WH r l).2=0):(X13 r).2.2=0:=by
  unfold WH at h
  by_cases q1:(X13 r).2.2=0
  · exact q1
  · rw[if_pos q1]at h;exact absurd h q1
theorem X8V {r:CoRecord} {l:List Zr} (a:(X13 r).2.2=0) (d:l.length<=4) (b:∀x∈l,X17 r x.Device x.State x.At=0):WH r l=(0,0):=by
  unfold WH;rw[if_neg (fun q=>q a),if_neg (by omega)]
  exact X5A _ l 0 fun x c _=>b x c
theorem X7q (r:CoRecord) (l:List Zr):X57 r l=some ((WH r l).2==0):=by
  rw[X63];unfold X2U;rw[X5Y];rfl
end Nore
open Go Go.Ab
namespace Nore
def X4i (dev t:Int) (ms:Nat->Int):List Zq->Nat->Int->Int
  | [],_,now=>now
  | x::xs,i,now=>X4i dev t ms xs (i+1) (if x.Device=dev/\ms i<=t then x.State else now)
theorem X3E (dev t:Int) (ms:Nat->Int) (x:Zq) (xs:List Zq) (i:Nat) (now:Int):X4i dev t ms (x::xs) i now=X4i dev t ms xs (i+1) (if x.Device=dev/\ms i<=t then x.State else now):=rfl
theorem X5N (dev t:Int) (ms:Nat->Int):∀(e:List Zq) (i:Nat) (now:Int),(∀j,i<=j->j<i+e.length->t<ms j)->X4i dev t ms e i now=now
  | [],_,_,_=>rfl
  | x::e,i,now,h=>by
    have c:=h i (Nat.le_refl _) (by simp only[List.length_cons];omega)
    rw[X3E,if_neg (fun q=>by omega)]
    exact X5N dev t ms e (i+1) now fun j b a=>h j (by omega) (by simp only[List.length_cons];omega)
theorem X6A {n:Nat} {ms:Nat->Int} (h:X7U n ms):∀(d i:Nat),i+d<n->ms i<=ms (i+d)
  | 0,_,_=>Int.le_refl _
  | d+1,i,hi=>Int.le_trans (X6A h d i (by omega)) (h (i+d) (by omega))
theorem X7D {n:Nat} {ms:Nat->Int} (d:X7U n ms) (dev t st lo hi:Int) (c:lo<=t) (b:t<=hi):∀(e:List Zq) (i:Nat) (now fr:Int),i+e.length=n -> -1<=fr->fr<i->(0<=fr->ms fr.toNat<=t)->X4i dev t ms e i now=st →
    ∃s∈X6k dev st e i now fr,X7V n ms (X3i s) lo hi
  | [],i,now,fr,hn,h1,h2,h3,a=>by
    simp only[List.length_nil,Nat.add_zero]at hn;have a:now=st:=a;rw[X5P,if_pos a];refine⟨_,List.mem_singleton.2 rfl,fun h=>?_,fun h=>?_,fun _ h=>?_⟩
    · exact Int.le_trans (h3 h) b
    · simp only[X3i,kS]at h;omega
    · simp only[X3i,kS]at h;omega
  | x::e,i,now,fr,hn,h1,h2,h3,a=>by
    simp only[List.length_cons]at hn;rw[X3E]at a;rw[X42]
    by_cases hd:x.Device=dev
    · rw[if_pos hd]
      by_cases hit:ms i<=t
      · rw[if_pos ⟨hd,hit⟩]at a
        obtain⟨s,g1,g2⟩:=X7D d dev t st lo hi c b e (i+1) x.State i (by omega) (by omega) (by omega) (fun _=>by rw[kS];exact hit) a
        exact⟨s,List.mem_append.2 (.inr g1),g2⟩
      · rw[if_neg (fun q=>hit q.2)]at a
        have f:X4i dev t ms e (i+1) now=now:=X5N dev t ms e (i+1) now fun j j1 j2=>by
          have:=X6A d (j-i) i (by omega)
          rw[show i+(j-i)=j by omega]at this
          omega
        rw[f]at a;refine⟨⟨fr,i⟩,List.mem_append.2 (.inl ?_),fun h=>?_,fun h=>?_,fun h h'=>?_⟩
        · rw[if_pos a];exact List.mem_singleton.2 rfl
        · exact Int.le_trans (h3 h) b
        · simp only[X3i,kS]at h⊢;omega
        · have:=h3 h
          simp only[X3i,kS]at h'⊢;omega
    · rw[if_neg hd]
      rw[if_neg (fun q=>hd q.1)]at a;exact X7D d dev t st lo hi c b e (i+1) now fr (by omega) h1 (by omega) h3 a
def X86 (r:CoRecord) (dev:Int):Int:=(r.Devices.getD dev.toNat ⟨ByteArray.empty,0,0⟩).First
def X8B (r:CoRecord) (ms:Nat->Int):Prop:=Sol r.Entries.length (X2H (X1s r) []) ms
end Nore
open Go Go.Ab
namespace Nore
def X8l (r:CoRecord) (ms:Nat->Int) (x:Zr):Prop:=∃s∈X4M r x,X7V r.Entries.length ms (X3i s) x.At.Lo x.At.Hi
def TrN (r:CoRecord) (l:List Zr) (ms:Nat->Int):Prop:=X8B r ms/\∀x∈l,X8l r ms x
theorem X7G {r:CoRecord} {l:List Zr} {ms:Nat->Int}:X98 r.Entries.length (X2H (X1s r) []) (l.map (X2d r)) ms↔TrN r l ms:=by
  constructor
  · rintro⟨c,b⟩
    refine⟨c,fun x e=>?_⟩;obtain⟨s,d,a⟩:=b (X2d r x) (List.mem_map.2 ⟨x,e,rfl⟩);obtain⟨t,ht,rfl⟩:=List.mem_map.1 d;exact⟨t,ht,a⟩
  · rintro⟨c,b⟩
    refine⟨c,fun w f=>?_⟩;obtain⟨x,e,rfl⟩:=List.mem_map.1 f;obtain⟨s,d,a⟩:=b x e;exact⟨X3i s,List.mem_map.2 ⟨s,d,rfl⟩,a⟩
theorem X7h (r:CoRecord):X73 r.Entries.length (X2H (X1s r) []).ap:=fun p a=>by cases a
theorem X4m {r:CoRecord} {l:List Zr}:WS r l=true↔∃ms,TrN r l ms:=by
  have h:=X8p (X8M r l) (X7h r);unfold WS X36;constructor
  · intro b
    have:X9 r.Entries.length (l.map (X2d r)) (X2H (X1s r) [])≠[]:=fun e=>by rw[e]at b;cases b
    obtain⟨ms,a⟩:=h.1 this;exact⟨ms,X7G.1 a⟩
  · rintro⟨ms,a⟩
    have:=h.2 ⟨ms,X7G.2 a⟩;cases b:X9 r.Entries.length (l.map (X2d r)) (X2H (X1s r) [])with
    | nil=>exact absurd b this
    | cons=>rfl
theorem X7W (j:Nat):∀(L:List Con) (s:Y2),((L.foldl (X3T j) s).Lo=s.Lo\/∃d∈L,(L.foldl (X3T j) s).Lo=d.lo j)/\((L.foldl (X3T j) s).Hi=s.Hi\/∃d∈L,(L.foldl (X3T j) s).Hi=d.hi j) ∧
    (L.foldl (X3T j) s).Lo<=s.Lo/\s.Hi<=(L.foldl (X3T j) s).Hi/\∀d∈L,(L.foldl (X3T j) s).Lo<=d.lo j/\d.hi j<=(L.foldl (X3T j) s).Hi
  | [],s=>⟨.inl rfl,.inl rfl,Int.le_refl _,Int.le_refl _,fun d a=>by cases a⟩
  | c::L,s=>by
    rw[List.foldl_cons];obtain⟨e,b,h,g,f⟩:=X7W j L (X3T j s c);have a1:(X3T j s c).Lo=s.Lo\/(X3T j s c).Lo=c.lo j:=by
      unfold X3T;simp only;split
      · exact .inr rfl
      · exact .inl rfl
    have a2:(X3T j s c).Hi=s.Hi\/(X3T j s c).Hi=c.hi j:=by
      unfold X3T;simp only;split
      · exact .inr rfl
      · exact .inl rfl
    have a3:(X3T j s c).Lo<=s.Lo/\(X3T j s c).Lo<=c.lo j:=by
      unfold X3T;simp only;split<;>omega
    have a4:s.Hi<=(X3T j s c).Hi/\c.hi j<=(X3T j s c).Hi:=by
      unfold X3T;simp only;split<;>omega
    refine⟨?_,?_,by omega,by omega,fun d a=>?_⟩
    · rcases e with e|⟨d,a,e⟩
      · rcases a1 with a1|a1
        · exact .inl (by rw[e,a1])
        · exact .inr ⟨c,by simp,by rw[e,a1]⟩
      · exact .inr ⟨d,by simp[a],e⟩
    · rcases b with b|⟨d,a,b⟩
      · rcases a2 with a2|a2
        · exact .inl (by rw[b,a2])
        · exact .inr ⟨c,by simp,by rw[b,a2]⟩
      · exact .inr ⟨d,by simp[a],b⟩
    · rcases jv.1 a with rfl|a
      · omega
      · exact f d a
structure X9q (r:CoRecord) (l:List Zr) (j:Nat) (s:Y2):Prop where
  lo:∃ms,TrN r l ms/\ms j=s.Lo
  hi:∃ms,TrN r l ms/\ms j=s.Hi
  all:∀ms,TrN r l ms->s.Lo<=ms j/\ms j<=s.Hi
theorem X6m (n:Nat) (L:List Con):(X3v n L).length=n:=by unfold X3v;simp
theorem X8J {r:CoRecord} {l:List Zr} (h:WS r l=true) (j:Nat) (u:j<(X3v r.Entries.length (X36 r l)).length):X9q r l j (X3v r.Entries.length (X36 r l))[j]:=by
  have k:j<r.Entries.length:=by rw[X6m]at u;exact u
  have n:X36 r l≠[]:=fun e=>by unfold WS at h;rw[e]at h;cases h
  have t:=X59 (l.map (X2d r)) (X2H (X1s r) []) (X8M r l) (X7h r);have w:=X5H (l.map (X2d r)) (X2H (X1s r) []) (X8M r l) (X7h r);have i:(X3v r.Entries.length (X36 r l))[j]=(X36 r l).foldl (X3T j) ⟨((X36 r l).headD ⟨fun _=>0,fun _=>0,[]⟩).lo j,((X36 r l).headD ⟨fun _=>0,fun _=>0,[]⟩).hi j⟩:=by
    unfold X3v;simp
  rw[i];have a:(X36 r l).headD ⟨fun _=>0,fun _=>0,[]⟩∈X36 r l:=by
    cases hA:X36 r l with
    | nil=>exact absurd hA n
    | cons c L=>exact List.mem_cons_self
  generalize (X36 r l).headD ⟨fun _=>0,fun _=>0,[]⟩=c0 at a;obtain⟨g,f,z,h4,y⟩:=X7W j (X36 r l) ⟨c0.lo j,c0.hi j⟩;have p:∃d∈X36 r l,((X36 r l).foldl (X3T j) ⟨c0.lo j,c0.hi j⟩).Lo=d.lo j:=by
    rcases g with g|g
    · exact⟨c0,a,g⟩
    · exact g
  have s:∃d∈X36 r l,((X36 r l).foldl (X3T j) ⟨c0.lo j,c0.hi j⟩).Hi=d.hi j:=by
    rcases f with f|f
    · exact⟨c0,a,f⟩
    · exact f
  obtain⟨d,v,e1⟩:=p;obtain⟨d',q,e2⟩:=s;refine⟨⟨d.lo,X7G.1 (t d v).1,e1.symm⟩,⟨d'.hi,X7G.1 (t d' q).2.1,e2.symm⟩,fun ms m=>?_⟩;obtain⟨b,x,o⟩:=w ms (X7G.2 m);have:=o j k;have:=y b x;omega
theorem X7C {n:Nat} {ms:Nat->Int} (f:X7U n ms) (dev t st lo hi:Int) (d:lo=t) (b:hi=t):∀(e:List Zq) (i:Nat) (now fr:Int),i+e.length=n -> -1<=fr->fr<i →
    (∃s∈X6k dev st e i now fr,X7V n ms (X3i s) lo hi)->X4i dev t ms e i now=st
  | [],i,now,fr,hn,h1,h2,⟨s,a,hq⟩=>by
    rw[X5P]at a;split at a
    · rename_i h;exact h
    · cases a
  | x::e,i,now,fr,hn,h1,h2,⟨s,a,hq⟩=>by
    simp only[List.length_cons]at hn;rw[X3E];rw[X42]at a
    by_cases hd:x.Device=dev
    · rw[if_pos hd]at a
      rcases List.mem_append.1 a with q|q
      · split at q
        · rename_i c
          rw[List.mem_singleton.1 q]at hq;have o:=hq.2.1 (by simp only[X3i,kS];omega)
          simp only[X3i,kS]at o;rw[if_neg (fun k=>by have:=k.2;omega)]
          rw[X5N dev t ms e (i+1) now fun j j1 j2=>by
            have:=X6A f (j-i) i (by omega)
            rw[show i+(j-i)=j by omega]at this
            omega]
          exact c
        · cases q
      · have g:∀(e:List Zq) (k:Nat) (now:Int) (fr:Int),0<=fr->fr<k->∀s∈X6k dev st e k now fr,fr<=s.from_:=by
          intro e
          induction e with
          | nil =>
            intro k now fr m _ s a;rw[X5P]at a;split at a
            · rw[List.mem_singleton.1 a];exact Int.le_refl _
            · cases a
          | cons y e ih =>
            intro k now fr m u s a;rw[X42]at a;split at a
            · rcases List.mem_append.1 a with w|w
              · split at w
                · rw[List.mem_singleton.1 w];exact Int.le_refl _
                · cases w
              · have:=ih (k+1) y.State k (by omega) (by omega) s w
                omega
            · exact ih (k+1) now fr m (by omega) s a
        have r:=g e (i+1) x.State i (by omega) (by omega) s q
        have p:=(X7f dev st n e (i+1) x.State i (by omega) (by omega) (by omega)).2 s q
        have o:ms s.from_.toNat<=hi:=hq.1 (by show 0<=s.from_;omega)
        have l:=X6A f (s.from_.toNat-i) i (by omega)
        rw[show i+(s.from_.toNat-i)=s.from_.toNat by omega]at l
        rw[if_pos ⟨hd,by omega⟩]
        exact X7C f dev t st lo hi d b e (i+1) x.State i (by omega) (by omega) (by omega) ⟨s,q,hq⟩
    · rw[if_neg hd]at a
      rw[if_neg (fun k=>hd k.1)];exact X7C f dev t st lo hi d b e (i+1) now fr (by omega) h1 (by omega) ⟨s,a,hq⟩
def X5d (r:CoRecord) (ms:Nat->Int) (dev t:Int):Int:=X4i dev t ms r.Entries 0 (X86 r dev)
theorem X7d {r:CoRecord} {ms:Nat->Int} (h:X8B r ms) (dev st t:Int):X8l r ms ⟨dev,st,⟨t,t⟩⟩↔X5d r ms dev t=st:=by
  constructor
  · intro a
    exact X7C h.1.2.1 dev t st t t rfl rfl r.Entries 0 (X86 r dev) (-1) (by omega) (by omega) (by omega) a
  · intro a
    exact X7D h.1.2.1 dev t st t t (Int.le_refl _) (Int.le_refl _) r.Entries 0 (X86 r dev) (-1) (by omega) (by omega) (by omega) (fun h=>by omega) a
end Nore
open Go Go.Ab
namespace Nore
theorem X8C {r:CoRecord} (h:X5h r) (i:Nat) (hi:i<r.Entries.length):0<=r.Entries[i].At.Lo/\r.Entries[i].At.Lo<=r.Entries[i].At.Hi/\r.Entries[i].At.Hi<=9999:=by
  have:=(X8e (x:=⟨r.Entries[i].Device,r.Entries[i].State,r.Entries[i].At⟩) (h.ent _ (jl hi))).2;simpa using this
end Nore
open Go Go.Ab
namespace Nore
end Nore
open Go Go.Ab
namespace Nore
def X4g (l:List Zr) (dev s t:Int):List Zr:=l++[⟨dev,s,⟨t,t⟩⟩]
def X1j (r:CoRecord) (l:List Zr) (dev t:Int) (k:Nat):List Int:=((List.range k).filter fun s:Nat=>WS r (X4g l dev (s:Int) t)).map fun s:Nat=>(s:Int)
theorem X4R (r:CoRecord) (l:List Zr) (dev t:Int) (k:Nat):X1j r l dev t (k+1)=X1j r l dev t k++if WS r (X4g l dev (k:Int) t)then [(k:Int)]else []:=by
  unfold X1j;rw[List.range_succ,List.filter_append,List.map_append];congr 1;cases h:WS r (X4g l dev (k:Int) t)<;>simp[h]
theorem X5O (r:CoRecord) (l:List Zr) (dev t:Int) (k:Nat):∀v∈X1j r l dev t k,0<=v/\v<(k:Int):=fun v hv=>by
  obtain⟨s,a,rfl⟩:=List.mem_map.1 hv;have:=List.mem_range.1 (List.mem_filter.1 a).1;omega
theorem X5f (r:CoRecord) (l:List Zr) (dev t:Int) (k:Nat):(X1j r l dev t k).length<=k:=by
  unfold X1j;rw[List.length_map];exact Nat.le_trans (List.length_filter_le _ _) (by simp)
theorem X5e (r:CoRecord) (l:List Zr) (dev t:Int):∀k,(X1j r l dev t k).Pairwise (· < ·)
  | 0=>List.Pairwise.nil
  | k+1=>by
    rw[X4R];refine List.pairwise_append.2 ⟨X5e r l dev t k,?_,fun a d b c=>?_⟩
    · split
      · exact List.pairwise_singleton _ _
      · exact List.Pairwise.nil
    · have:=X5O r l dev t k a d
      split at c
      · rw[List.mem_singleton.1 c];exact this.2
      · cases c
theorem X8E (n:Int):∀(l:List Int),(∀v∈l,n<v)->ZeB n l=n::l
  | [],_=>rfl
  | v::l,h=>by
    have:=h v (by simp)
    unfold ZeB;simp[Int.le_of_lt this]
theorem X84:∀(l:List Int),l.Pairwise (· < ·)->Z3s l=l
  | [],_=>rfl
  | n::l,h=>by
    obtain⟨a,b⟩:=List.pairwise_cons.1 h;show ZeB n (Z3s l)=n::l;rw[X84 l b];exact X8E n l a
theorem X7s (k:Int):∀(m:List (Int×Int)),(∀v∈m.map Prod.fst,v≠k)->Z9O (fun a b=>a==b) k m=none
  | [],_=>rfl
  | (a,b)::m,h=>by
    have c:(k==a)=false:=X4j fun e=>h a (by simp) e.symm
    unfold Z9O;simp only[c,jA];exact X7s k m fun v hv=>h v (by simp only[jr,jv];exact .inr hv)
theorem X8q (k v:Int):∀(m:List (Int×Int)),(∀w∈m.map Prod.fst,w≠k)->Zj0 (fun a b=>a==b) k v m=m++[(k,v)]
  | [],_=>rfl
  | (a,b)::m,h=>by
    have d:(k==a)=false:=X4j fun e=>h a (by simp) e.symm
    unfold Zj0;simp only[d,jA];rw[X8q k v m fun w c=>h w (by simp only[jr,jv];exact .inr c)]
    rfl
theorem X9n {r:CoRecord} {l:List Zr} (h:X7T r l) (c:l.length<=4) {dev t s:Int} (a:0<=dev/\dev<r.Devices.length) (ht:0<=t/\t<=9999):X7T r (X4g l dev s t) :=
  ⟨h.ent,by unfold X4g;rw[List.length_append,List.length_singleton];omega,fun x b=>by
    rcases List.mem_append.1 b with q|q
    · exact h.seen x q
    · rw[List.mem_singleton.1 q]
      exact⟨a,by simp only;omega,by simp only;omega⟩⟩
theorem X6Q {r:CoRecord} {l:List Zr} (h:X7T r l) (q:l.length<=4) {dev t:Int} (g:0<=dev/\dev<r.Devices.length) (ht:0<=t/\t<=9999) {S:Nat} (u:(r.Devices.getD dev.toNat (Zm.mk ByteArray.empty 0 0)).States=(S:Int)) (m:S<=1000) :
    X14 ⟨r,l⟩ dev t=some (X1j r l dev t S):=by
  rw[X3A];unfold Wj;have c1:decide (0<=dev)=true:=by simp[g.1]
  have c2:decide (dev<(r.Devices.length:Int))=true:=by simp[g.2]
  simp only[c1,c2,ju,jB,u];obtain⟨w,o,f⟩:=X28 (XE dev (S:Int) t ⟨r,l⟩) S (fun i (b:List (Int×Int))=>((i:Int),b)) (fun i b=>b.map Prod.fst=X1j r l dev t i) (fun w=>w.map Prod.fst=X1j r l dev t S)
    (fun b d=>⟨b,by simp[XE,XU],d⟩)
    (fun i b hi d=>by
      right;have e1:decide ((i:Int)<(S:Int))=true:=by simp;omega
      have w1:=wS i (by omega)
      have b1:Nat.ble (l.length*(32+1)) 100000000000000=true:=by rw[Nat.ble_eq];omega
      have b2:Nat.ble ((l.length+1)*(32+1)) 200000000000000=true:=by rw[Nat.ble_eq];omega
      have b3:Nat.blt 0 4=true:=rfl;have e:X2r ⟨r,l⟩ [⟨dev,(i:Int),⟨t,t⟩⟩]=some ⟨r,X4g l dev (i:Int) t⟩:=by
        rw[X3U];unfold WK;simp only[b1,b3,ju,jB,List.length_singleton,b2];rfl
      have s:X8 ⟨r,X4g l dev (i:Int) t⟩=some (WS r (X4g l dev (i:Int) t)):=X4t (X9n h q g ht);have a:∀v∈b.map Prod.fst,v≠(i:Int):=fun v hv=>by
        rw[d]at hv;have:=X5O r l dev t i v hv;omega
      simp only[XE,XU,e1,jB,e,s,jS,w1,X7s _ b a,X8q _ _ b a];cases hag:WS r (X4g l dev (i:Int) t)with
      | true=>exact⟨_,rfl,by rw[List.map_append,d,X4R,hag];rfl⟩
      | false=>exact⟨b,rfl,by rw[d,X4R,hag];simp⟩) 0 [] (Nat.zero_le _) rfl
  have k:X1n dev (S:Int) t ⟨r,l⟩ (0,[])=some w:=o;have n:w.length<=S:=by
    have:=X5f r l dev t S;rw[<-f,List.length_map]at this;exact this
  have b1:Nat.ble w.length 100000=true:=by rw[Nat.ble_eq];omega
  have b2:Nat.ble (w.map fun p=>p.fst).length 1000000=true:=by rw[Nat.ble_eq,List.length_map];omega
  have b2':Nat.ble (X1j r l dev t S).length 1000000=true:=by have:=X5f r l dev t S;rw[Nat.ble_eq];omega
  have b4:Nat.beq w.length w.length=true:=Nat.beq_refl _;have b5:(Nat.beq 3 3&&Nat.beq 2 2)=true:=rfl;have b6:(Nat.beq 3 3&&Nat.beq 0 0)=true:=rfl;have j:(w.map fun p=>p.fst)=X1j r l dev t S:=f;rw[k];simp only[jS,b5,b4,b1,ju,Bool.true_and,jB];cases e:w with
  | nil =>
    rw[e]at f;rw[<-f];rfl
  | cons p ps =>
    rw[<-e];have c:Nat.beq w.length 0=false:=by rw[e];rfl
    have b7:(Nat.beq 3 3&&Nat.beq 0 0&&Nat.ble (w.map fun p=>p.fst).length 1000000)=true:=by rw[b2];rfl
    have b8:(Nat.beq 1 1&&Nat.ble 8 1000&&Nat.testBit 688269427663 6)=true:=by decide +kernel
    simp only[c,jA,b2',b6,ju,Bool.true_and,jB,j,X84 _ (X5e r l dev t S)]
    first
    | rfl
    | (have b9:Nat.testBit 688269427663 6=true:=by decide +kernel
       have b10:Nat.beq 1 1=true:=rfl;have b11:Nat.ble 8 1000=true:=rfl;simp only[b9,b10,b11,b2',ju,jB])
def X7e (r:CoRecord) (l:List Zr) (dev t:Int):List Int×Int :=
  if(WH r l).2≠0 then([],(WH r l).2)else if WP 0 ((r.Devices.length:Int)-1) [dev]then([],4)else if WP 0 9999 [t]then([],7)else
  if WS r l then(X1j r l dev t (r.Devices.getD dev.toNat (Zm.mk ByteArray.empty 0 0)).States.toNat,0)else([],9)
theorem X4u {r:CoRecord} (h:X5h r) {dev:Int} (a:0<=dev/\dev<r.Devices.length):∃S:Nat,(r.Devices.getD dev.toNat (Zm.mk ByteArray.empty 0 0)).States=(S:Int)/\2<=S/\S<=4:=by
  rw[XP _ _ _ (by omega)]
  have:=(h.dev _ (jl (by omega:dev.toNat<r.Devices.length))).1
  exact⟨r.Devices[dev.toNat].States.toNat,by omega,by omega,by omega⟩
theorem X4U (r:CoRecord) (l:List Zr) (dev t:Int):X3H r l dev t=some (X7e r l dev t):=by
  rw[X5l];unfold X20;rw[X3l r l];simp only[jS];unfold X7e
  by_cases q:(WH r l).2=0
  · obtain⟨hr,e,_⟩:=X6E q
    have g:=hr.devs;have c:((WH r l).2 != 0)=false:=by simp[q]
    have w1:IntKind.wrap .i64 ((r.Devices.length:Int)-1)=(r.Devices.length:Int)-1:=by rw[w64]<;>omega
    simp only[c,jA,if_neg (fun h:(WH r l).2≠0=>h q),w1,Wh _ _ [dev] (by simp),Wh _ _ [t] (by simp),jS,X4t (X87 q)]
    cases q1:WP 0 ((r.Devices.length:Int)-1) [dev]with
    | true=>rfl
    | false =>
      cases q2:WP 0 9999 [t]with
      | true=>rfl
      | false =>
        have i:=X27 q1;have ht:=X27 q2;have a:0<=dev/\dev<(r.Devices.length:Int):=by omega
        obtain⟨S,d,_,f⟩:=X4u hr a;have b:=X6Q (X87 q) e a ht d (by omega)
        simp only[jA,jg,if_false,b,jS,d,kS];unfold WS;cases(X36 r l).isEmpty with
        | true=>rfl
        | false=>rfl
  · have c:((WH r l).2 != 0)=true:=X4n q
    simp only[c,jB,if_pos q]
end Nore
open Go Go.Ab
namespace Nore
theorem X7g (v k:Int) (hv:0<=v) (a:0<k):0<=Int.tmod v k/\Int.tmod v k<k:=⟨Int.tmod_nonneg k hv,Int.tmod_lt_of_pos v a⟩
theorem X9g {r:CoRecord} (h:X5h r) (ms:Nat->Int) {dev:Int} (j:0<=dev/\dev<r.Devices.length) (t:Int) {S:Nat} (c:(r.Devices.getD dev.toNat (Zm.mk ByteArray.empty 0 0)).States=(S:Int)) :
    0<=X5d r ms dev t/\X5d r ms dev t<(S:Int):=by
  have a:∀(e:List Zq) (i:Nat) (now:Int),(∀x∈e,x∈r.Entries)->0<=now/\now<(S:Int)->0<=X4i dev t ms e i now/\X4i dev t ms e i now<(S:Int):=by
    intro e
    induction e with
    | nil=>intro i now _ d;exact d
    | cons x e ih =>
      intro i now b d;rw[X3E];refine ih (i+1) _ (fun y hy=>b y (by simp[hy])) ?_
      split
      · rename_i hc
        have hE:=h.ent x (b x (by simp))
        unfold X17 at hE;have k:=h.devs;have q1:WP 0 ((r.Devices.length:Int)-1) [x.Device]=false:=by
          cases q:WP 0 ((r.Devices.length:Int)-1) [x.Device]with
          | false=>rfl
          | true=>rw[q]at hE;exact absurd hE (by simp)
        rw[q1,hc.1,c]at hE;have m:2<=S/\S<=4:=by
          obtain⟨S',l,n,o⟩:=X4u h j;rw[c]at l;omega
        have w1:IntKind.wrap .i64 ((S:Int)-1)=(S:Int)-1:=by rw[w64]<;>omega
        rw[w1]at hE;have q2:WP 0 ((S:Int)-1) [x.State]=false:=by
          cases q:WP 0 ((S:Int)-1) [x.State]with
          | false=>rfl
          | true=>rw[q]at hE;exact absurd hE (by simp)
        have:=X27 q2;omega
      · exact d
  refine a r.Entries 0 _ (fun x b=>b) ?_;have g:r.Devices.getD dev.toNat (Zm.mk ByteArray.empty 0 0)=r.Devices[dev.toNat]'(by omega):=XP _ _ _ (by omega)
  have f:=(h.dev _ (jl (by omega:dev.toNat<r.Devices.length))).2
  rw[g]at c;rw[c]at f;show 0<=(r.Devices.getD dev.toNat ⟨ByteArray.empty,0,0⟩).First/\(r.Devices.getD dev.toNat ⟨ByteArray.empty,0,0⟩).First<(S:Int);rw[g];exact f
theorem X9f {r:CoRecord} (h:X5h r) {dev st lo hi:Int} (b:0<=dev/\dev<r.Devices.length) {S:Nat} (a:(r.Devices.getD dev.toNat (Zm.mk ByteArray.empty 0 0)).States=(S:Int)) (d:0<=st/\st<(S:Int)) (e:0<=lo) (g:lo<=hi) (c:hi<=9999):X17 r dev st ⟨lo,hi⟩=0:=by
  unfold X17;have q1:WP 0 ((r.Devices.length:Int)-1) [dev]=false:=by
    simp only[X2G,X3f,Bool.or_false,Bool.or_eq_false_iff,decide_eq_false_iff_not];omega
  have i:2<=S/\S<=4:=by
    obtain⟨S',f,j,k⟩:=X4u h b;rw[a]at f;omega
  have w1:IntKind.wrap .i64 ((S:Int)-1)=(S:Int)-1:=by rw[w64]<;>omega
  have q2:WP 0 ((S:Int)-1) [st]=false:=by
    simp only[X2G,X3f,Bool.or_false,Bool.or_eq_false_iff,decide_eq_false_iff_not];omega
  have q3:WP 0 9999 [lo,hi]=false:=by
    simp only[X2G,X3f,Bool.or_false,Bool.or_eq_false_iff,decide_eq_false_iff_not];omega
  rw[q1,a,w1,q2,q3];simp only[jg,if_false];rw[if_neg (by omega)]
end Nore
open Go Go.Ab
namespace Nore
theorem X9p {n:Int} (h:(Lit.int .u16 n).wf=true):0<=n/\n<=65535:=by
  simp[Lit.wf,IntKind.has,IntKind.min,IntKind.max,IntKind.signed,IntKind.bits]at h;omega
end Nore
open Go Go.Ab
namespace Nore
theorem X8T (l:List Int) (f:l.length<=1000000) (v:Int):X51 l v=some (decide (v∈l)):=by
  rw[X6v];unfold X3e;obtain⟨w,e,d⟩:=X28 (X1K v l) l.length (fun i (_:Unit)=>(i:Int)) (fun i _=>¬v∈l.take i)
    (fun w=>(w=.inl true/\v∈l)\/(w=.inr ()/\¬v∈l))
    (fun _ b=>⟨.inr (),by simp[X1K,X1N],.inr ⟨rfl,by rwa [List.take_length]at b⟩⟩)
    (fun i _ hi b=>by
      have e1:decide ((i:Int)<(l.length:Int))=true:=by simp;omega
      have w1:=wS i (by omega)
      simp only[X1K,X1N,e1,z0S,kS,ju,jB,XP _ _ _ hi,w1]
      by_cases he:l[i]=v
      · left
        have c:(l[i]==v)=true:=by simp[he]
        simp only[c,jB];exact⟨_,rfl,.inl ⟨rfl,he▸jl hi⟩⟩
      · right
        have c:(l[i]==v)=false:=X4j he;simp only[c,jA];refine⟨(),by first|rfl|trivial,fun h=>?_⟩
        rw[List.take_succ_eq_append_getElem hi]at h;rcases List.mem_append.1 h with h|h
        · exact b h
        · exact he (List.mem_singleton.1 h).symm) 0 () (Nat.zero_le _) (by simp)
  have a:X40 v l 0=some w:=e;rw[a];rcases d with⟨rfl,h⟩|⟨rfl,h⟩
  · simp[h]
  · simp[h]
def X18 (r:CoRecord) (l:List Zr) (dev t:Int):List Int:=X1j r l dev t (r.Devices.getD dev.toNat (Zm.mk ByteArray.empty 0 0)).States.toNat
theorem X5g {r:CoRecord} {l:List Zr} (hr:X5h r) {dev:Int} (e:0<=dev/\dev<r.Devices.length) (t st:Int):st∈X18 r l dev t↔∃ms,TrN r l ms/\X5d r ms dev t=st:=by
  obtain⟨S,f,_,_⟩:=X4u hr e;have d:∀s,WS r (X4g l dev s t)=true↔∃ms,TrN r l ms/\X5d r ms dev t=s:=fun s=>by
    rw[X4m];constructor
    · rintro⟨ms,c,a⟩
      exact⟨ms,⟨c,fun x b=>a x (List.mem_append.2 (.inl b))⟩,(X7d c dev s t).1 (a _ (List.mem_append.2 (.inr (List.mem_singleton.2 rfl))))⟩
    · rintro⟨ms,⟨c,a⟩,g⟩
      refine⟨ms,c,fun x b=>?_⟩;rcases List.mem_append.1 b with b|b
      · exact a x b
      · rw[List.mem_singleton.1 b]
        exact(X7d c dev s t).2 g
  unfold X18 X1j;rw[f,kS];constructor
  · intro h
    obtain⟨s,j,rfl⟩:=List.mem_map.1 h;exact(d _).1 (List.mem_filter.1 j).2
  · rintro⟨ms,c,a⟩
    have i:=X9g hr ms e t f;rw[a]at i;refine List.mem_map.2 ⟨st.toNat,List.mem_filter.2 ⟨List.mem_range.2 (by omega),?_⟩,by omega⟩
    rw[show((st.toNat:Nat):Int)=st by omega]
    exact(d st).2 ⟨ms,c,a⟩
end Nore
open Go Go.Ab
namespace Nore
theorem X7t:∀(l:List Zq) (a:Int) (i:Nat),(∀k (e:k<l.length),a<=l[k].At.Hi/\∀j (g:j<=k),(l[j]'(by omega)).At.Lo<=l[k].At.Hi)->Xm a i l=(0,0)
  | [],_,_,_=>rfl
  | x::l,a,i,h=>by
    have f:=h 0 (by simp)
    have d:=f.2 0 (Nat.le_refl _);simp only[List.getElem_cons_zero]at f d;rw[X4a,if_neg (by split<;>omega)]
    refine X7t l _ (i+1) fun k e=>?_;have b:=h (k+1) (by simpa using e)
    have c:=b.2 0 (by omega)
    simp only[List.getElem_cons_succ,List.getElem_cons_zero]at b c;refine⟨by split<;>omega,fun j g=>?_⟩
    have:=b.2 (j+1) (by omega)
    simpa using this
def X9d (r:CoRecord) (i:Nat):CoRecord:=⟨r.Devices,r.Entries.set i (Zq.mk (r.Entries.getD i (Zq.mk 0 0 (Y2.mk 0 0))).Device (r.Entries.getD i (Zq.mk 0 0 (Y2.mk 0 0))).State (Y2.mk 0 9999))⟩
def X79 (e:List Zq):List (Int×Int):=e.map fun x=>(x.Device,x.State)
theorem X6J (dev st:Int):∀(e e':List Zq) (i:Nat) (now fr:Int),X79 e=X79 e'->X6k dev st e i now fr=X6k dev st e' i now fr
  | [],[],_,_,_,_=>rfl
  | x::e,y::e',i,now,fr,h=>by
    unfold X79 at h;simp only[jr,List.cons.injEq,Prod.mk.injEq]at h;rw[X42,X42,h.1.1,h.1.2,X6J dev st e e' (i+1) y.State i h.2,X6J dev st e e' (i+1) now fr h.2]
  | [],_::_,_,_,_,h=>by cases h
  | _::_,[],_,_,_,h=>by cases h
theorem X7B (dev t:Int) (ms:Nat->Int):∀(e e':List Zq) (i:Nat) (now:Int),X79 e=X79 e'->X4i dev t ms e i now=X4i dev t ms e' i now
  | [],[],_,_,_=>rfl
  | x::e,y::e',i,now,h=>by
    unfold X79 at h;simp only[jr,List.cons.injEq,Prod.mk.injEq]at h;rw[X3E,X3E,h.1.1,h.1.2,X7B dev t ms e e' (i+1) _ h.2]
  | [],_::_,_,_,h=>by cases h
  | _::_,[],_,_,h=>by cases h
structure X55 (r s:CoRecord):Prop where
  dev:s.Devices=r.Devices
  key:X79 s.Entries=X79 r.Entries
  wide:∀i (h:i<r.Entries.length) (h':i<s.Entries.length),s.Entries[i].At.Lo<=r.Entries[i].At.Lo/\r.Entries[i].At.Hi<=s.Entries[i].At.Hi
theorem X55.len {r s:CoRecord} (h:X55 r s):s.Entries.length=r.Entries.length:=by
  have:=congrArg List.length h.key;unfold X79 at this;simpa using this
theorem X55.tr {r s:CoRecord} (h:X55 r s) {l:List Zr} {ms:Nat->Int} (g:TrN r l ms):TrN s l ms:=by
  have a:=h.len;have b:∀(r:CoRecord) i (hi:i<r.Entries.length),(X2H (X1s r) []).lo i=r.Entries[i].At.Lo/\(X2H (X1s r) []).hi i=r.Entries[i].At.Hi:=fun r i hi=>by
    show((r.Entries.getD i (Zq.mk 0 0 (Y2.mk 0 0))).At).Lo=_/\((r.Entries.getD i (Zq.mk 0 0 (Y2.mk 0 0))).At).Hi=_;rw[XP _ _ _ hi];exact⟨rfl,rfl⟩
  obtain⟨⟨⟨a1,a2,_⟩,⟨b1,_,_⟩⟩,d⟩:=g;refine⟨⟨⟨fun i hi=>?_,fun i hi=>a2 i (by omega),fun p c=>by cases c⟩,⟨fun i hi=>?_,fun i hi=>a2 i (by omega),fun p c=>by cases c⟩⟩,fun x f=>?_⟩
  · have:=a1 i (by omega)
    rw[(b r i (by omega)).1]at this
    rw[(b s i hi).1];have:=(h.wide i (by omega) hi).1
    omega
  · have:=b1 i (by omega)
    rw[(b r i (by omega)).2]at this
    rw[(b s i hi).2];have:=(h.wide i (by omega) hi).2
    omega
  · obtain⟨t,ht,j⟩:=d x f
    refine⟨t,?_,by rw[a];exact j⟩
    have e:X4M s x=X4M r x:=by
      unfold X4M;rw[h.dev];exact X6J _ _ _ _ _ _ _ h.key
    rw[e];exact ht
theorem X55.state {r s:CoRecord} (h:X55 r s) (ms:Nat->Int) (dev t:Int):X5d s ms dev t=X5d r ms dev t:=by
  unfold X5d X86;rw[h.dev];exact X7B _ _ _ _ _ _ _ h.key
theorem X55.states {r s:CoRecord} (h:X55 r s) (hr:X5h r) (d:X5h s) {l:List Zr} {dev:Int} (a:0<=dev/\dev<r.Devices.length) (t:Int):∀v∈X18 r l dev t,v∈X18 s l dev t:=fun v hv=>by
  rw[X5g hr a]at hv;rw[X5g d (by rw[h.dev];exact a)]
  obtain⟨ms,c,b⟩:=hv;exact⟨ms,h.tr c,by rw[h.state];exact b⟩
theorem X97 {r:CoRecord} (hr:X5h r) {l:List Zr} (c:WS r l=true) {dev:Int} (a:0<=dev/\dev<r.Devices.length) (t:Int):X18 r l dev t≠[]:=fun e=>by
  obtain⟨ms,b⟩:=X4m.1 c;have:=(X5g hr a t (X5d r ms dev t)).2 ⟨ms,b,rfl⟩;rw[e]at this;cases this
theorem X8v (r:CoRecord) (l:List Zr) (dev t:Int):(X18 r l dev t).Pairwise (· < ·):=X5e r l dev t _
theorem X81 {r s:CoRecord} (h:s.Devices=r.Devices) (dev st:Int) (p:Y2):X17 s dev st p=X17 r dev st p:=by
  unfold X17;rw[h]
structure X9t (r:CoRecord) (l:List Zr) (i:Nat):Prop where
  rec_:X5h (X9d r i)
  sees:WH (X9d r i) l=(0,0)
  wide:X55 r (X9d r i)
end Nore
open Go Go.Ab
namespace Nore
theorem X43 {r:CoRecord} {ms:Nat->Int}:X8B r ms↔X7U r.Entries.length ms/\∀i (hi:i<r.Entries.length),r.Entries[i].At.Lo<=ms i/\ms i<=r.Entries[i].At.Hi:=by
  have a:∀i (hi:i<r.Entries.length),(X2H (X1s r) []).lo i=r.Entries[i].At.Lo/\(X2H (X1s r) []).hi i=r.Entries[i].At.Hi:=fun i hi=>by
    show((r.Entries.getD i (Zq.mk 0 0 (Y2.mk 0 0))).At).Lo=_/\((r.Entries.getD i (Zq.mk 0 0 (Y2.mk 0 0))).At).Hi=_;rw[XP _ _ _ hi];exact⟨rfl,rfl⟩
  constructor
  · rintro⟨⟨a1,a2,_⟩,⟨b1,_,_⟩⟩
    refine⟨a2,fun i hi=>⟨?_,?_⟩⟩
    · have:=a1 i hi;rw[(a i hi).1]at this;exact this
    · have:=b1 i hi;rw[(a i hi).2]at this;exact this
  · rintro⟨d,c⟩
    exact⟨⟨fun i hi=>by rw[(a i hi).1];exact(c i hi).1,d,fun p b=>by cases b⟩,⟨fun i hi=>by rw[(a i hi).2];exact(c i hi).2,d,fun p b=>by cases b⟩⟩
def X1G (r:CoRecord) (i:Nat) (p:Y2):CoRecord:=⟨r.Devices,r.Entries.set i (Zq.mk (r.Entries.getD i (Zq.mk 0 0 (Y2.mk 0 0))).Device (r.Entries.getD i (Zq.mk 0 0 (Y2.mk 0 0))).State p)⟩
theorem X5Q (r:CoRecord) (i:Nat) (p:Y2):(X1G r i p).Entries.length=r.Entries.length:=by unfold X1G;simp
theorem X54 (r:CoRecord) (i:Nat) (hi:i<r.Entries.length) (p:Y2) (j:Nat) (h:j<(X1G r i p).Entries.length) (h':j<r.Entries.length):(X1G r i p).Entries[j]=if i=j then Zq.mk r.Entries[i].Device r.Entries[i].State p else r.Entries[j]:=by
  unfold X1G;simp only[List.getElem_set,XP _ _ _ hi]
theorem X9i {r:CoRecord} (a:r.Entries.length<=10) (i:Nat) (hi:i<r.Entries.length) (p:Y2):X58 r (i:Int) p=some (X1G r i p):=by
  rw[X67];unfold X2V;have b1:Nat.ble ((0+r.Entries.length)*(32+1)) 200000000000000=true:=by rw[Nat.ble_eq];omega
  have e1:decide ((i:Int)<(r.Entries.length:Int))=true:=by simp;omega
  have e2:Nat.blt i r.Entries.length=true:=by rw[Nat.blt_eq];exact hi
  simp only[b1,jB,List.nil_append,z0S,e1,ju,kS,e2];rfl
theorem X8H {r:CoRecord} {dev st:Int} {a p:Y2} (h:X17 r dev st a=0) (c:0<=p.Lo) (b:p.Lo<=p.Hi) (d:p.Hi<=9999):X17 r dev st p=0:=by
  unfold X17 at h⊢;cases q1:WP 0 ((r.Devices.length:Int)-1) [dev]with
  | true=>rw[q1]at h;exact absurd h (by simp)
  | false =>
    rw[q1]at h;cases q2:WP 0 (IntKind.wrap .i64 ((r.Devices.getD dev.toNat (Zm.mk ByteArray.empty 0 0)).States-1)) [st]with
    | true=>rw[q2]at h;exact absurd h (by simp)
    | false =>
      have q3:WP 0 9999 [p.Lo,p.Hi]=false:=by
        simp only[X2G,X3f,Bool.or_false,Bool.or_eq_false_iff,decide_eq_false_iff_not];omega
      simp only[q3,jg,if_false];rw[if_neg (by omega)]
theorem X8L {r:CoRecord} (hc:(X13 r).2.2=0) (i:Nat) (hi:i<r.Entries.length) (p:Y2) (m:0<=p.Lo) (g:p.Lo<=p.Hi) (h:p.Hi<=9999):(X13 (X1G r i p)).2.2=(Xm 0 0 (X1G r i p).Entries).2:=by
  have hr:=X6q hc;have a:(X2L (X1G r i p)).2=0:=by
    unfold X2L;rw[X5A _ _ 0 fun x l j=>?_];obtain⟨k,f,rfl⟩:=List.getElem_of_mem l;have b:k<r.Entries.length:=by rw[<-X5Q r i p];exact f
    rw[X54 r i hi p k f b,X81 (r:=r) (s:=X1G r i p) rfl]
    by_cases e:i=k
    · simp only[e,if_true]
      exact X8H (hr.ent _ (jl b)) m g h
    · rw[if_neg e]
      exact hr.ent _ (jl b)
  unfold X13 at hc⊢;have d:=X5Q r i p;have c:X3C (X1G r i p)=X3C r:=rfl;rw[show(X1G r i p).Devices=r.Devices from rfl,d,c];cases q1:WP 1 4 [(r.Devices.length:Int)]||decide ((r.Entries.length:Int)>10)with
  | true=>rw[q1]at hc;exact absurd hc (by simp)
  | false =>
    rw[q1]at hc;simp only[jg,if_false]at hc⊢
    by_cases q3:(X3C r).2=0
    · rw[if_neg (fun k=>k q3),if_neg (fun k=>k a)]
      by_cases q4:(Xm 0 0 (X1G r i p).Entries).2=0
      · simp[q4]
      · simp[q4]
    · rw[if_pos q3]at hc;exact absurd hc q3
theorem X7u:∀(l:List Zq) (a:Int) (i:Nat),(Xm a i l).2=0\/(Xm a i l).2=9
  | [],_,_=>.inl rfl
  | x::l,a,i=>by
    rw[X4a]
    by_cases hc:(if x.At.Lo>a then x.At.Lo else a)>x.At.Hi
    · rw[if_pos hc];exact .inr rfl
    · rw[if_neg hc];exact X7u l _ _
theorem X9j (r:CoRecord) (i:Nat) (hi:i<r.Entries.length) (p:Y2):X79 (X1G r i p).Entries=X79 r.Entries:=by
  unfold X79;refine List.ext_getElem (by simp[X5Q]) fun j a b=>?_
  simp only[List.length_map]at a b;simp only[List.getElem_map,X54 r i hi p j a b]
  by_cases e:i=j
  · subst e;simp
  · simp[e]
theorem X8Z {r:CoRecord} (i:Nat) (hi:i<r.Entries.length) (p:Y2) (s:r.Entries[i].At.Lo<=p.Lo/\p.Hi<=r.Entries[i].At.Hi) {l:List Zr} {ms:Nat->Int}:TrN (X1G r i p) l ms↔TrN r l ms/\p.Lo<=ms i/\ms i<=p.Hi:=by
  have a:=X5Q r i p;have m:∀x,X4M (X1G r i p) x=X4M r x:=fun x=>by
    unfold X4M;rw[show(X1G r i p).Devices=r.Devices from rfl];exact X6J _ _ _ _ _ _ _ (X9j r i hi p)
  have o:∀x,X8l (X1G r i p) ms x↔X8l r ms x:=fun x=>by unfold X8l;rw[m,a]
  unfold TrN;constructor
  · rintro⟨g,h⟩
    obtain⟨f,d⟩:=X43.1 g;rw[a]at f;have b:=d i (by omega)
    rw[X54 r i hi p i (by omega) hi]at b
    simp only[if_true]at b;refine⟨⟨X43.2 ⟨f,fun j n=>?_⟩,fun x k=>(o x).1 (h x k)⟩,b⟩;have c:=d j (by omega)
    rw[X54 r i hi p j (by omega) n]at c
    by_cases e:i=j
    · subst e;omega
    · rw[if_neg e]at c;exact c
  · rintro⟨⟨g,h⟩,q⟩
    obtain⟨f,d⟩:=X43.1 g;refine⟨X43.2 ⟨by rw[a];exact f,fun j n=>?_⟩,fun x k=>(o x).2 (h x k)⟩
    rw[X54 r i hi p j n (by omega)]
    by_cases e:i=j
    · subst e;simp only[if_true];exact q
    · rw[if_neg e];exact d j (by omega)
theorem X8K {r:CoRecord} {l:List Zr} (hs:(WH r l).2=0) (i:Nat) (hi:i<r.Entries.length) (p:Y2) (z:r.Entries[i].At.Lo<=p.Lo/\p.Hi<=r.Entries[i].At.Hi) (u:p.Lo<=p.Hi) :
    ((∃ms,TrN r l ms/\p.Lo<=ms i/\ms i<=p.Hi)->X4N (X1G r i p) l=(true,0)) ∧
    ((¬∃ms,TrN r l ms/\p.Lo<=ms i/\ms i<=p.Hi)->X4N (X1G r i p) l=(false,0)\/X4N (X1G r i p) l=(false,9)):=by
  have hc:=X7z hs;obtain⟨hr,hl,hx⟩:=X6E hs;have hbd:=X8C hr i hi;have g:=X8L hc i hi p (by omega) u (by omega)
  have y:=X5Q r i p;have c:(Xm 0 0 (X1G r i p).Entries).2=0->WH (X1G r i p) l=(0,0):=fun h =>
    X8V (by rw[g,h]) hl fun x n=>by rw[X81 (r:=r) (s:=X1G r i p) rfl];exact hx x n
  constructor
  · rintro⟨ms,o,h⟩
    have ht:=(X8Z i hi p z (l:=l) (ms:=ms)).2 ⟨o,h⟩;obtain⟨h1,v⟩:=X43.1 ht.1;have f:Xm 0 0 (X1G r i p).Entries=(0,0):=X7t _ 0 0 fun k w=>by
      have d:k<r.Entries.length:=by omega
      have bk:=v k w;refine⟨?_,fun j hj=>?_⟩
      · have b2:=X8C hr k d
        rw[X54 r i hi p k w d]at bk⊢;split at bk<;>simp_all<;>omega
      · have bj:=v j (by omega)
        have:=X6A h1 (k-j) j (by omega)
        rw[show j+(k-j)=k by omega]at this
        omega
    have a:=c (by rw[f])
    have t:WS (X1G r i p) l=true:=X4m.2 ⟨ms,ht⟩;unfold X4N;rw[a,if_neg (fun k=>k rfl)];exact congrArg (fun b=>(b,(0:Int))) t
  · intro m
    rcases X7u (X1G r i p).Entries 0 0 with q|q
    · left
      have a:=c q;have t:WS (X1G r i p) l=false:=by
        cases e:WS (X1G r i p) l with
        | false=>rfl
        | true =>
          obtain⟨ms,o⟩:=X4m.1 e;exact absurd ⟨ms,(X8Z i hi p z).1 o⟩ m
      unfold X4N;rw[a,if_neg (fun k=>k rfl)];exact congrArg (fun b=>(b,(0:Int))) t
    · right
      have h9:(X13 (X1G r i p)).2.2=9:=by rw[g,q]
      have a:WH (X1G r i p) l=(0,9):=by
        unfold WH;rw[h9];rfl
      unfold X4N;rw[a];rfl
set_option maxHeartbeats 1000000 in
theorem X8y {r:CoRecord} {l:List Zr} (z:(WH r l).2=0) (ha:WS r l=true) (i:Nat) (hi:i<r.Entries.length) :
    WV (X3v r.Entries.length (X36 r l)) (i:Int) l r r.Entries[i].At 0=some (.inr ()):=by
  obtain⟨hr,hl,hx⟩:=X6E z;have hn:=hr.many;have n:=X6m r.Entries.length (X36 r l);have j:i<(X3v r.Entries.length (X36 r l)).length:=by omega
  have tt:=X8J ha i j;have hbd:=X8C hr i hi;generalize (X3v r.Entries.length (X36 r l))=T at n j tt;obtain⟨ma,g,ea⟩:=tt.lo;obtain⟨mb,o,eb⟩:=tt.hi;have ba:=(X43.1 g.1).2 i hi;have bb:=(X43.1 o.1).2 i hi;have a0:=tt.all _ g;have w1:IntKind.wrap .i64 (T[i].Lo-1)=T[i].Lo-1:=by rw[w64]<;>omega
  have w2:IntKind.wrap .i64 (T[i].Hi+1)=T[i].Hi+1:=by rw[w64]<;>omega
  have m:∀u v,X1V u v=some ⟨u,v⟩:=fun u v=>by rw[X65];rfl
  have e2:decide ((i:Int)<(T.length:Int))=true:=by simp;omega
  have hP:∀k,k<4->∀P:Y2,P=List.getD [⟨T[i].Lo,T[i].Lo⟩,⟨T[i].Hi,T[i].Hi⟩,⟨r.Entries[i].At.Lo,T[i].Lo-1⟩,⟨T[i].Hi+1,r.Entries[i].At.Hi⟩] k ⟨0,0⟩->P.Lo<=P.Hi →
      (r.Entries[i].At.Lo<=P.Lo/\P.Hi<=r.Entries[i].At.Hi)/\(k<2->∃ms,TrN r l ms/\P.Lo<=ms i/\ms i<=P.Hi)/\(2<=k->¬∃ms,TrN r l ms/\P.Lo<=ms i/\ms i<=P.Hi):=by
    intro k t P f hle;obtain rfl|rfl|rfl|rfl:k=0\/k=1\/k=2\/k=3:=by omega
    · have e:P=⟨T[i].Lo,T[i].Lo⟩:=f
      subst e;exact⟨by simp only;omega,fun _=>⟨ma,g,by simp only;omega⟩,fun h=>by omega⟩
    · have e:P=⟨T[i].Hi,T[i].Hi⟩:=f
      subst e;exact⟨by simp only;omega,fun _=>⟨mb,o,by simp only;omega⟩,fun h=>by omega⟩
    · have e:P=⟨r.Entries[i].At.Lo,T[i].Lo-1⟩:=f
      subst e;refine⟨by simp only;omega,fun h=>by omega,fun _=>?_⟩
      rintro⟨ms,w,p⟩;have:=tt.all ms w;simp only at p;omega
    · have e:P=⟨T[i].Hi+1,r.Entries[i].At.Hi⟩:=f
      subst e;refine⟨by simp only;omega,fun h=>by omega,fun _=>?_⟩
      rintro⟨ms,w,p⟩;have:=tt.all ms w;simp only at p;omega
  obtain⟨y,g1,g2⟩:=X28 (XX T (i:Int) l r r.Entries[i].At) 4 (fun k (_:Unit)=>(k:Int)) (fun _ _=>True) (fun y=>y=.inr ())
    (fun _ _=>⟨.inr (),by
      have e:decide (((4:Nat):Int)<4)=false:=rfl;simp only[XX,Wb,e,jA],rfl⟩)
    (fun k _ t _=>by
      right;refine⟨(),?_,trivial⟩;have e1:decide ((k:Int)<4)=true:=by simp;omega
      have wk:=wS k (by omega)
      have x:∀a b c d:Y2,List.length [a,b,c,d]=4:=fun _ _ _ _=>rfl;have e3:decide ((k:Int)<((4:Nat):Int))=true:=by simp;omega
      have e4:Nat.blt k 4=true:=by rw[Nat.blt_eq];exact t
      obtain⟨P,f⟩:∃P,P=List.getD [⟨T[i].Lo,T[i].Lo⟩,⟨T[i].Hi,T[i].Hi⟩,⟨r.Entries[i].At.Lo,T[i].Lo-1⟩,⟨T[i].Hi+1,r.Entries[i].At.Hi⟩] k (⟨0,0⟩:Y2):=⟨_,rfl⟩;have s:=hP k t P f;simp only[XX,Wb,e1,e2,z0S,kS,ju,jB,XP _ _ _ j,m,jS,w1,w2,x,e3,e4,wk,<-f]
      by_cases hgt:P.Lo>P.Hi
      · have c:decide (P.Lo>P.Hi)=true:=by simp[hgt]
        simp only[c,jB]
      · have c:decide (P.Lo>P.Hi)=false:=by simp;omega
        obtain⟨p1,p2,p3⟩:=s (by omega)
        obtain⟨q1,q2⟩:=X8K z i hi P p1 (by omega)
        have b0:((0:Int) != 0)=false:=rfl;have b9:((0:Int) != 9)=true:=rfl;have b99:((9:Int) != 9)=false:=rfl;simp only[c,jA,X9i hn i hi,jS,X5j]
        by_cases hk2:k<2
        · have d1:decide ((k:Int)<2)=true:=by simp;omega
          have d2:decide ((k:Int)>=2)=false:=by simp;omega
          rw[q1 (p2 hk2)];simp only[d1,d2,b0,jB,jA,Bool.not_true]
        · have d1:decide ((k:Int)<2)=false:=by simp;omega
          have d2:decide ((k:Int)>=2)=true:=by simp;omega
          rcases q2 (p3 (by omega))with q|q
          · rw[q]
            simp only[d1,d2,b0,b9,jB,jA]
          · rw[q]
            simp only[d1,d2,b99,jB,jA]) 0 () (Nat.zero_le _) trivial
  have g1':WV T (i:Int) l r r.Entries[i].At 0=some y:=g1;rw[g1',g2]
theorem X8z {r:CoRecord} {d:Int} (a:0<=d/\d<r.Devices.length) {S:Nat} (g:(r.Devices.getD d.toNat (Zm.mk ByteArray.empty 0 0)).States=(S:Int)) (L:List Int) (hL:L.length<=1000) (f:∀v∈L,0<=v/\v<(S:Int)) (c:L.Pairwise (· < ·)) :
    Wg d L r 0=some (.inr ()):=by
  obtain⟨y,g1,g2⟩:=X28 (XY d L r) L.length (fun i (_:Unit)=>(i:Int)) (fun _ _=>True) (fun y=>y=.inr ())
    (fun _ _=>⟨.inr (),by
      have e:decide ((L.length:Int)<(L.length:Int))=false:=by simp
      simp only[XY,Xq,e,jA],rfl⟩)
    (fun i _ hi _=>by
      right;refine⟨(),?_,trivial⟩;have e1:decide ((i:Int)<(L.length:Int))=true:=by simp;omega
      have w1:=wS i (by omega)
      have hv:=f _ (jl hi);have c1:decide (L[i]<0)=false:=by simp;omega
      have c2:decide (L[i]>=(S:Int))=false:=by simp;omega
      have d1:decide (0<=d)=true:=by simp[a.1]
      have d2:decide (d<(r.Devices.length:Int))=true:=by simp[a.2]
      simp only[XY,Xq,e1,z0S,kS,ju,jB,XP _ _ _ hi,w1,c1,c2,jA,d1,d2,g];cases i with
      | zero=>rfl
      | succ i =>
        have w2:IntKind.wrap .i64 (((i+1:Nat):Int)-1)=(i:Int):=by rw[w64]<;>omega
        have c3:decide (((i+1:Nat):Int)>0)=true:=by rw[jk];omega
        have c4:decide ((i:Int)<(L.length:Int))=true:=by simp;omega
        have b:L[i]<L[i+1]:=(List.pairwise_iff_getElem.1 c) i (i+1) (by omega) hi (by omega)
        have c5:decide (L[i+1]<=L[i])=false:=by simp;omega
        simp only[w2,c3,c4,jB,z0S,kS,ju,XP _ _ _ (by omega:i<L.length),c5,jA]) 0 () (Nat.zero_le _) trivial
  have g1':Wg d L r 0=some y:=g1;rw[g1',g2]
theorem X8A : @X1I=@Wg:=rfl
set_option maxHeartbeats 1000000 in
theorem X6n (r:CoRecord) (l:List Zr) (y:Nat->Int) (hy:∀j,j<4->0<=y j/\y j<=65535):X1A r l y=some true:=by
  rw[X3W];unfold WL;rw[X7q];have b0:((0:Int) != 0)=false:=rfl;have b1:((0:Int)==0)=true:=rfl;have b9:((9:Int) != 0)=true:=rfl;have b99:((9:Int)==9)=true:=rfl
  by_cases hs:(WH r l).2=0
  · have hz:((WH r l).2==0)=true:=by simp[hs]
    obtain⟨hr,hl,a⟩:=X6E hs;simp only[jS,hz,Bool.not_true,jA]
    by_cases h4:l.length=4
    · have c:((l.length:Int)==4)=true:=by simp[h4]
      simp only[c,jB]
    · have c:((l.length:Int)==4)=false:=X4j (by omega)
      simp only[c,jA,X77,X5j,jS];have p:∀L:List Zr,(WH r L).2=0->X4N r L=(WS r L,0):=fun L h=>by
        unfold X4N WS;rw[if_neg (fun k=>k h)]
      rw[p l hs];cases ha:WS r l with
      | false =>
        have hT:X6l r l=([],9):=by
          unfold X6l X7E;rw[if_neg (fun k=>k hs),if_pos];unfold WS at ha;cases e:(X36 r l).isEmpty with
          | true=>rfl
          | false=>rw[e]at ha;cases ha
        rw[hT];simp only[b9,b99,b1,jB,Bool.not_false]
      | true =>
        have hT:X6l r l=(X3v r.Entries.length (X36 r l),0):=by
          unfold X6l X7E;rw[if_neg (fun k=>k hs),if_neg];intro k;unfold WS at ha;rw[k]at ha;cases ha
        have hlen:=X6m r.Entries.length (X36 r l);have hn:=hr.many;have hdv:=hr.devs;have y0:=hy 0 (by omega)
        have y1:=hy 1 (by omega)
        have y2:=hy 2 (by omega)
        have y3:=hy 3 (by omega)
        have u0:IntKind.wrap .i64 (y 0)=y 0:=by rw[w64]<;>omega
        have u1:IntKind.wrap .i64 (y 1)=y 1:=by rw[w64]<;>omega
        have u2:IntKind.wrap .i64 (y 2)=y 2:=by rw[w64]<;>omega
        have u3:IntKind.wrap .i64 (y 3)=y 3:=by rw[w64]<;>omega
        have z0:Int.toNat 0=0:=rfl;have z1:Int.toNat 1=1:=rfl;have z2:Int.toNat 2=2:=rfl;have z3:Int.toNat 3=3:=rfl;have b:=X7g (y 1) (r.Devices.length:Int) y1.1 (by omega)
        have ht:=X7g (y 3) 10000 y3.1 (by omega)
        have c0:((r.Devices.length:Int)==0)=false:=X4j (by omega)
        rw[hT];simp only[b0,jA,hlen,bne_self_eq_false,z0,z1,z2,z3,u0,u1,u2,u3,c0,X8A];generalize Int.tmod (y 1) (r.Devices.length:Int)=d at b;generalize Int.tmod (y 3) 10000=t at ht;have c1:decide (0<=d)=true:=by simp[b.1]
        have c2:decide (d<(r.Devices.length:Int))=true:=by simp[b.2]
        obtain⟨S,hS,hS2,hS4⟩:=X4u hr b;have c3:((S:Int)==0)=false:=X4j (by omega)
        have v:=X7g (y 2) (S:Int) y2.1 (by omega)
        simp only[c1,c2,ju,jB,hS,c3,jA];generalize Int.tmod (y 2) (S:Int)=s at v;have n:X7e r l d t=(X18 r l d t,0):=by
          unfold X7e X18;have q1:WP 0 ((r.Devices.length:Int)-1) [d]=false:=by
            simp only[X2G,X3f,Bool.or_false,Bool.or_eq_false_iff,decide_eq_false_iff_not];omega
          have q2:WP 0 9999 [t]=false:=by
            simp only[X2G,X3f,Bool.or_false,Bool.or_eq_false_iff,decide_eq_false_iff_not];omega
          rw[if_neg (fun k=>k hs),q1,q2,ha];rfl
        have hN:X18 r l d t=X1j r l d t S:=by unfold X18;rw[hS,kS]
        have hsl:=X5f r l d t S;have hsb:=X5O r l d t S;have hsne:=X97 hr ha b t;have a0:=X8z b hS (X18 r l d t) (by rw[hN];omega) (by rw[hN];exact hsb) (X8v r l d t)
        have hw:X4C l d s t=some (X4g l d s t):=by
          rw[X6c];unfold X2W;have b1:Nat.ble ((0+l.length)*(32+1)) 200000000000000=true:=by rw[Nat.ble_eq];omega
          have b2:Nat.ble ((l.length+1)*(32+1)) 200000000000000=true:=by rw[Nat.ble_eq];omega
          simp only[b1,jB,List.nil_append,List.length_singleton,b2];rfl
        have hsw:(WH r (X4g l d s t)).2=0:=by
          rw[X8V (X7z hs) (by unfold X4g;rw[List.length_append,List.length_singleton];omega) fun x u=>?_]
          unfold X4g at u;rcases List.mem_append.1 u with q|q
          · exact a x q
          · rw[List.mem_singleton.1 q]
            exact X9f hr b hS v ht.1 (Int.le_refl _) (by omega)
        have o:WS r (X4g l d s t)=decide (s∈X18 r l d t):=by
          have f:WS r (X4g l d s t)=true↔s∈X18 r l d t:=by
            rw[X5g hr b,X4m];constructor
            · rintro⟨ms,h1,h2⟩
              exact⟨ms,⟨h1,fun x a=>h2 x (List.mem_append.2 (.inl a))⟩,(X7d h1 d s t).1 (h2 _ (List.mem_append.2 (.inr (List.mem_singleton.2 rfl))))⟩
            · rintro⟨ms,⟨h1,h2⟩,h3⟩
              refine⟨ms,h1,fun x a=>?_⟩;rcases List.mem_append.1 a with a|a
              · exact h2 x a
              · rw[List.mem_singleton.1 a]
                exact(X7d h1 d s t).2 h3
          by_cases q:s∈X18 r l d t
          · rw[f.2 q];simp[q]
          · cases e:WS r (X4g l d s t)with
            | true=>exact absurd (f.1 e) q
            | false=>simp[q]
        have g:decide (((X18 r l d t).length:Int)>0)=true:=by
          rw[jk];cases e:X18 r l d t with
          | nil=>exact absurd e hsne
          | cons=>simp only[List.length_cons];omega
        have m:(decide (s∈X18 r l d t)==decide (s∈X18 r l d t))=true:=by simp
        by_cases he:r.Entries.length=0
        · have c5:decide ((r.Entries.length:Int)>0)=false:=by simp[he]
          simp only[c5,jA,X4U,n,hw,p _ hsw,a0,jS,jy,b1,jB,g,X8T _ (by rw[hN];omega:(X18 r l d t).length<=1000000),o,m]
        · have c5:decide ((r.Entries.length:Int)>0)=true:=by simp;omega
          have c6:((r.Entries.length:Int)==0)=false:=X4j (by omega)
          have z:=X7g (y 0) (r.Entries.length:Int) y0.1 (by omega)
          obtain⟨i,hi⟩:=Int.eq_ofNat_of_zero_le z.1;rw[hi]at z⊢;have w:i<r.Entries.length:=by omega
          have c7:decide ((i:Int)<(r.Entries.length:Int))=true:=by simp;omega
          simp only[c5,c6,c7,z0S,kS,ju,XP _ _ _ w,X8y hs ha i w,jB,jA,X4U,n,hw,p _ hsw,a0,jS,jy,b1,g,X8T _ (by rw[hN];omega:(X18 r l d t).length<=1000000),o,m]
  · have hz:((WH r l).2==0)=false:=X4j hs
    simp only[jS,hz,Bool.not_false,jB]
theorem X6o (r:CoRecord) (l:List Zr) (y:Nat->Int) (hy:∀j,j<4->(Lit.int .u16 (y j)).wf=true):X1A r l y=some true :=
  X6n r l y fun j a=>X9p (hy j a)
end Nore
