/- The plain functions of the program and of the document answer alike. -/
import Derived.Test.YtlgmncmjacjgmaaGreatDoorY
import Derived.Test.YtlgmncmjacjgmaaGreatDoorD
set_option linter.unusedSectionVars false
set_option linter.unusedVariables false
set_option linter.unusedSimpArgs false
open Go Go.Ab
namespace Nore
theorem w64 {x:Int} (a : -9223372036854775808<=x) (b:x<=9223372036854775807):IntKind.wrap .i64 x=x:=by
  simp only[IntKind.wrap,IntKind.signed,IntKind.bits];simp;omega
theorem jS {α β:Type} (a:α) (f:α->Option β):Option.bind (some a) f=f a:=rfl
theorem kS (n:Nat):Int.toNat (n:Int)=n:=rfl
theorem wS (i:Nat) (h:i<9223372036854775807):IntKind.wrap .i64 ((i:Int)+1)=((i+1:Nat):Int):=by rw[w64]<;>omega
theorem z0S (i:Nat):decide ((0:Int)<=↑i)=true:=by simp
theorem X6P {σ ω γ:Type} (st:σ->Option (σ⊕ω)) (k:ω->Option γ) (s:σ):Option.bind (Z8I st s) k=Option.bind (st s) (Sum.elim (fun s'=>Option.bind (Z8I st s') k) k):=by
  rw[ZjJ];cases st s with
  | none=>rfl
  | some r=>cases r<;>rfl
theorem X1H {β σ ω γ:Type} (st:σ->Option (σ⊕ω)) (k:ω->Option γ) (n:Nat) (emb:Nat->β->σ) (P:Nat->β->Prop) (nice:Nat->β->Option γ)
    (d:∀b,P n b->∀R:σ->Option γ,Option.bind (st (emb n b)) (Sum.elim R k)=nice n b)
    (e:∀i b,i<n->P i b->∀R:σ->Option γ,(∀b',P (i+1) b'->R (emb (i+1) b')=nice (i+1) b')->Option.bind (st (emb i b)) (Sum.elim R k)=nice i b) :
    ∀i b,i<=n->P i b->Option.bind (Z8I st (emb i b)) k=nice i b:=by
  intro i b hi c
  induction hj:n-i generalizing i b with
  | zero =>
    have:i=n:=by omega
    subst this;rw[X6P];exact d b c _
  | succ j ih =>
    rw[X6P];exact e i b (by omega) c _ fun b' a=>ih (i+1) b' (by omega) a (by omega)
theorem X3q {a b:Int} (h:¬a=b):(a==b)=false:=beq_eq_false_iff_ne.2 h
theorem X3r {a b:Int} (h:¬a=b):(a != b)=true:=bne_iff_ne.2 h
theorem We {α:Type} (l:List α) (i:Nat) (d:α) (h:i<l.length):l.getD i d=l[i]:=by simp[List.getD,h]
theorem X1Z {β σ ω:Type} (st:σ->Option (σ⊕ω)) (n:Nat) (emb:Nat->β->σ) (P:Nat->β->Prop) (Q:ω->Prop)
    (e:∀b,P n b->∃w,st (emb n b)=some (.inr w)/\Q w)
    (g:∀i b,i<n->P i b->(∃w,st (emb i b)=some (.inr w)/\Q w)\/∃b',st (emb i b)=some (.inl (emb (i+1) b'))/\P (i+1) b') :
    ∀i b,i<=n->P i b->∃w,Z8I st (emb i b)=some w/\Q w:=by
  intro i b hi d
  induction hj:n-i generalizing i b with
  | zero =>
    have:i=n:=by omega
    subst this;obtain⟨w,c,a⟩:=e b d;exact⟨w,by rw[ZjJ,c];rfl,a⟩
  | succ j ih =>
    rcases g i b (by omega) d with⟨w,c,a⟩|⟨b',c,a⟩
    · exact⟨w,by rw[ZjJ,c];rfl,a⟩
    · obtain⟨w,f,h⟩:=ih (i+1) b' (by omega) a (by omega)
      exact⟨w,by rw[ZjJ,c];exact f,h⟩
end Nore
namespace Nore
structure Con where
  lo:Nat->Int
  hi:Nat->Int
  ap:List (Nat×Nat)
def X7D (n:Nat) (x:Nat->Int):Prop:=∀i,i+1<n->x i<=x (i+1)
def ApN (ap:List (Nat×Nat)) (x:Nat->Int):Prop:=∀p∈ap,x p.1+1<=x p.2
def UpN (n:Nat) (c:Con) (x:Nat->Int):Prop:=(∀i,i<n->c.lo i<=x i)/\X7D n x/\ApN c.ap x
def DnN (n:Nat) (c:Con) (x:Nat->Int):Prop:=(∀i,i<n->x i<=c.hi i)/\X7D n x/\ApN c.ap x
def Sol (n:Nat) (c:Con) (x:Nat->Int):Prop:=UpN n c x/\DnN n c x
structure X5k (n:Nat) (c:Con) (L:Nat->Int):Prop where
  up:UpN n c L
  least:∀x,UpN n c x->∀i,i<n->L i<=x i
structure X5j (n:Nat) (c:Con) (H:Nat->Int):Prop where
  dn:DnN n c H
  great:∀x,DnN n c x->∀i,i<n->x i<=H i
def X5D (n:Nat) (ap:List (Nat×Nat)):Prop:=∀p∈ap,p.1<p.2/\p.2<n
theorem X7u {n:Nat} {c c':Con} {L L':Nat->Int} (h:X5k n c L) (h':X5k n c' L') (e:∀x,UpN n c x↔UpN n c' x):∀i,i<n->L i=L' i:=fun i hi =>
  Int.le_antisymm (h.least _ ((e _).2 h'.up) i hi) (h'.least _ ((e _).1 h.up) i hi)
theorem X7t {n:Nat} {c c':Con} {H H':Nat->Int} (h:X5j n c H) (h':X5j n c' H') (e:∀x,DnN n c x↔DnN n c' x):∀i,i<n->H i=H' i:=fun i hi =>
  Int.le_antisymm (h'.great _ ((e _).1 h.dn) i hi) (h.great _ ((e _).2 h'.dn) i hi)
theorem X6o {n:Nat} {c:Con} {L H:Nat->Int} (hL:X5k n c L) (a:X5j n c H) (h:∀i,i<n->L i<=H i):Sol n c L :=
  ⟨hL.up,fun i hi=>Int.le_trans (h i hi) (a.dn.1 i hi),hL.up.2.1,hL.up.2.2⟩
theorem X7p {n:Nat} {c:Con} {L H:Nat->Int} (hL:X5k n c L) (a:X5j n c H) (h:∀i,i<n->L i<=H i):Sol n c H :=
  ⟨⟨fun i hi=>Int.le_trans (hL.up.1 i hi) (h i hi),a.dn.2.1,a.dn.2.2⟩,a.dn⟩
theorem X7f {n:Nat} {c:Con} {L H:Nat->Int} (hL:X5k n c L) (a:X5j n c H):(∃x,Sol n c x)↔∀i,i<n->L i<=H i :=
  ⟨fun⟨x,h1,h2⟩ i hi=>Int.le_trans (hL.least x h1 i hi) (a.great x h2 i hi),fun h=>⟨L,X6o hL a h⟩⟩
def X57 (L:Nat->Int):List (Nat×Nat)->Nat->Int->Int
  | [],_,a=>a
  | p::ps,i,a=>X57 L ps i (if p.2=i then(if L p.1+1>a then L p.1+1 else a)else a)
def up1 (ap:List (Nat×Nat)) (L:Nat->Int) (i:Nat):Int:=X57 L ap i (if 0<i then(if L (i-1)>L i then L (i-1)else L i)else L i)
def WO (ap:List (Nat×Nat)):Nat->(Nat->Int)->Nat->Int
  | 0,L=>L
  | k+1,L=>fun j=>if j=k then up1 ap (WO ap k L) k else WO ap k L j
theorem X6v (L:Nat->Int) (i:Nat):∀(ap:List (Nat×Nat)) (a:Int),a<=X57 L ap i a/\∀p∈ap,p.2=i->L p.1+1<=X57 L ap i a
  | [],a=>⟨Int.le_refl _,by simp⟩
  | p::ps,a=>by
    unfold X57;have b:a<=(if p.2=i then(if L p.1+1>a then L p.1+1 else a)else a)/\(p.2=i->L p.1+1<=(if p.2=i then(if L p.1+1>a then L p.1+1 else a)else a)):=by
      by_cases e:p.2=i
      · by_cases e2:L p.1+1>a
        · simp only[e,e2,if_true];exact⟨by omega,fun _=>Int.le_refl _⟩
        · simp only[e,e2,if_true,if_false];exact⟨Int.le_refl _,fun _=>by omega⟩
      · simp only[e,if_false];exact⟨Int.le_refl _,fun h=>h.elim⟩
    generalize (if p.2=i then(if L p.1+1>a then L p.1+1 else a)else a)=a' at b⊢;obtain⟨d,f⟩:=X6v L i ps a';refine⟨Int.le_trans b.1 d,fun q c e=>?_⟩;rcases jv.1 c with rfl|c
    · exact Int.le_trans (b.2 e) d
    · exact f q c e
theorem X6w (L:Nat->Int) (i:Nat) (b:Int):∀(ap:List (Nat×Nat)) (a:Int),a<=b->(∀p∈ap,p.2=i->L p.1+1<=b)->X57 L ap i a<=b
  | [],_,h,_=>h
  | p::ps,a,h,hp=>by
    unfold X57;refine X6w L i b ps _ ?_ fun q c=>hp q (by simp[c])
    have:=hp p (by simp)
    split
    · rename_i e
      have:=this e;split<;>omega
    · exact h
theorem X7j (ap:List (Nat×Nat)) (L:Nat->Int):∀(k j:Nat),k<=j->WO ap k L j=L j
  | 0,_,_=>rfl
  | k+1,j,h=>by
    unfold WO;rw[if_neg (by omega)]
    exact X7j ap L k j (by omega)
theorem X30 {n:Nat} {c:Con} (g:X5D n c.ap):X5k n c (WO c.ap n c.lo):=by
  have main:∀k,k<=n->(∀i,i<k->c.lo i<=WO c.ap k c.lo i)/\(∀i,i+1<k->WO c.ap k c.lo i<=WO c.ap k c.lo (i+1))/\(∀p∈c.ap,p.2<k->WO c.ap k c.lo p.1+1<=WO c.ap k c.lo p.2) ∧
      ∀x,UpN n c x->∀i,i<k->WO c.ap k c.lo i<=x i:=by
    intro k
    induction k with
    | zero=>intro _;exact⟨fun i h=>by omega,fun i h=>by omega,fun p _ h=>by omega,fun x _ i h=>by omega⟩
    | succ k ih =>
      intro w;obtain⟨r,o,q,m⟩:=ih (by omega)
      have a:∀j,j≠k->WO c.ap (k+1) c.lo j=WO c.ap k c.lo j:=fun j v=>by show(if j=k then _ else _)=_;rw[if_neg v]
      have b:WO c.ap (k+1) c.lo k=up1 c.ap (WO c.ap k c.lo) k:=by show(if k=k then _ else _)=_;rw[if_pos rfl]
      have f:WO c.ap k c.lo k=c.lo k:=X7j _ _ _ _ (Nat.le_refl _);obtain⟨g1,g2⟩:=X6v (WO c.ap k c.lo) k c.ap (if 0<k then(if WO c.ap k c.lo (k-1)>WO c.ap k c.lo k then WO c.ap k c.lo (k-1)else WO c.ap k c.lo k)else WO c.ap k c.lo k);have g0:WO c.ap k c.lo k<=(if 0<k then(if WO c.ap k c.lo (k-1)>WO c.ap k c.lo k then WO c.ap k c.lo (k-1)else WO c.ap k c.lo k)else WO c.ap k c.lo k):=by
        split
        · split<;>omega
        · exact Int.le_refl _
      refine⟨fun i hi=>?_,fun i hi=>?_,fun p d hi=>?_,fun x l i hi=>?_⟩
      · by_cases e:i=k
        · subst e;rw[b,<-f];exact Int.le_trans g0 g1
        · rw[a i e];exact r i (by omega)
      · by_cases e:i+1=k
        · subst e
          rw[b,a i (by omega)]
          refine Int.le_trans ?_ g1;rw[if_pos (by omega),Nat.add_sub_cancel]
          split<;>omega
        · rw[a i (by omega),a (i+1) e];exact o i (by omega)
      · have:=g p d
        by_cases e:p.2=k
        · rw[e,b,a p.1 (by omega)];exact g2 p d e
        · rw[a p.1 (by omega),a p.2 e];exact q p d (by omega)
      · by_cases e:i=k
        · subst e
          rw[b];refine X6w _ _ _ _ _ ?_ fun p d e=>?_
          · have s:=l.1 i (by omega)
            rw[f];split
            · have:=m x l (i-1) (by omega)
              have t:=l.2.1 (i-1) (by omega)
              rw[Nat.sub_add_cancel (by omega)]at t
              split<;>omega
            · exact s
          · have y:=g p d
            have:=m x l p.1 (by omega)
            have u:=l.2.2 p d;rw[e]at u;omega
        · rw[a i e];exact m x l i (by omega)
  obtain⟨r,o,q,m⟩:=main n (Nat.le_refl _);exact⟨⟨r,o,fun p d=>q p d (g p d).2⟩,m⟩
def X58 (H:Nat->Int):List (Nat×Nat)->Nat->Int->Int
  | [],_,a=>a
  | p::ps,i,a=>X58 H ps i (if p.1=i then(if H p.2-1<a then H p.2-1 else a)else a)
def dn1 (n:Nat) (ap:List (Nat×Nat)) (H:Nat->Int) (i:Nat):Int:=X58 H ap i (if i+1<n then(if H (i+1)<H i then H (i+1)else H i)else H i)
def WN (n:Nat) (ap:List (Nat×Nat)):Nat->(Nat->Int)->Nat->Int
  | 0,H=>H
  | k+1,H=>fun j=>if j=n-1-k then dn1 n ap (WN n ap k H) (n-1-k)else WN n ap k H j
theorem X6y (H:Nat->Int) (i:Nat):∀(ap:List (Nat×Nat)) (a:Int),X58 H ap i a<=a/\∀p∈ap,p.1=i->X58 H ap i a<=H p.2-1
  | [],a=>⟨Int.le_refl _,by simp⟩
  | p::ps,a=>by
    unfold X58;have b:(if p.1=i then(if H p.2-1<a then H p.2-1 else a)else a)<=a/\(p.1=i->(if p.1=i then(if H p.2-1<a then H p.2-1 else a)else a)<=H p.2-1):=by
      by_cases e:p.1=i
      · by_cases e2:H p.2-1<a
        · simp only[e,e2,if_true];exact⟨by omega,fun _=>Int.le_refl _⟩
        · simp only[e,e2,if_true,if_false];exact⟨Int.le_refl _,fun _=>by omega⟩
      · simp only[e,if_false];exact⟨Int.le_refl _,fun h=>h.elim⟩
    generalize (if p.1=i then(if H p.2-1<a then H p.2-1 else a)else a)=a' at b⊢;obtain⟨d,f⟩:=X6y H i ps a';refine⟨Int.le_trans d b.1,fun q c e=>?_⟩;rcases jv.1 c with rfl|c
    · exact Int.le_trans d (b.2 e)
    · exact f q c e
theorem X6x (H:Nat->Int) (i:Nat) (b:Int):∀(ap:List (Nat×Nat)) (a:Int),b<=a->(∀p∈ap,p.1=i->b<=H p.2-1)->b<=X58 H ap i a
  | [],_,h,_=>h
  | p::ps,a,h,hp=>by
    unfold X58;refine X6x H i b ps _ ?_ fun q c=>hp q (by simp[c])
    have:=hp p (by simp)
    split
    · rename_i e
      have:=this e;split<;>omega
    · exact h
theorem X7c (n:Nat) (ap:List (Nat×Nat)) (H:Nat->Int):∀(k j:Nat),k<=n->j+k<n->WN n ap k H j=H j
  | 0,_,_,_=>rfl
  | k+1,j,hk,h=>by
    unfold WN;rw[if_neg (by omega)]
    exact X7c n ap H k j (by omega) (by omega)
theorem X2U {n:Nat} {c:Con} (l:X5D n c.ap):X5j n c (WN n c.ap n c.hi):=by
  have main:∀k,k<=n->(∀i,i<n->n<=i+k->WN n c.ap k c.hi i<=c.hi i)/\(∀i,i+1<n->n<=i+k->WN n c.ap k c.hi i<=WN n c.ap k c.hi (i+1))/\(∀p∈c.ap,n<=p.1+k->WN n c.ap k c.hi p.1+1<=WN n c.ap k c.hi p.2) ∧
      ∀x,DnN n c x->∀i,i<n->n<=i+k->x i<=WN n c.ap k c.hi i:=by
    intro k
    induction k with
    | zero=>intro _;exact⟨fun i h h'=>by omega,fun i h h'=>by omega,fun p d h=>by have:=l p d;omega,fun x _ i h h'=>by omega⟩
    | succ k ih =>
      intro y;obtain⟨t,r,s,o⟩:=ih (by omega)
      have a:∀j,j≠n-1-k->WN n c.ap (k+1) c.hi j=WN n c.ap k c.hi j:=fun j v=>by show(if j=n-1-k then _ else _)=_;rw[if_neg v]
      have b:WN n c.ap (k+1) c.hi (n-1-k)=dn1 n c.ap (WN n c.ap k c.hi) (n-1-k):=by show(if n-1-k=n-1-k then _ else _)=_;rw[if_pos rfl]
      have f:WN n c.ap k c.hi (n-1-k)=c.hi (n-1-k):=X7c _ _ _ _ _ (by omega) (by omega)
      obtain⟨g1,g2⟩:=X6y (WN n c.ap k c.hi) (n-1-k) c.ap (if n-1-k+1<n then(if WN n c.ap k c.hi (n-1-k+1)<WN n c.ap k c.hi (n-1-k)then WN n c.ap k c.hi (n-1-k+1)else WN n c.ap k c.hi (n-1-k))else WN n c.ap k c.hi (n-1-k));have g0:(if n-1-k+1<n then(if WN n c.ap k c.hi (n-1-k+1)<WN n c.ap k c.hi (n-1-k)then WN n c.ap k c.hi (n-1-k+1)else WN n c.ap k c.hi (n-1-k))else WN n c.ap k c.hi (n-1-k))<=WN n c.ap k c.hi (n-1-k):=by
        split
        · split<;>omega
        · exact Int.le_refl _
      refine⟨fun i hi m=>?_,fun i hi m=>?_,fun p d hi=>?_,fun x g i hi m=>?_⟩
      · by_cases e:i=n-1-k
        · rw[e,b,<-f];exact Int.le_trans g1 g0
        · rw[a i e];exact t i hi (by omega)
      · by_cases e:i=n-1-k
        · rw[e,b,a (n-1-k+1) (by omega)]
          refine Int.le_trans g1 ?_;rw[if_pos (by omega)]
          split<;>omega
        · rw[a i e,a (i+1) (by omega)];exact r i hi (by omega)
      · have:=l p d
        by_cases e:p.1=n-1-k
        · have:=g2 p d e
          rw[e,b,a p.2 (by omega)]
          unfold dn1;omega
        · rw[a p.1 e,a p.2 (by omega)];exact s p d (by omega)
      · by_cases e:i=n-1-k
        · rw[e,b]
          refine X6x _ _ _ _ _ ?_ fun p d e'=>?_
          · have q:=g.1 i hi
            rw[e]at q;rw[f];split
            · have:=o x g (n-1-k+1) (by omega) (by omega)
              have w:=g.2.1 (n-1-k) (by omega)
              split<;>omega
            · exact q
          · have z:=l p d
            have:=o x g p.2 (by omega) (by omega)
            have u:=g.2.2 p d;rw[e']at u;omega
        · rw[a i e];exact o x g i hi (by omega)
  obtain⟨t,r,s,o⟩:=main n (Nat.le_refl _);exact⟨⟨fun i hi=>t i hi (by omega),fun i hi=>r i hi (by omega),fun p d=>s p d (by omega)⟩,fun x g i hi=>o x g i hi (by omega)⟩
def X4b (n:Nat) (c:Con):Nat->Int:=WO c.ap n c.lo
def X4a (n:Nat) (c:Con):Nat->Int:=WN n c.ap n c.hi
def okN (n:Nat) (c:Con):Bool:=(List.range n).all fun i=>decide (X4b n c i<=X4a n c i)
theorem X59 {n:Nat} {c:Con}:okN n c=true↔∀i,i<n->X4b n c i<=X4a n c i:=by
  unfold okN;rw[List.all_eq_true];exact⟨fun h i hi=>by simpa using h i (List.mem_range.2 hi),fun h i hi=>by simpa using h i (List.mem_range.1 hi)⟩
abbrev Str:=Int×Nat
def X22 (n:Nat) (c:Con) (s:Str) (a b:Int):Con where
  hi:=fun i=>if 0<=s.1/\i=s.1.toNat then(if b<c.hi i then b else c.hi i)else c.hi i
  lo:=fun i=>if s.2<n/\i=s.2 then(if a+1>c.lo i then a+1 else c.lo i)else c.lo i
  ap:=if 0<=s.1/\s.2<n then c.ap++[(s.1.toNat,s.2)]else c.ap
def X5t (n:Nat) (s:Str):Prop:=s.1<s.2/\s.2<=n /\ -1<=s.1
theorem X7d {n:Nat} {c:Con} (h:X5D n c.ap) {s:Str} (e:X5t n s) (a b:Int):X5D n (X22 n c s a b).ap:=by
  unfold X22;simp only;split
  · rename_i hc
    intro p d;rcases List.mem_append.1 d with d|d
    · exact h p d
    · simp only[List.mem_singleton]at d
      subst d;unfold X5t at e;simp only;omega
  · exact h
def X76 (n:Nat) (x:Nat->Int) (s:Str) (a b:Int):Prop:=(0<=s.1->x s.1.toNat<=b)/\(s.2<n->a+1<=x s.2)/\(0<=s.1->s.2<n->x s.1.toNat+1<=x s.2)
theorem X5z {n:Nat} {c:Con} {s:Str} {a b:Int} {x:Nat->Int}:ApN (X22 n c s a b).ap x↔ApN c.ap x/\(0<=s.1->s.2<n->x s.1.toNat+1<=x s.2):=by
  unfold X22 ApN;simp only;split
  · rename_i hc
    constructor
    · intro h
      exact⟨fun p d=>h p (List.mem_append.2 (.inl d)),fun _ _=>h (s.1.toNat,s.2) (List.mem_append.2 (.inr (by simp)))⟩
    · rintro⟨f,e⟩ p d
      rcases List.mem_append.1 d with d|d
      · exact f p d
      · simp only[List.mem_singleton]at d
        subst d;exact e hc.1 hc.2
  · rename_i hc
    exact⟨fun h=>⟨h,fun f e=>absurd ⟨f,e⟩ hc⟩,fun h=>h.1⟩
theorem X7z {n:Nat} {c:Con} {s:Str} {a b:Int} {x:Nat->Int}:UpN n (X22 n c s a b) x↔UpN n c x/\(s.2<n->a+1<=x s.2)/\(0<=s.1->s.2<n->x s.1.toNat+1<=x s.2):=by
  unfold UpN;rw[X5z];have e:(∀i,i<n->(X22 n c s a b).lo i<=x i)↔(∀i,i<n->c.lo i<=x i)/\(s.2<n->a+1<=x s.2):=by
    unfold X22;simp only;constructor
    · intro h
      refine⟨fun i hi=>?_,fun l=>?_⟩
      · have:=h i hi
        split at this
        · split at this<;>omega
        · exact this
      · have:=h s.2 l
        rw[if_pos ⟨l,rfl⟩]at this;split at this<;>omega
    · rintro⟨f,d⟩ i hi
      have:=f i hi;split
      · rename_i hc
        have g:=d hc.1;rw[<-hc.2]at g;split<;>omega
      · exact this
  rw[e];constructor
  · rintro⟨⟨f,d⟩,g,j,k⟩;exact⟨⟨f,g,j⟩,d,k⟩
  · rintro⟨⟨f,g,j⟩,d,k⟩;exact⟨⟨f,d⟩,g,j,k⟩
theorem X7y {n:Nat} {c:Con} {s:Str} (m:X5t n s) {a b:Int} {x:Nat->Int}:DnN n (X22 n c s a b) x↔DnN n c x/\(0<=s.1->x s.1.toNat<=b)/\(0<=s.1->s.2<n->x s.1.toNat+1<=x s.2):=by
  unfold DnN;rw[X5z];have e:(∀i,i<n->x i<=(X22 n c s a b).hi i)↔(∀i,i<n->x i<=c.hi i)/\(0<=s.1->x s.1.toNat<=b):=by
    unfold X22;unfold X5t at m;simp only;constructor
    · intro h
      refine⟨fun i hi=>?_,fun l=>?_⟩
      · have:=h i hi
        split at this
        · split at this<;>omega
        · exact this
      · have:=h s.1.toNat (by omega)
        rw[if_pos ⟨l,rfl⟩]at this;split at this<;>omega
    · rintro⟨g,d⟩ i hi
      have:=g i hi;split
      · rename_i hc
        have f:=d hc.1;rw[<-hc.2]at f;split<;>omega
      · exact this
  rw[e];constructor
  · rintro⟨⟨g,d⟩,f,j,k⟩;exact⟨⟨g,f,j⟩,d,k⟩
  · rintro⟨⟨g,f,j⟩,d,k⟩;exact⟨⟨g,d⟩,f,j,k⟩
theorem X6Q {n:Nat} {c:Con} {s:Str} (i:X5t n s) {a b:Int} {x:Nat->Int}:Sol n (X22 n c s a b) x↔Sol n c x/\X76 n x s a b:=by
  unfold Sol X76;rw[X7z,X7y i];constructor
  · rintro⟨⟨g,e,d⟩,f,h,_⟩;exact⟨⟨g,f⟩,h,e,d⟩
  · rintro⟨⟨g,f⟩,h,e,d⟩;exact⟨⟨g,e,d⟩,f,h,d⟩
def EqC (n:Nat) (c c':Con):Prop:=(∀x,UpN n c x↔UpN n c' x)/\∀x,DnN n c x↔DnN n c' x
theorem EqC.lo {n:Nat} {c c':Con} (h:EqC n c c') (a:X5D n c.ap) (b:X5D n c'.ap) (i:Nat) (hi:i<n):X4b n c i=X4b n c' i:=X7u (X30 a) (X30 b) h.1 i hi
theorem EqC.hi {n:Nat} {c c':Con} (h:EqC n c c') (a:X5D n c.ap) (b:X5D n c'.ap) (i:Nat) (hi:i<n):X4a n c i=X4a n c' i:=X7t (X2U a) (X2U b) h.2 i hi
def X6z (n:Nat) (c:Con):Con:=⟨X4b n c,X4a n c,c.ap⟩
structure Wit where
  strs:List Str
  a:Int
  b:Int
def X77 (n:Nat) (w:Wit):Prop:=∀s∈w.strs,X5t n s
def X8 (n:Nat):List Wit->Con->List Con
  | [],c=>if okN n c then [X6z n c]else []
  | w::ws,c=>if okN n c then w.strs.flatMap fun s=>X8 n ws (X22 n c s w.a w.b)else []
def X7r (n:Nat) (c:Con) (ws:List Wit) (x:Nat->Int):Prop:=Sol n c x/\∀w∈ws,∃s∈w.strs,X76 n x s w.a w.b
theorem X49 {n:Nat}:∀(ws:List Wit) (c:Con),(∀w∈ws,X77 n w)->X5D n c.ap->∀d∈X8 n ws c,X7r n c ws d.lo/\X7r n c ws d.hi/\∀i,i<n->d.lo i<=d.hi i
  | [],c,_,h1,d,a=>by
    unfold X8 at a;split at a
    · rename_i g
      simp only[List.mem_singleton]at a;subst a;have b:=X59.1 g;exact⟨⟨X6o (X30 h1) (X2U h1) b,by simp⟩,⟨X7p (X30 h1) (X2U h1) b,by simp⟩,b⟩
    · cases a
  | w::ws,c,hw,h1,d,a=>by
    unfold X8 at a;split at a
    · obtain⟨s,f,a⟩:=List.mem_flatMap.1 a
      have e:=hw w (by simp) s f
      obtain⟨⟨k1,k2⟩,⟨k3,k4⟩,k5⟩:=X49 ws _ (fun v hv=>hw v (by simp[hv])) (X7d h1 e _ _) d a
      rw[X6Q e]at k1 k3;refine⟨⟨k1.1,fun v hv=>?_⟩,⟨k3.1,fun v hv=>?_⟩,k5⟩
      · rcases jv.1 hv with rfl|hv
        · exact⟨s,f,k1.2⟩
        · exact k2 v hv
      · rcases jv.1 hv with rfl|hv
        · exact⟨s,f,k3.2⟩
        · exact k4 v hv
    · cases a
theorem X4t {n:Nat}:∀(ws:List Wit) (c:Con),(∀w∈ws,X77 n w)->X5D n c.ap->∀x,X7r n c ws x->∃d∈X8 n ws c,∀i,i<n->d.lo i<=x i/\x i<=d.hi i
  | [],c,_,h1,x,hx=>by
    have g:okN n c=true:=X59.2 ((X7f (X30 h1) (X2U h1)).1 ⟨x,hx.1⟩);unfold X8;rw[if_pos g];exact⟨X6z n c,List.mem_singleton.2 rfl,fun i hi=>⟨(X30 h1).least x hx.1.1 i hi,(X2U h1).great x hx.1.2 i hi⟩⟩
  | w::ws,c,hw,h1,x,hx=>by
    have g:okN n c=true:=X59.2 ((X7f (X30 h1) (X2U h1)).1 ⟨x,hx.1⟩);unfold X8;rw[if_pos g];obtain⟨s,j,e⟩:=hx.2 w (by simp)
    have f:=hw w (by simp) s j
    obtain⟨d,k,h⟩:=X4t ws (X22 n c s w.a w.b) (fun v hv=>hw v (by simp[hv])) (X7d h1 f _ _) x ⟨(X6Q f).2 ⟨hx.1,e⟩,fun v hv=>hx.2 v (by simp[hv])⟩
    exact⟨d,List.mem_flatMap.2 ⟨s,j,k⟩,h⟩
theorem X6N {n:Nat} {ws:List Wit} {c:Con} (b:∀w∈ws,X77 n w) (e:X5D n c.ap):X8 n ws c≠[]↔∃x,X7r n c ws x:=by
  constructor
  · intro h
    obtain⟨d,a⟩:=List.exists_mem_of_ne_nil _ h;exact⟨_,(X49 ws c b e d a).1⟩
  · rintro⟨x,f⟩ h
    obtain⟨d,a,_⟩:=X4t ws c b e x f;rw[h]at a;cases a
end Nore
open Go Go.Ab
namespace Nore
def X1Y (lo hi:Int) (l:List Int):Bool:=l.any fun n=>decide (n<lo)||decide (n>hi)
theorem X5a (lo hi:Int):X1Y lo hi []=false:=rfl
theorem X4G (lo hi n:Int) (l:List Int):X1Y lo hi (n::l)=(decide (n<lo)||decide (n>hi)||X1Y lo hi l):=rfl
def inN (n lo hi:Int):Bool:=decide (lo<=n)&&decide (n<=hi)
theorem X4y (n lo hi:Int):X3K n lo hi=some (inN n lo hi):=by
  unfold X3K inN
  by_cases h:lo<=n<;>simp[h]
def X4u:Int->List UInt8->Option Int
  | last,[]=>some last
  | last,c::l=>if 97<=(c.toNat:Int)/\(c.toNat:Int)<=122 then X4u c.toNat l else if(c.toNat:Int)≠45\/last=45 then none else X4u c.toNat l
def X3R:Option Int->Bool
  | none=>false
  | some last=>last != 45
def X4V (s:ByteArray):Bool:=decide (s.size<=14)&&X3R (X4u 45 s.toList)
theorem X7l (s:ByteArray) (i:Nat) (h:(s.get! i).toNat<128):Utf8.decode s i=((s.get! i).toNat,1):=by
  unfold Utf8.decode;simp only[Nat.add_zero];rw[if_pos h]
theorem X7k (s:ByteArray) (i:Nat) (h:¬(s.get! i).toNat<128):128<=(Utf8.decode s i).1:=by
  unfold Utf8.decode;simp only[Nat.add_zero,Utf8.runeError];rw[if_neg h]
  repeat' split
  all_goals simp_all
  all_goals omega
theorem X29 (s:ByteArray):s.toList.length=s.size:=by rw[ByteArray.toList_eq];rfl
theorem X6Y (s:ByteArray) (i:Nat) (h:i<s.toList.length):s.get! i=s.toList[i]:=by
  have a:i<s.size:=by rw[<-X29];exact h
  simp only[ByteArray.toList_eq];show(s.data[i]!)=_;have b:i<s.data.size:=a;rw[getElem!_pos s.data i b];rfl
theorem X6a (s:ByteArray):X46 s=some (X4V s):=by
  have key:=X1H (X1m s s) (fun o0=>Sum.elim (fun y1:Bool×Nat=>some y1.fst) (fun y2:Int×Nat=>bif decide ((↑(ByteArray.size s):Int)<=14)then some (y2.fst != 45)else some false) o0) s.toList.length (fun i (b:Int)=>(b,i)) (fun _ _=>True) (fun i b=>some (decide (s.size<=14)&&X3R (X4u b (s.toList.drop i))))
    (by
      intro b _ R;have hh:(decide ((↑s.size:Int)<=14))=decide (s.size<=14):=by rw[decide_eq_decide];omega
      have j:s.toList.drop s.size=[]:=jd (by rw[X29];exact Nat.le_refl _)
      simp only[j,X4u,X3R,X1m,X1o,X29,hh,Nat.lt_irrefl,decide_false,jA,jS,jy];cases decide (s.size<=14)<;>simp)
    (by
      intro i b hi _ R k;have f:i<s.size:=by rw[<-X29];exact hi
      have g:=X6Y s i hi;simp only[X1m,X1o];rw[jb hi];simp only[X4u]
      by_cases h:(s.get! i).toNat<128
      · rw[X7l s i h]
        have e:=k ((s.get! i).toNat:Int) trivial;rw[g]at *;generalize s.toList[i]=c at *;simp only[f,decide_true,jB]
        by_cases h1:97<=(c.toNat:Int)
        · have q1:decide ((c.toNat:Int)>=97)=true:=decide_eq_true h1
          by_cases h2:(c.toNat:Int)<=122
          · have q2:decide ((c.toNat:Int)<=122)=true:=decide_eq_true h2
            simp only[decide_true,decide_false,q1,q2,jB,jS,jw,h1,h2,and_self,if_true];exact e
          · have q2:decide ((c.toNat:Int)<=122)=false:=decide_eq_false h2
            have a:¬((c.toNat:Int)=45):=by omega
            have q3:((c.toNat:Int) != 45)=true:=bne_iff_ne.2 a;simp only[decide_true,decide_false,q1,q2,q3,jB,jA,jS,jw,jy,h2,and_false,if_false,ne_eq,a,not_false_iff,true_or,if_true,X3R,Bool.and_false]
        · have q1:decide ((c.toNat:Int)>=97)=false:=decide_eq_false h1
          by_cases a:(c.toNat:Int)=45
          · have q3:((c.toNat:Int) != 45)=false:=by rw[a];rfl
            by_cases h4:b=45
            · have q4:(b==45)=true:=by rw[h4];rfl
              rw[q1,q3,q4,if_neg (fun hc=>h1 hc.1),if_pos (Or.inr h4)];simp[X3R]
            · have q4:(b==45)=false:=beq_eq_false_iff_ne.2 h4
              simp only[decide_true,decide_false,q1,q3,q4,jB,jA,jS,jw,jy,h1,false_and,if_false,h4,ne_eq,a,not_true,or_self,if_true];rw[a]at e;exact e
          · have q3:((c.toNat:Int) != 45)=true:=bne_iff_ne.2 a
            simp only[decide_true,decide_false,q1,q3,jB,jA,jS,jw,jy,h1,false_and,if_false,ne_eq,a,not_false_iff,true_or,if_true,X3R,Bool.and_false]
      · have h':=X7k s i h
        rw[g]at h;generalize s.toList[i]=c at *;simp only[f,decide_true,jB];generalize (Utf8.decode s i)=d at *;have e1:((d.1:Nat):Int)>=97:=by omega
        have e2:¬((d.1:Nat):Int)<=122:=by omega
        have e3:¬((d.1:Nat):Int)=45:=by omega
        have e4:¬((c.toNat:Int)<=122):=by omega
        have e5:¬((c.toNat:Int)=45):=by omega
        have q1:decide (((d.1:Nat):Int)>=97)=true:=decide_eq_true e1;have q2:decide (((d.1:Nat):Int)<=122)=false:=decide_eq_false e2;have q3:(((d.1:Nat):Int) != 45)=true:=bne_iff_ne.2 e3;simp only[decide_true,decide_false,q1,q2,q3,jB,jA,jS,jw,jy,e4,and_false,if_false,ne_eq,e5,not_false_iff,true_or,if_true,X3R,Bool.and_false])
  exact(key 0 45 (by omega) trivial).trans (by simp[X4V])
theorem X6d (s:ByteArray):X3J s=some (X4V s):=by
  unfold X3J;rw[X4y];simp only[jS]
  by_cases hsz:1<=s.size/\s.size<=14
  · have e1:inN (↑s.size) 1 14=true:=by simp[inN];omega
    rw[e1];simp only[Bool.not_true,jA];have o:=X29 s;have key:=X1H (X1n s) (fun o0=>Sum.elim (fun y76:Bool=>some y76) (fun _:Unit=>some true) o0) s.toList.length (fun i (_:Int)=>(i:Int)) (fun i b=>b=if i=0 then 45 else((s.toList.getD (i-1) 0).toNat:Int)) (fun i b=>some (if i<s.toList.length then X3R (X4u b (s.toList.drop i))else true))
      (by
        intro b _ R;simp[X1n,X1v,X29])
      (by
        intro i b hi j R n;have m:i<s.size:=by rw[<-X29];exact hi
        simp only[X1n,X1v];rw[jb hi];have a:=n ((s.toList[i]).toNat:Int) (by simp[List.getD,hi])
        have l:=wS i (by omega)
        have f:IntKind.wrap .i64 ((i:Int)-1)=((i:Int)-1):=by rw[w64]<;>omega
        have e:IntKind.wrap .i64 ((s.size:Int)-1)=((s.size:Int)-1):=by rw[w64]<;>omega
        simp only[X4u,kS,We _ _ _ hi,l,f,e];have d1:decide ((i:Int)<↑s.size)=true:=by simp[m]
        have d2:=z0S i;simp only[d1,d2,ju,jB,hi,if_true];generalize hc:s.toList[i]=c at *
        by_cases h1:97<=(c.toNat:Int)/\(c.toNat:Int)<=122
        · have q1:decide ((c.toNat:Int)>=97)=true:=decide_eq_true h1.1
          have q2:decide ((c.toNat:Int)<=122)=true:=decide_eq_true h1.2;simp only[decide_true,decide_false,q1,q2,jB,jS,jw,h1,and_self,if_true];have d:¬((c.toNat:Int)=45):=by omega
          rw[a]
          by_cases hi2:i+1<s.toList.length
          · simp[hi2]
          · have:s.toList.drop (i+1)=[]:=jd (by omega)
            simp[hi2,this,X4u,X3R,d]
        · have g:(bif decide ((c.toNat:Int)>=97)then bif decide ((c.toNat:Int)<=122)then true else false else false)=false:=by
            by_cases a1:(c.toNat:Int)>=97
            · by_cases a2:(c.toNat:Int)<=122
              · exact absurd ⟨a1,a2⟩ h1
              · simp[a1,a2]
            · simp[a1]
          have g2:∀(Z:Type) (x y:Z),(bif decide ((c.toNat:Int)>=97)then bif decide ((c.toNat:Int)<=122)then x else y else y)=y:=by
            intro Z x y
            by_cases a1:(c.toNat:Int)>=97
            · by_cases a2:(c.toNat:Int)<=122
              · exact absurd ⟨a1,a2⟩ h1
              · simp[a1,a2]
            · simp[a1]
          rw[g2,if_neg h1]
          by_cases h2:(c.toNat:Int)=45
          · simp only[h2,bne_self_eq_false,jA]
            by_cases h3:i=0
            · subst h3
              simp[j,X3R]
            · by_cases h4:i+1=s.size
              · have:s.toList.drop (i+1)=[]:=jd (by omega)
                have e5:(i:Int)=(s.size:Int)-1:=by omega
                have e6:((s.size:Int)-1==0)=false:=by simp;omega
                simp only[e5,e6,this,X4u]
                by_cases h5:b=45<;>simp[h5,X3R]
              · have e5:((i:Int)==(s.size:Int)-1)=false:=by simp;omega
                have e6:((i:Int)==0)=false:=by simp;omega
                have e7:(0:Int)<=(i:Int)-1:=by omega
                have e8:(i:Int)-1<(s.size:Int):=by omega
                have e9:((i:Int)-1).toNat=i-1:=by omega
                simp only[e5,e6,e7,e8,e9,jA,decide_true,ju,jB];simp only[h3,if_false]at j;rw[<-j]
                by_cases h5:b=45
                · simp[h5,X3R]
                · have q5:(b==45)=false:=beq_eq_false_iff_ne.2 h5
                  rw[h2]at a;rw[q5];simp only[jA,jS,jw,ne_eq,not_true,false_or,h5,if_false];rw[a];simp[show i+1<s.toList.length by omega]
          · have:((c.toNat:Int) != 45)=true:=by simp[h2]
            simp[this,h2,X3R])
    have:=key 0 45 (by omega) (by simp)
    refine this.trans ?_;simp[X4V,show 0<s.toList.length by omega,hsz.2]
  · have e1:inN (↑s.size) 1 14=false:=by
      simp[inN];omega
    rw[e1];simp only[Bool.not_false,jB,X4V]
    by_cases h:s.size<=14
    · have k:s.toList=[]:=by
        apply List.eq_nil_of_length_eq_zero;rw[X29];omega
      simp[k,X4u,X3R]
    · simp[h]
theorem X4F (n lo hi:Int):inN n lo hi = !X1Y lo hi [n]:=by
  simp only[inN,X4G,X5a,Bool.or_false,Bool.not_or];congr 1<;>rw[<-decide_not,decide_eq_decide]<;>omega
def X4H (lo hi:Int):Int->List Y2->Int
  | e,[]=>e
  | e,s::l=>if X1Y lo hi [s.Lo,s.Hi]then 7 else X4H lo hi (if s.Lo>s.Hi then 2 else e) l
theorem X5K (l:List Y2) (lo hi:Int) (h:l.length<1000000):X3f l lo hi=some (X4H lo hi 0 l):=by
  unfold X3f;exact X1H (WV lo l hi) _ l.length (fun i (b:Int)=>(b,(i:Int))) (fun _ _=>True) (fun i b=>some (X4H lo hi b (l.drop i)))
      (by
        intro b _ R;simp[WV,WX,X4H])
      (by
        intro i b c _ R d;simp only[WV,WX];rw[jb c];have e:=wS i (by omega)
        simp only[kS,We _ _ _ c,X4H,e];rw[X4y,X4y,X4F,X4F];have g:decide ((i:Int)<↑l.length)=true:=by simp[c]
        have f:=z0S i;simp only[g,f,ju,jB,jS];have a:X1Y lo hi [l[i].Lo,l[i].Hi]=(X1Y lo hi [l[i].Lo]||X1Y lo hi [l[i].Hi]):=by simp[X1Y]
        rw[a];cases h3:X1Y lo hi [l[i].Lo]
        · cases h4:X1Y lo hi [l[i].Hi]
          · by_cases h5:l[i].Lo>l[i].Hi
            · have:=d 2 trivial
              simp only[h5];simp;simpa using this
            · have:=d b trivial
              simp only[h5];simp;simpa using this
          · simp
        · simp) 0 0 (by omega) trivial
theorem Z9a (a b:ByteArray):(a==b)=(a.data==b.data):=by cases a;cases b;rfl
instance:LawfulBEq ByteArray where
  rfl:=by intro a;rw[Z9a];simp
  eq_of_beq:=by
    intro a b h;rw[Z9a]at h;have:=eq_of_beq h;cases a;cases b;simp only at this;rw[this]
instance:DecidableEq ByteArray:=fun a b=>if h:(a==b)=true then isTrue (eq_of_beq h)else isFalse (fun e=>h (by rw[e];simp))
def X4s (s:ByteArray) (names:List ByteArray):Int:=if X4V s then(if s∈names then 5 else 0)else 6
theorem X64 {a b:ByteArray} (h:a.toList=b.toList):a=b:=by
  cases a;cases b;simp only[ByteArray.toList_eq]at h;congr 1;exact Array.ext' h
theorem X5Z (s:ByteArray) (names:List ByteArray) (j:names.length<1000000):X3u s names=some (X4s s names):=by
  unfold X3u X4s;rw[X6d];simp only[jS];cases X4V s
  · simp
  · simp only[Bool.not_true,jA,if_true]
    unfold X3T;have key:=X1H (WL s names) (fun o78=>Option.bind (Sum.elim (fun y79:Int=>some y79) (fun _:Unit=>some (-1)) o78) fun r82=>bif decide (r82>=0)then some (5:Int)else some 0) names.length (fun i (_:Unit)=>(i:Int)) (fun _ _=>True) (fun i _=>some (if s∈names.drop i then 5 else 0))
      (by
        intro b _ R;simp[WL,X17])
      (by
        intro i b hi _ R f;have c:=f () trivial;simp only[WL,X17];rw[jb hi];have d:=wS i (by omega)
        simp only[kS,We _ _ _ hi,d];have g:decide ((i:Int)<↑names.length)=true:=by simp[hi]
        have e:=z0S i;simp only[g,e,ju,jB]
        by_cases h:names[i]=s
        · simp[h]
        · have h':(names[i].toList==s.toList)=false:=by
            simp only[beq_eq_false_iff_ne];intro hh;exact h (X64 hh)
          have a:¬s=names[i]:=fun hh=>h hh.symm;simp only[h',jA,jS,jw,jv,a,false_or];exact c)
    have:=key 0 () (by omega) trivial
    simp only[List.drop_zero]at this;rw[<-this];show Option.bind (Option.bind _ _) _=Option.bind _ _;unfold X2V;simp only[Int.natCast_zero];cases Z8I (WL s names) 0<;>rfl
end Nore
open Go Go.Ab
namespace Nore
def spN (L H:Nat->Int):Nat->Y2:=fun j=>⟨L j,H j⟩
def X2N (f:Nat->Y2) (k:Nat) (s:Y2):Nat->Y2:=fun j=>bif Nat.beq j k then s else f j
theorem X6S (f:Nat->Y2) (k:Nat) (s s':Y2):(fun j=>bif Nat.beq j k then s' else X2N f k s j)=X2N f k s':=by
  funext j;unfold X2N;cases Nat.beq j k<;>rfl
theorem X6R (f:Nat->Y2) (k:Nat) (s:Y2):X2N f k s k=s:=by unfold X2N;simp
theorem X62 (f:Nat->Y2) {k j:Nat} (s:Y2) (h:j≠k):X2N f k s j=f j:=by
  unfold X2N;cases e:Nat.beq j k with
  | false=>rfl
  | true=>exact absurd (je e) h
def X3 (ap:List Zb):List (Nat×Nat):=ap.map fun s=>(s.from_.toNat,s.to_.toNat)
def X6H (ap:List Zb):Prop:=ap.length<=1000/\∀s∈ap,0<=s.from_/\s.from_<s.to_/\s.to_<10
def BdN (L:Nat->Int):Prop:=∀i,-1000000<=L i/\L i<=1000000
theorem X7n (L:Nat->Int) (p:Nat×Nat) (ps:List (Nat×Nat)) (i:Nat) (a:Int):X57 L (p::ps) i a=X57 L ps i (if p.2=i then(if L p.1+1>a then L p.1+1 else a)else a):=rfl
theorem X7o (H:Nat->Int) (p:Nat×Nat) (ps:List (Nat×Nat)) (i:Nat) (a:Int):X58 H (p::ps) i a=X58 H ps i (if p.1=i then(if H p.2-1<a then H p.2-1 else a)else a):=rfl
theorem X5e (ap:List Zb) (f:X6H ap) (L H:Nat->Int) (hL:BdN L) (k:Nat) (t:k<10) (a:Int) (s : -1000000<=a/\a<=1000001) (x1 x3:Int) (x6:List Zb) (x9:Zc) (x10:Nat->Y2) :
    Wx (ap.length:Int) x1 (k:Int) x3 (k:Int) x6 ap x9 x10 (0,X2N (spN L H) k ⟨a,H k⟩)=some (X2N (spN L H) k ⟨X57 L (X3 ap) k a,H k⟩):=by
  obtain⟨w,o,n⟩:=X1Z (Xx (ap.length:Int) x1 (k:Int) x3 (k:Int) x6 ap x9 x10) ap.length (fun i (b:Nat->Y2)=>((i:Int),b))
    (fun i b=>∃a',(-1000000<=a'/\a'<=1000001)/\b=X2N (spN L H) k ⟨a',H k⟩/\X57 L (X3 (ap.drop i)) k a'=X57 L (X3 ap) k a) (fun w=>w=X2N (spN L H) k ⟨X57 L (X3 ap) k a,H k⟩)
    (fun b ⟨a',_,e,h⟩=>⟨_,by simp[Xx,Xd];rfl,by
      rw[e,<-h,List.drop_length];rfl⟩)
    (fun i b hi ⟨a',m,e,h⟩=>by
      right;have g:ap[i]∈ap:=jl hi;obtain⟨s1,s2,s3⟩:=f.2 _ g;have j:ap.getD i ⟨0,0⟩=ap[i]:=We _ _ _ hi;have e1:decide ((i:Int)<(ap.length:Int))=true:=by simp;omega
      have w1:=wS i (by have:=f.1;omega)
      have c:X3 (ap.drop i)=(ap[i].from_.toNat,ap[i].to_.toNat)::X3 (ap.drop (i+1)):=by
        rw[jb hi];rfl
      rw[c,X7n]at h;simp only at h;simp only[Xx,Xd,e1,z0S,ju,jB,kS,j,w1]
      by_cases ht:ap[i].to_=(k:Int)
      · have p:ap[i].from_.toNat≠k:=by omega
        have c1:(ap[i].to_==(k:Int))=true:=by simp[ht]
        have c2:decide ((k:Int)<(10:Int))=true:=by simp;omega
        have c3:Nat.blt k 10=true:=by simp[Nat.blt_eq];omega
        have c4:decide (0<=ap[i].from_)=true:=by simp[s1]
        have c5:decide (ap[i].from_<(10:Int))=true:=by simp;omega
        have c6:Nat.blt ap[i].from_.toNat 10=true:=by rw[Nat.blt_eq];omega
        have hv:=hL ap[i].from_.toNat;have r:(b ap[i].from_.toNat).Lo=L ap[i].from_.toNat:=by rw[e,X62 _ _ p];rfl
        have q:b k=⟨a',H k⟩:=by rw[e,X6R]
        have w2:IntKind.wrap .i64 (L ap[i].from_.toNat+1)=L ap[i].from_.toNat+1:=by rw[w64]<;>omega
        simp only[c1,c2,c3,c4,c5,c6,jB,ju,r,q,w2];have d:ap[i].to_.toNat=k:=by omega
        rw[if_pos d]at h;refine⟨_,rfl,(if L ap[i].from_.toNat+1>a' then L ap[i].from_.toNat+1 else a'),by split<;>omega,?_,h⟩
        rw[e,X6S]
        by_cases hc:L ap[i].from_.toNat+1>a'<;>simp[hc]
      · have c1:(ap[i].to_==(k:Int))=false:=X3q ht
        simp only[c1,jA];have d:¬ap[i].to_.toNat=k:=by omega
        rw[if_neg d]at h;exact⟨_,rfl,a',m,e,h⟩) 0 _ (Nat.zero_le _) ⟨a,s,rfl,rfl⟩
  have l:Wx (ap.length:Int) x1 (k:Int) x3 (k:Int) x6 ap x9 x10 (0,X2N (spN L H) k ⟨a,H k⟩)=some w:=o;rw[l,n]
theorem X6C (ap:List Zb) (b:X6H ap) (L H:Nat->Int) (hL:BdN L) (k:Nat) (c:k<10) (a:Int) (d : -1000000<=a/\a<=1000001) (x1 x3:Int) (x6:List Zb) (x9:Zc) (x10:Nat->Y2) :
    X1e (ap.length:Int) x1 (k:Int) x3 (k:Int) x6 ap x9 x10 (0,X2N (spN L H) k ⟨a,H k⟩)=some (X2N (spN L H) k ⟨X57 L (X3 ap) k a,H k⟩) :=
  X5e ap b L H hL k c a d x1 x3 x6 x9 x10
theorem X5f (ap:List Zb) (f:X6H ap) (L H:Nat->Int) (r:BdN H) (k:Nat) (u:k<10) (a:Int) (t : -1000001<=a/\a<=1000000) (x2:Int) (x5:List Zb) (x7:Zc) (x8:Nat->Y2) :
    Wz ap x2 (ap.length:Int) (k:Int) x5 x7 x8 (0,X2N (spN L H) k ⟨L k,a⟩)=some (X2N (spN L H) k ⟨L k,X58 H (X3 ap) k a⟩):=by
  obtain⟨w,o,n⟩:=X1Z (Xz ap x2 (ap.length:Int) (k:Int) x5 x7 x8) ap.length (fun i (b:Nat->Y2)=>((i:Int),b))
    (fun i b=>∃a',(-1000001<=a'/\a'<=1000000)/\b=X2N (spN L H) k ⟨L k,a'⟩/\X58 H (X3 (ap.drop i)) k a'=X58 H (X3 ap) k a) (fun w=>w=X2N (spN L H) k ⟨L k,X58 H (X3 ap) k a⟩)
    (fun b ⟨a',_,e,h⟩=>⟨_,by simp[Xz,Xe];rfl,by
      rw[e,<-h,List.drop_length];rfl⟩)
    (fun i b hi ⟨a',m,e,h⟩=>by
      right;have g:ap[i]∈ap:=jl hi;obtain⟨s1,s2,s3⟩:=f.2 _ g;have j:ap.getD i ⟨0,0⟩=ap[i]:=We _ _ _ hi;have e1:decide ((i:Int)<(ap.length:Int))=true:=by simp;omega
      have w1:=wS i (by have:=f.1;omega)
      have c:X3 (ap.drop i)=(ap[i].from_.toNat,ap[i].to_.toNat)::X3 (ap.drop (i+1)):=by
        rw[jb hi];rfl
      rw[c,X7o]at h;simp only at h;simp only[Xz,Xe,e1,z0S,ju,jB,kS,j,w1]
      by_cases ht:ap[i].from_=(k:Int)
      · have p:ap[i].to_.toNat≠k:=by omega
        have c1:(ap[i].from_==(k:Int))=true:=by simp[ht]
        have c2:decide ((k:Int)<(10:Int))=true:=by simp;omega
        have c3:Nat.blt k 10=true:=by simp[Nat.blt_eq];omega
        have c4:decide (0<=ap[i].to_)=true:=by simp;omega
        have c5:decide (ap[i].to_<(10:Int))=true:=by simp;omega
        have c6:Nat.blt ap[i].to_.toNat 10=true:=by rw[Nat.blt_eq];omega
        have hv:=r ap[i].to_.toNat;have s:(b ap[i].to_.toNat).Hi=H ap[i].to_.toNat:=by rw[e,X62 _ _ p];rfl
        have q:b k=⟨L k,a'⟩:=by rw[e,X6R]
        have w2:IntKind.wrap .i64 (H ap[i].to_.toNat-1)=H ap[i].to_.toNat-1:=by rw[w64]<;>omega
        simp only[c1,c2,c3,c4,c5,c6,jB,ju,s,q,w2];have d:ap[i].from_.toNat=k:=by omega
        rw[if_pos d]at h;refine⟨_,rfl,(if H ap[i].to_.toNat-1<a' then H ap[i].to_.toNat-1 else a'),by split<;>omega,?_,h⟩
        rw[e,X6S]
        by_cases hc:H ap[i].to_.toNat-1<a'<;>simp[hc]
      · have c1:(ap[i].from_==(k:Int))=false:=X3q ht
        simp only[c1,jA];have d:¬ap[i].from_.toNat=k:=by omega
        rw[if_neg d]at h;exact⟨_,rfl,a',m,e,h⟩) 0 _ (Nat.zero_le _) ⟨a,t,rfl,rfl⟩
  have l:Wz ap x2 (ap.length:Int) (k:Int) x5 x7 x8 (0,X2N (spN L H) k ⟨L k,a⟩)=some w:=o;rw[l,n]
theorem X6E (ap:List Zb) (b:X6H ap) (L H:Nat->Int) (e:BdN H) (k:Nat) (c:k<10) (a:Int) (d : -1000001<=a/\a<=1000000) (x2:Int) (x5:List Zb) (x7:Zc) (x8:Nat->Y2) :
    X1f ap x2 (ap.length:Int) (k:Int) x5 x7 x8 (0,X2N (spN L H) k ⟨L k,a⟩)=some (X2N (spN L H) k ⟨L k,X58 H (X3 ap) k a⟩) :=
  X5f ap b L H e k c a d x2 x5 x7 x8
end Nore
open Go Go.Ab
namespace Nore
theorem X7i (ap:List (Nat×Nat)) (L:Nat->Int) (a b:Int) (hL:∀i,a<=L i/\L i<=b):∀(k j:Nat),a<=WO ap k L j/\WO ap k L j<=b+k
  | 0,j=>by
    have:=hL j;show a<=L j/\L j<=b+((0:Nat):Int);omega
  | k+1,j=>by
    have ih:=X7i ap L a b hL k;unfold WO;split
    · unfold up1
      obtain⟨g,_⟩:=X6v (WO ap k L) k ap (if 0<k then(if WO ap k L (k-1)>WO ap k L k then WO ap k L (k-1)else WO ap k L k)else WO ap k L k);have i1:=ih k;have i2:=ih (k-1);refine⟨Int.le_trans ?_ g,X6w _ _ _ _ _ ?_ fun p _ _=>?_⟩
      · split
        · split<;>omega
        · omega
      · split
        · split<;>omega
        · omega
      · have:=ih p.1
        omega
    · have:=ih j
      omega
theorem X7b (n:Nat) (ap:List (Nat×Nat)) (H:Nat->Int) (a b:Int) (c:∀i,a<=H i/\H i<=b):∀(k j:Nat),a-k<=WN n ap k H j/\WN n ap k H j<=b
  | 0,j=>by
    have:=c j;show a-((0:Nat):Int)<=H j/\H j<=b;omega
  | k+1,j=>by
    have ih:=X7b n ap H a b c k;unfold WN;split
    · unfold dn1
      obtain⟨g,_⟩:=X6y (WN n ap k H) (n-1-k) ap (if n-1-k+1<n then(if WN n ap k H (n-1-k+1)<WN n ap k H (n-1-k)then WN n ap k H (n-1-k+1)else WN n ap k H (n-1-k))else WN n ap k H (n-1-k));have i1:=ih (n-1-k);have i2:=ih (n-1-k+1);refine⟨X6x _ _ _ _ _ ?_ fun p _ _=>?_,Int.le_trans g ?_⟩
      · split
        · split<;>omega
        · omega
      · have:=ih p.2
        omega
      · split
        · split<;>omega
        · omega
    · have:=ih j
      omega
theorem X6n (f:Nat->Y2) (k:Nat):X2N f k (f k)=f:=by
  funext j;unfold X2N;cases e:Nat.beq j k with
  | false=>rfl
  | true=>rw[je e];rfl
theorem X7e (ap:List (Nat×Nat)) (L H:Nat->Int) (i:Nat):X2N (spN (WO ap i L) H) i ⟨up1 ap (WO ap i L) i,H i⟩=spN (WO ap (i+1) L) H:=by
  funext j;unfold X2N spN;cases e:Nat.beq j i with
  | false =>
    have:j≠i:=fun h=>by subst h;simp at e
    show(⟨WO ap i L j,H j⟩:Y2)=⟨if j=i then _ else _,H j⟩;rw[if_neg this]
  | true =>
    have:=je e;subst this;show(⟨_,_⟩:Y2)=⟨if j=j then _ else _,H j⟩;rw[if_pos rfl]
theorem X7B (n:Nat) (ap:List (Nat×Nat)) (L H:Nat->Int) (i:Nat):X2N (spN L (WN n ap i H)) (n-1-i) ⟨L (n-1-i),dn1 n ap (WN n ap i H) (n-1-i)⟩=spN L (WN n ap (i+1) H):=by
  funext j;unfold X2N spN;cases e:Nat.beq j (n-1-i)with
  | false =>
    have:j≠n-1-i:=fun h=>by subst h;simp at e
    show(⟨L j,WN n ap i H j⟩:Y2)=⟨L j,if j=n-1-i then _ else _⟩;rw[if_neg this]
  | true =>
    have:=je e;subst this;show(⟨_,_⟩:Y2)=⟨L (n-1-i),if n-1-i=n-1-i then _ else _⟩;rw[if_pos rfl]
theorem X6B (ap:List Zb) (c:X6H ap) (L H:Nat->Int) (hL:∀i,-900000<=L i/\L i<=900000) (n:Nat) (p:n<=10) (x1:Int) (x5:Zc) (x6:Nat->Y2) :
    Ww (n:Int) x1 ap x5 x6 (0,spN L H)=some (spN (WO (X3 ap) n L) H):=by
  obtain⟨w,m,k⟩:=X1Z (Xw (n:Int) x1 ap x5 x6) n (fun i (b:Nat->Y2)=>((i:Int),b))
    (fun i b=>b=spN (WO (X3 ap) i L) H) (fun w=>w=spN (WO (X3 ap) n L) H)
    (fun b d=>⟨b,by simp[Xw,XP],d⟩)
    (fun i b hi d=>by
      right;have e1:decide ((i:Int)<(n:Int))=true:=by simp;omega
      have w1:=wS i (by omega)
      have f:=X7i (X3 ap) L _ _ hL i;have h:BdN (WO (X3 ap) i L):=fun j=>by have:=f j;omega
      have o:=f i;simp only[Xw,XP,e1,jB,w1,kS]
      by_cases h0:0<i
      · have l:=f (i-1)
        have c1:decide ((i:Int)>0)=true:=by simp;omega
        have c2:decide ((i:Int)<(10:Int))=true:=by simp;omega
        have c3:Nat.blt i 10=true:=by rw[Nat.blt_eq];omega
        have w2:IntKind.wrap .i64 ((i:Int)-1)=((i-1:Nat):Int):=by rw[w64]<;>omega
        have c4:decide (((i-1:Nat):Int)<(10:Int))=true:=by simp;omega
        have c5:Nat.blt (i-1) 10=true:=by rw[Nat.blt_eq];omega
        simp only[c1,c2,c3,w2,c4,c5,z0S,kS,ju,jB];have a:(fun j=>bif Nat.beq j i then(⟨bif decide ((b (i-1)).Lo>(b i).Lo)then(b (i-1)).Lo else(b i).Lo,(b i).Hi⟩:Y2)else b j)=X2N (spN (WO (X3 ap) i L) H) i ⟨if WO (X3 ap) i L (i-1)>WO (X3 ap) i L i then WO (X3 ap) i L (i-1)else WO (X3 ap) i L i,H i⟩:=by
          rw[d];funext j;unfold X2N spN
          by_cases hc:WO (X3 ap) i L (i-1)>WO (X3 ap) i L i<;>simp[hc]
        rw[a,X5e ap c _ H h i (by omega) _ (by split<;>omega)]
        refine⟨_,rfl,?_⟩;rw[<-X7e];unfold up1;rw[if_pos h0]
      · have g:i=0:=by omega
        subst g;have c1:decide (((0:Nat):Int)>0)=false:=rfl;simp only[c1,jA];have a:b=X2N (spN (WO (X3 ap) 0 L) H) 0 ⟨WO (X3 ap) 0 L 0,H 0⟩:=by
          rw[d];exact(X6n (spN (WO (X3 ap) 0 L) H) 0).symm
        rw[a,X6C ap c _ H h 0 (by omega) _ (by omega)]
        refine⟨_,rfl,?_⟩;rw[<-X7e];rfl) 0 _ (Nat.zero_le _) rfl
  have e:Ww (n:Int) x1 ap x5 x6 (0,spN L H)=some w:=m;rw[e,k]
theorem X6D (ap:List Zb) (d:X6H ap) (L H:Nat->Int) (r:∀i,-900000<=H i/\H i<=900000) (n:Nat) (t:n<=10) (x4:Zc) (x5:Nat->Y2) :
    Wy (n:Int) ap x4 x5 ((n:Int)-1,spN L H)=some (spN L (WN n (X3 ap) n H)):=by
  obtain⟨w,l,o⟩:=X1Z (Xy (n:Int) ap x4 x5) n (fun i (b:Nat->Y2)=>((n:Int)-1-i,b))
    (fun i b=>b=spN L (WN n (X3 ap) i H)) (fun w=>w=spN L (WN n (X3 ap) n H))
    (fun b e=>⟨b,by
      have e1:decide ((n:Int)-1-(n:Int)>=0)=false:=by simp;omega
      simp only[Xy,XQ,e1,jA],e⟩)
    (fun i b hi e=>by
      right;obtain⟨k,q⟩:∃k:Nat,k=n-1-i:=⟨_,rfl⟩;have f:(n:Int)-1-i=(k:Int):=by omega
      have e1:decide ((k:Int)>=0)=true:=by simp
      have w1:=wS k (by omega)
      have w3:IntKind.wrap .i64 ((k:Int)-1)=(n:Int)-1-((i+1:Nat):Int):=by rw[w64]<;>omega
      have g:=X7b n (X3 ap) H _ _ r i;have m:BdN (WN n (X3 ap) i H):=fun j=>by have:=g j;omega
      have p:=g k;have a:=X7B n (X3 ap) L H i;rw[<-q]at a;unfold dn1 at a;simp only[f,Xy,XQ,e1,jB,w1,kS,w3]
      by_cases h0:k+1<n
      · have s:=g (k+1)
        have c1:decide (((k+1:Nat):Int)<(n:Int))=true:=by simp;omega
        have c2:decide ((k:Int)<(10:Int))=true:=by simp;omega
        have c3:Nat.blt k 10=true:=by rw[Nat.blt_eq];omega
        have c4:decide (((k+1:Nat):Int)<(10:Int))=true:=by simp;omega
        have c5:Nat.blt (k+1) 10=true:=by rw[Nat.blt_eq];omega
        simp only[c1,c2,c3,c4,c5,z0S,kS,ju,jB];have c:(fun j=>bif Nat.beq j k then(⟨(b k).Lo,bif decide ((b (k+1)).Hi<(b k).Hi)then(b (k+1)).Hi else(b k).Hi⟩:Y2)else b j)=X2N (spN L (WN n (X3 ap) i H)) k ⟨L k,if WN n (X3 ap) i H (k+1)<WN n (X3 ap) i H k then WN n (X3 ap) i H (k+1)else WN n (X3 ap) i H k⟩:=by
          rw[e];funext j;unfold X2N spN
          by_cases hc:WN n (X3 ap) i H (k+1)<WN n (X3 ap) i H k<;>simp[hc]
        rw[c,X5f ap d L _ m k (by omega) _ (by split<;>omega)]
        refine⟨_,rfl,?_⟩;rw[if_pos h0]at a;exact a
      · have c1:decide (((k+1:Nat):Int)<(n:Int))=false:=by simp;omega
        simp only[c1,jA];have c:b=X2N (spN L (WN n (X3 ap) i H)) k ⟨L k,WN n (X3 ap) i H k⟩:=by
          rw[e];exact(X6n (spN L (WN n (X3 ap) i H)) k).symm
        rw[c,X6E ap d L _ m k (by omega) _ (by omega)]
        refine⟨_,rfl,?_⟩;rw[if_neg h0]at a;exact a) 0 _ (Nat.zero_le _) rfl
  have e0:(n:Int)-1-((0:Nat):Int)=(n:Int)-1:=by omega
  rw[e0]at l;have h:Wy (n:Int) ap x4 x5 ((n:Int)-1,spN L H)=some w:=l;rw[h,o]
def X6b (L H:Nat->Int) (ap:List Zb):Con:=⟨L,H,X3 ap⟩
theorem X73 (q:Zc) (L H:Nat->Int) (ap:List Zb) (g:X6H ap) (hL:∀i,-900000<=L i/\L i<=900000) (s:∀i,-900000<=H i/\H i<=900000) (m:q.CoRecord.Entries.length<=10) :
    XH q (spN L H) ap=some (spN (X4b q.CoRecord.Entries.length (X6b L H ap)) (X4a q.CoRecord.Entries.length (X6b L H ap)),okN q.CoRecord.Entries.length (X6b L H ap)):=by
  rw[X34];unfold Wg;generalize q.CoRecord.Entries.length=n at m;have w1:IntKind.wrap .i64 ((n:Int)-1)=(n:Int)-1:=by rw[w64]<;>omega
  rw[X6B ap g L H hL n m];simp only[jS,w1];rw[X6D ap g _ H s n m];have c1:decide ((n:Int)<=(10:Int))=true:=by simp;omega
  simp only[jS,z0S,c1,ju,jB,kS,List.drop_zero];have c:(List.map (spN (WO (X3 ap) n L) (WN n (X3 ap) n H)) (List.range 10)).take n=(List.range n).map (spN (X4b n (X6b L H ap)) (X4a n (X6b L H ap))):=by
    rw[<-List.map_take,List.take_range,Nat.min_eq_left m];rfl
  rw[c];generalize hA:X4b n (X6b L H ap)=A;generalize hB:X4a n (X6b L H ap)=B;have a:((List.range n).map (spN A B)).length=n:=by simp
  obtain⟨w,u,r⟩:=X1Z (XA (n:Int) ((List.range n).map (spN A B))) n (fun i (_:Unit)=>(i:Int)) (fun i _=>∀j,j<i->A j<=B j)
    (fun w=>(∃j:Nat,w=.inl (j:Int)/\¬∀i,i<n->A i<=B i)\/(w=.inr ()/\∀i,i<n->A i<=B i))
    (fun _ h=>⟨.inr (),by simp[XA,XR],.inr ⟨rfl,h⟩⟩)
    (fun i _ hi h=>by
      have e1:decide ((i:Int)<(n:Int))=true:=by simp;omega
      have l:((List.range n).map (spN A B)).getD i ⟨0,0⟩=⟨A i,B i⟩:=by
        rw[We _ _ _ (by rw[a];exact hi)]
        simp[spN]
      have w1:=wS i (by omega)
      simp only[XA,XR,e1,a,z0S,ju,jB,kS,l,w1];rw[X2J];unfold W8;simp only[jS]
      by_cases hc:A i>B i
      · left
        exact⟨.inl (i:Int),by simp[hc],.inl ⟨i,rfl,fun k=>by have:=k i hi;omega⟩⟩
      · right
        refine⟨(),by simp[hc],fun j t=>?_⟩
        by_cases e:j=i
        · subst e;omega
        · exact h j (by omega)) 0 () (Nat.zero_le _) (fun j t=>by omega)
  have p:X1g (n:Int) ((List.range n).map (spN A B)) 0=some w:=u;have d:WO (X3 ap) n L=A:=hA;have b:WN n (X3 ap) n H=B:=hB;rw[a,p,d,b];rcases r with⟨k,rfl,o⟩|⟨rfl,f⟩
  · have:okN n (X6b L H ap)=false:=by
      rw[Bool.eq_false_iff];intro h;rw[X59,hA,hB]at h;exact o h
    rw[this];simp
  · have:okN n (X6b L H ap)=true:=by
      rw[X59,hA,hB];exact f
    rw[this];simp
end Nore
open Go Go.Ab
namespace Nore
def gtN (l:List Int) (i:Nat):Int:=l.getD i 0
structure X7N (n:Nat) (c:Con) (A B:Nat->Int) (lo hi:List Int):Prop where
  l1:lo.length=n
  l2:hi.length=n
  bd:∀i,i<n->c.lo i<=gtN lo i/\gtN lo i<=A i/\B i<=gtN hi i/\gtN hi i<=c.hi i
end Nore
open Go Go.Ab
namespace Nore
def OkR (n:Nat) (ap:List Z6):Prop:=ap.length<=1000000/\∀s∈ap,0<=s.from_/\s.from_<s.to_/\s.to_<n
end Nore
open Go Go.Ab
namespace Nore
structure X7M (n:Nat) (x:Z8):Prop where
  l1:x.lo.length=n
  l2:x.hi.length=n
  ap:OkR n x.later
  bd:∀i,i<n -> -900000<=gtN x.lo i/\gtN x.lo i<=900000 /\ -900000<=gtN x.hi i/\gtN x.hi i<=900000
end Nore
open Go Go.Ab
namespace Nore
def X6e (dev st:Int):List Zq->Nat->Int->Int->List Z6
  | [],i,now,fr=>if now=st then [⟨fr,i⟩]else []
  | x::xs,i,now,fr=>if x.Device=dev then(if now=st then [⟨fr,i⟩]else [])++X6e dev st xs (i+1) x.State i else X6e dev st xs (i+1) now fr
theorem X6T (dev st:Int) (i:Nat) (now fr:Int):X6e dev st [] i now fr=if now=st then [⟨fr,i⟩]else []:=rfl
theorem X6r (dev st:Int) (x:Zq) (xs:List Zq) (i:Nat) (now fr:Int):X6e dev st (x::xs) i now fr=if x.Device=dev then(if now=st then [⟨fr,i⟩]else [])++X6e dev st xs (i+1) x.State i else X6e dev st xs (i+1) now fr:=rfl
theorem X5M {c d:Con} (g:∀i,c.lo i=d.lo i) (f:∀i,c.hi i=d.hi i) (h:c.ap=d.ap):c=d:=by
  obtain⟨a,b,e⟩:=c;obtain⟨a',b',e'⟩:=d;have g:a=a':=funext g;have f:b=b':=funext f;simp only at h;rw[g,f,h]
end Nore
open Go Go.Ab
namespace Nore
end Nore
open Go Go.Ab
namespace Nore
theorem X7w {σ ω:Type} {st st':σ->Option (σ⊕ω)} (h:∀s x,st s=some x->st' s=some x) {s:σ} {w:ω} (hr:Z8I st s=some w):Z8I st' s=some w:=by
  rw[Z1C]at hr⊢
  induction hr with
  | done e=>exact .done (h _ _ e)
  | next e _ ih=>exact .next (h _ _ e) ih
theorem X6l {α β:Type} {t:(α->Option β)->α->Option β} (ht:∀f g:α->Option β,(∀x r,f x=some r->g x=some r)->∀x r,t f x=some r->t g x=some r) :
    ∀(n:Nat) (x:α) (r:β),Z9E t n x=some r->Z9E t (n+1) x=some r
  | 0,_,_,h=>by cases h
  | n+1,x,r,h=>ht _ _ (X6l ht n) x r h
theorem ZfI {α β:Type} {t:(α->Option β)->α->Option β} (ht:∀f g:α->Option β,(∀x r,f x=some r->g x=some r)->∀x r,t f x=some r->t g x=some r) (n:Nat) :
    ∀(k:Nat) (x:α) (r:β),Z9E t n x=some r->Z9E t (n+k) x=some r
  | 0,_,_,h=>h
  | k+1,x,r,h=>X6l ht (n+k) x r (ZfI ht n k x r h)
theorem X5Y {α β:Type} {t:(α->Option β)->α->Option β} (ht:∀f g:α->Option β,(∀x r,f x=some r->g x=some r)->∀x r,t f x=some r->t g x=some r) {n:Nat} {x:α} {r:β} (h:Z9E t n x=some r):Zba t x=some r:=by
  refine Zka (fun m q b=>?_) ⟨n,r,h⟩;have c:=ZfI ht n m x r h;have a:=ZfI ht m n x q b;rw[Nat.add_comm]at a;rw[c]at a;exact(Option.some.inj a).symm
theorem X6F (dev st:Int) (n:Nat):∀(e:List Zq) (i:Nat) (now fr:Int),i+e.length=n -> -1<=fr->fr<i->((X6e dev st e i now fr).length<=e.length+1)/\∀s∈X6e dev st e i now fr,-1<=s.from_/\s.from_<s.to_/\s.to_<=n
  | [],i,now,fr,h,h1,h2=>by
    simp only[List.length_nil,Nat.add_zero]at h;rw[X6T];split
    · refine⟨by simp,fun s a=>?_⟩
      rw[List.mem_singleton.1 a];simp only;omega
    · exact⟨by simp,fun s a=>by cases a⟩
  | x::xs,i,now,fr,h,h1,h2=>by
    simp only[List.length_cons]at h;rw[X6r];split
    · obtain⟨g1,g2⟩:=X6F dev st n xs (i+1) x.State i (by omega) (by omega) (by omega)
      split
      · refine⟨by simp only[List.length_append,List.length_cons,List.length_nil];omega,fun s a=>?_⟩
        rcases List.mem_append.1 a with q|q
        · rw[List.mem_singleton.1 q]
          simp only;omega
        · exact g2 s q
      · refine⟨by simp only[List.nil_append,List.length_cons];omega,fun s a=>g2 s (by simpa using a)⟩
    · obtain⟨g1,g2⟩:=X6F dev st n xs (i+1) now fr (by omega) h1 (by omega)
      exact⟨by simp only[List.length_cons];omega,g2⟩
end Nore
open Go Go.Ab
namespace Nore
def X5B (r:CoRecord) (x:Zr):List Z6:=X6e x.Device x.State r.Entries 0 (r.Devices.getD x.Device.toNat ⟨ByteArray.empty,0,0⟩).First (-1)
def X44 (s:Z6):Str:=(s.from_,s.to_.toNat)
def X23 (r:CoRecord) (x:Zr):Wit:=⟨(X5B r x).map X44,x.At.Lo,x.At.Hi⟩
structure X3c (r:CoRecord) (x:Zr):Prop where
  dev:0<=x.Device/\x.Device<r.Devices.length
  lo : -900000<=x.At.Lo/\x.At.Lo<900000
  hi : -900000<=x.At.Hi/\x.At.Hi<=900000
theorem X7x {r:CoRecord} (x:Zr) {n:Nat} (d:r.Entries.length=n):(X5B r x).length<=n+1/\∀s∈X5B r x,0<=s.to_/\X5t n (X44 s):=by
  obtain⟨a,c⟩:=X6F x.Device x.State n r.Entries 0 (r.Devices.getD x.Device.toNat ⟨ByteArray.empty,0,0⟩).First (-1) (by omega) (by omega) (by omega)
  rw[d]at a;refine⟨a,fun s b=>?_⟩;have:=c s b;unfold X5t X44;simp only;omega
end Nore
open Go Go.Ab
namespace Nore
end Nore
open Go Go.Ab
namespace Nore
def X6I (r:CoRecord):Prop:=r.Entries.length<=10/\∀x∈r.Entries,-900000<=x.At.Lo/\x.At.Lo<=900000 /\ -900000<=x.At.Hi/\x.At.Hi<=900000
end Nore
open Go Go.Ab
namespace Nore
def LeO {β:Type} (a b:Option β):Prop:=∀r,a=some r->b=some r
theorem LeO.same {β:Type} (a:Option β):LeO a a:=fun _ h=>h
theorem LeO.cond {β:Type} {c:Bool} {a a' b b':Option β} (d:LeO a a') (e:LeO b b'):LeO (bif c then a else b) (bif c then a' else b'):=by
  cases c
  · exact e
  · exact d
theorem LeO.bind {α β:Type} {o o':Option α} {k k':α->Option β} (b:LeO o o') (c:∀a,LeO (k a) (k' a)):LeO (o.bind k) (o'.bind k'):=fun r h=>by
  cases o with
  | none=>cases h
  | some a=>rw[b a rfl];exact c a r h
theorem LeO.run {σ ω:Type} {st st':σ->Option (σ⊕ω)} (h:∀s,LeO (st s) (st' s)) (s:σ):LeO (Z8I st s) (Z8I st' s):=fun _ hr=>X7w h hr
theorem X66 (f g:((Nat->Y2)×Int×(List Zb)×Zc×Bool×Zc×Zc)->Option ((Bool×Zc×Bool×Zc×Zc)⊕(Bool×Zc×Bool×Zc×Zc))) (h:∀x,LeO (f x) (g x)) (x):LeO (X4 f x) (X4 g x):=by
  unfold X4 Xf;refine .bind (.same _) fun a=>.cond (.same _) (.cond (.same _) (.cond (.cond (.cond (.cond (.bind ?_ fun _=>.same _) (.same _)) (.same _)) (.same _)) (.same _)));unfold XK;refine LeO.run (fun s=>?_) _;unfold Xa X1;dsimp only
  repeat' (first|with_reducible exact LeO.same _|with_reducible exact LeO.bind (h _) fun _=>LeO.same _|with_reducible apply LeO.cond)
end Nore
open Go Go.Ab
namespace Nore
def X2M (u:Nat->Y2) (ap:List Zb):Con:=X6b (fun j=>(u j).Lo) (fun j=>(u j).Hi) ap
def UBd (u:Nat->Y2):Prop:=∀i,-900000<=(u i).Lo/\(u i).Lo<=900000 /\ -900000<=(u i).Hi/\(u i).Hi<=900000
def ApK (n k:Nat) (ap:List Zb):Prop:=ap.length<=k/\∀s∈ap,0<=s.from_/\s.from_<s.to_/\s.to_<n
theorem ApK.bd {n k:Nat} {ap:List Zb} (h:ApK n k ap) (c:n<=10) (a:k<=1000):X6H ap:=⟨Nat.le_trans h.1 a,fun s b=>by have:=h.2 s b;omega⟩
theorem ApK.keep {n k:Nat} {ap:List Zb} (h:ApK n k ap):ApK n (k+1) ap:=⟨Nat.le_succ_of_le h.1,h.2⟩
theorem ApK.add {n k:Nat} {ap:List Zb} (h:ApK n k ap) {f t:Nat} (c:f<t) (b:t<n):ApK n (k+1) (ap++[⟨(f:Int),(t:Int)⟩]) :=
  ⟨by rw[List.length_append,List.length_singleton];exact Nat.succ_le_succ h.1,fun s a=>by
    rcases List.mem_append.1 a with q|q
    · exact h.2 s q
    · rw[List.mem_singleton.1 q];simp only;omega⟩
theorem X4c (q:Zc) (u:Nat->Y2) (ap:List Zb) {k:Nat} (a:UBd u) (b:ApK q.CoRecord.Entries.length k ap) (d:k<=1000) (c:q.CoRecord.Entries.length<=10) :
    XH q u ap=some (spN (X4b q.CoRecord.Entries.length (X2M u ap)) (X4a q.CoRecord.Entries.length (X2M u ap)),okN q.CoRecord.Entries.length (X2M u ap)) :=
  X73 q (fun j=>(u j).Lo) (fun j=>(u j).Hi) ap (b.bd c d) (fun i=>⟨(a i).1,(a i).2.1⟩) (fun i=>⟨(a i).2.2.1,(a i).2.2.2⟩) c
def X4k (u:Nat->Y2) (f:Nat) (b:Int):Nat->Y2:=fun j=>bif Nat.beq j f then Y2.mk (u f).Lo (bif decide (b<(u f).Hi)then b else(u f).Hi)else u j
def X4l (u:Nat->Y2) (t:Nat) (a:Int):Nat->Y2:=fun j=>bif Nat.beq j t then Y2.mk (bif decide (a>(u t).Lo)then a else(u t).Lo) (u t).Hi else u j
theorem X53 (u:Nat->Y2) (f:Nat) (b:Int) (j:Nat):(X4k u f b j).Lo=(u j).Lo:=by
  unfold X4k;cases e:Nat.beq j f with
  | true=>rw[je e];rfl
  | false=>rfl
theorem X5P (u:Nat->Y2) (f:Nat) (b:Int) (j:Nat):(X4k u f b j).Hi=if j=f then(if b<(u f).Hi then b else(u f).Hi)else(u j).Hi:=by
  unfold X4k;cases e:Nat.beq j f with
  | true =>
    rw[if_pos (je e)]
    by_cases c:b<(u f).Hi<;>simp[c]
  | false=>rw[if_neg (Nat.ne_of_beq_eq_false e)];rfl
theorem X5Q (u:Nat->Y2) (f:Nat) (b:Int) (j:Nat):(X4l u f b j).Hi=(u j).Hi:=by
  unfold X4l;cases e:Nat.beq j f with
  | true=>rw[je e];rfl
  | false=>rfl
theorem X5R (u:Nat->Y2) (f:Nat) (b:Int) (j:Nat):(X4l u f b j).Lo=if j=f then(if b>(u f).Lo then b else(u f).Lo)else(u j).Lo:=by
  unfold X4l;cases e:Nat.beq j f with
  | true =>
    rw[if_pos (je e)]
    by_cases c:b>(u f).Lo<;>simp[c]
  | false=>rw[if_neg (Nat.ne_of_beq_eq_false e)];rfl
theorem UBd.hi {u:Nat->Y2} (h:UBd u) (f:Nat) {b:Int} (c : -900000<=b/\b<=900000):UBd (X4k u f b):=fun i=>by
  rw[X53,X5P];have a:=h i;have d:=h f;refine⟨a.1,a.2.1,?_⟩;split
  · split<;>omega
  · exact a.2.2
theorem UBd.lo {u:Nat->Y2} (h:UBd u) (f:Nat) {b:Int} (c : -900000<=b/\b<=900000):UBd (X4l u f b):=fun i=>by
  rw[X5R,X5Q];have a:=h i;have d:=h f;refine⟨?_,?_,a.2.2⟩
  · split
    · split<;>omega
    · exact a.1
  · split
    · split<;>omega
    · exact a.2.1
theorem X71 (ap:List Zb) (f t:Nat):X3 (ap++[⟨(f:Int),(t:Int)⟩])=X3 ap++[(f,t)]:=by
  unfold X3;rw[List.map_append];rfl
theorem X6k (u:Nat->Y2) (ap:List Zb) {n f t:Nat} (ht:t<n) (a b:Int):X2M (X4l (X4k u f b) t (a+1)) (ap++[⟨(f:Int),(t:Int)⟩])=X22 n (X2M u ap) ((f:Int),t) a b:=by
  refine X5M (fun i=>?_) (fun i=>?_) ?_
  · show(X4l (X4k u f b) t (a+1) i).Lo=if t<n/\i=t then(if a+1>(u i).Lo then a+1 else(u i).Lo)else(u i).Lo
    rw[X5R,X53,X53]
    by_cases e:i=t
    · subst e;simp[ht]
    · rw[if_neg e,if_neg fun h=>e h.2]
  · show(X4l (X4k u f b) t (a+1) i).Hi=if 0<=(f:Int)/\i=(f:Int).toNat then(if b<(u i).Hi then b else(u i).Hi)else(u i).Hi
    rw[X5Q,X5P,kS]
    by_cases e:i=f
    · subst e;simp
    · rw[if_neg e,if_neg fun h=>e h.2]
  · show X3 (ap++[⟨(f:Int),(t:Int)⟩])=if 0<=(f:Int)/\t<n then X3 ap++[((f:Int).toNat,t)]else X3 ap
    rw[if_pos ⟨by omega,ht⟩,X71,kS]
theorem X78 (u:Nat->Y2) (ap:List Zb) {n f t:Nat} (ht:¬t<n) (a b:Int):X2M (X4k u f b) ap=X22 n (X2M u ap) ((f:Int),t) a b:=by
  refine X5M (fun i=>?_) (fun i=>?_) ?_
  · show(X4k u f b i).Lo=if t<n/\i=t then(if a+1>(u i).Lo then a+1 else(u i).Lo)else(u i).Lo
    rw[X53,if_neg fun h=>ht h.1]
  · show(X4k u f b i).Hi=if 0<=(f:Int)/\i=(f:Int).toNat then(if b<(u i).Hi then b else(u i).Hi)else(u i).Hi
    rw[X5P,kS]
    by_cases e:i=f
    · subst e;simp
    · rw[if_neg e,if_neg fun h=>e h.2]
  · show X3 ap=if 0<=(f:Int)/\t<n then X3 ap++[((f:Int).toNat,t)]else X3 ap
    rw[if_neg fun h=>ht h.2]
theorem X79 (u:Nat->Y2) (ap:List Zb) {n t:Nat} {fr:Int} (c:¬0<=fr) (ht:t<n) (a b:Int):X2M (X4l u t (a+1)) ap=X22 n (X2M u ap) (fr,t) a b:=by
  refine X5M (fun i=>?_) (fun i=>?_) ?_
  · show(X4l u t (a+1) i).Lo=if t<n/\i=t then(if a+1>(u i).Lo then a+1 else(u i).Lo)else(u i).Lo
    rw[X5R]
    by_cases e:i=t
    · subst e;simp[ht]
    · rw[if_neg e,if_neg fun h=>e h.2]
  · show(X4l u t (a+1) i).Hi=if 0<=fr/\i=fr.toNat then(if b<(u i).Hi then b else(u i).Hi)else(u i).Hi
    rw[X5Q,if_neg fun h=>c h.1]
  · show X3 ap=if 0<=fr/\t<n then X3 ap++[(fr.toNat,t)]else X3 ap
    rw[if_neg fun h=>c h.1]
theorem X7a (u:Nat->Y2) (ap:List Zb) {n t:Nat} {fr:Int} (c:¬0<=fr) (ht:¬t<n) (a b:Int):X2M u ap=X22 n (X2M u ap) (fr,t) a b:=by
  refine X5M (fun i=>?_) (fun i=>?_) ?_
  · show(u i).Lo=if t<n/\i=t then(if a+1>(u i).Lo then a+1 else(u i).Lo)else(u i).Lo
    rw[if_neg fun h=>ht h.1]
  · show(u i).Hi=if 0<=fr/\i=fr.toNat then(if b<(u i).Hi then b else(u i).Hi)else(u i).Hi
    rw[if_neg fun h=>c h.1]
  · show X3 ap=if 0<=fr/\t<n then X3 ap++[(fr.toNat,t)]else X3 ap
    rw[if_neg fun h=>c h.1]
def X5h (n:Nat) (dev st:Int) (E:List Zq) (i:Nat) (now fr:Int):List Z6:=if i<=n then X6e dev st (E.drop i) i now fr else []
theorem X5i (n:Nat) (dev st:Int) (E:List Zq) (now fr:Int):X5h n dev st E (n+1) now fr=[]:=if_neg (by omega)
theorem X6q {n:Nat} {E:List Zq} (hE:E.length=n) (dev st:Int) {i:Nat} (hi:i<n+1) (now fr:Int) {X:Zq} (hX:(E++[Zq.mk dev (-1) (Y2.mk 0 0)]).getD i (Zq.mk 0 0 (Y2.mk 0 0))=X) :
    X5h n dev st E i now fr=if X.Device=dev then(if now=st then [⟨fr,i⟩]else [])++X5h n dev st E (i+1) X.State i else X5h n dev st E (i+1) now fr:=by
  by_cases h:i<n
  · have b:X=E[i]:=by
      rw[<-hX,We _ _ _ (by rw[List.length_append,List.length_singleton];omega),List.getElem_append_left (by omega)]
    have d:i<=n:=by omega
    have c:i+1<=n:=by omega
    simp only[X5h,d,c,if_true];rw[jb (by omega),X6r,<-b]
  · have a:i=n:=by omega
    subst a;have b:X=Zq.mk dev (-1) (Y2.mk 0 0):=by
      rw[<-hX,We _ _ _ (by rw[List.length_append,List.length_singleton];omega),List.getElem_append_right (by omega)]
      simp
    rw[X5i,X5i,b,if_pos rfl];unfold X5h;rw[if_pos (Nat.le_refl _),jd (by omega),X6T,jo]
def X60 (q:Zc) (L:List Con):(Bool×Zc×Bool×Zc×Zc)⊕(Bool×Zc×Bool×Zc×Zc) :=
  if L.isEmpty then .inl (true,q,false,q,q)else .inr (false,q,true,q,q)
theorem X5w (n:Nat) (c:Con):X8 n [] c=if okN n c then [X6z n c]else []:=rfl
theorem X56 (n:Nat) (w:Wit) (ws:List Wit) (c:Con):X8 n (w::ws) c=if okN n c then w.strs.flatMap fun s=>X8 n ws (X22 n c s w.a w.b)else []:=rfl
theorem X3Z (q:Zc) (n:Nat) (o:q.CoRecord.Entries.length=n) (h10:n<=10) (h8:q.seen.length<=8) (hs:∀x∈q.seen,X3c q.CoRecord x)
    (ih0:((Nat->Y2)×Int×(List Zb)×Zc×Bool×Zc×Zc)->Option ((Bool×Zc×Bool×Zc×Zc)⊕(Bool×Zc×Bool×Zc×Zc))) (l:List Zr) (k:Nat) (hk:k+l.length=q.seen.length) (hd:q.seen.drop k=l)
    (ih:∀x l',l=x::l'->k+1+l'.length=q.seen.length->q.seen.drop (k+1)=l'->∀(u:Nat->Y2) (ap:List Zb),UBd u->ApK n (k+1) ap->∀c,X2M u ap=c->ih0 (u,((k+1:Nat):Int),ap,q,false,q,q)=some (X60 q (X8 n (l'.map (X23 q.CoRecord)) c)))
    (u:Nat->Y2) (ap:List Zb) (r:UBd u) (a:ApK n k ap) (c:Con) (hc:X2M u ap=c) :
    Xf ih0 u (k:Int) ap q false q q=some (X60 q (X8 n (l.map (X23 q.CoRecord)) c)):=by
  cases l with
  | nil =>
    have h:=X4c q u ap r (o▸a) (by omega) (by omega)
    rw[o,hc]at h;unfold Xf;simp only[h,jS,List.map_nil,X5w];have c1:((k:Int)==(q.seen.length:Int))=true:=by simp only[List.length_nil,Nat.add_zero]at hk;simp[hk]
    cases okN n c with
    | false=>rfl
    | true=>simp only[Bool.not_true,jA,c1,jB];rfl
  | cons x l =>
    simp only[List.length_cons]at hk;have h:=X4c q u ap r (o▸a) (by omega) (by omega)
    rw[o,hc]at h;have p:k<q.seen.length:=by omega
    have d:q.seen.drop k=q.seen[k]::q.seen.drop (k+1):=jb p;rw[hd]at d;injection d with hx hl
    have g:X3c q.CoRecord x:=hs x (hx▸jl p);have a0:q.seen.getD k (Zr.mk 0 0 (Y2.mk 0 0))=x:=by rw[We _ _ _ p,<-hx]
    have j:=ih x l rfl (by omega) hl.symm
    unfold Xf;simp only[h,jS,jr];show _=some (X60 q (X8 n (X23 q.CoRecord x::l.map (X23 q.CoRecord)) c));rw[X56];cases hok:okN n c with
    | false=>rfl
    | true =>
      have c1:((k:Int)==(q.seen.length:Int))=false:=X3q (by omega)
      have c2:decide ((k:Int)<(q.seen.length:Int))=true:=by simp;omega
      have c3:decide (0<=x.Device)=true:=by simp[g.dev.1]
      have c4:decide (x.Device<(q.CoRecord.Devices.length:Int))=true:=by simp[g.dev.2]
      have c5:Nat.ble (n*(32+1)) 100000000000000=true:=by rw[Nat.ble_eq];omega
      have c6:Nat.ble ((n+1)*(32+1)) 200000000000000=true:=by rw[Nat.ble_eq];omega
      have c7:Nat.blt 0 4=true:=rfl;have t:(q.CoRecord.Entries++[Zq.mk x.Device (-1) (Y2.mk 0 0)]).length=n+1:=by rw[List.length_append,List.length_singleton,o]
      simp only[Bool.not_true,jA,c1,c2,c3,c4,o,c5,List.length_singleton,c6,c7,z0S,ju,jB,kS,a0,if_true,t];unfold XK;refine Eq.trans (X1H _ _ (n+1) (fun i (b:Int×Zb)=>((i:Int),b.1,b.2,q,false,q,q)) (fun i b => -1<=b.2.from_/\b.2.from_<i)
        (fun i b=>some (X60 q ((X5h n x.Device x.State q.CoRecord.Entries i b.1 b.2.from_).flatMap fun s=>X8 n (l.map (X23 q.CoRecord)) (X22 n c (X44 s) x.At.Lo x.At.Hi)))) ?_ ?_ 0
        ((q.CoRecord.Devices.getD x.Device.toNat ⟨ByteArray.empty,0,0⟩).First,⟨-1,0⟩) (by omega) ⟨by simp,by simp⟩) ?_
      · intro b hP R
        have e1:decide (((n+1:Nat):Int)<((n+1:Nat):Int))=false:=by simp
        simp only[Xa,X1,e1,jA,X5i];rfl
      · intro i b hi hP R hR
        obtain⟨now,s⟩:=b;obtain⟨v,hP2⟩:=hP;simp only at v hP2;generalize hX:(q.CoRecord.Entries++[Zq.mk x.Device (-1) (Y2.mk 0 0)]).getD i (Zq.mk 0 0 (Y2.mk 0 0))=X;simp only;rw[X6q o x.Device x.State hi now s.from_ hX];have e1:decide ((i:Int)<((n+1:Nat):Int))=true:=by simp;omega
        have e3:Nat.blt i (n+1)=true:=by rw[Nat.blt_eq];exact hi
        have w1:=wS i (by omega)
        have w2:=wS k (by omega)
        have w3:IntKind.wrap .i64 (x.At.Lo+1)=x.At.Lo+1:=by have:=g.lo;rw[w64]<;>omega
        have hl2:=a.1;have b1:Nat.ble (ap.length*(16+1)) 100000000000000=true:=by rw[Nat.ble_eq];omega
        have b2:Nat.ble ((ap.length+1)*(16+1)) 200000000000000=true:=by rw[Nat.ble_eq];omega
        have b3:Nat.blt 0 2=true:=rfl;have hxl:=g.lo;have w:=g.hi;simp only[Xa,X1,t,e1,e3,z0S,ju,jB,kS,w1,w2,w3,hX,o,b1,b2,b3,List.length_singleton]
        by_cases hdv:X.Device=x.Device
        · have d1:(X.Device != x.Device)=false:=by simp[hdv]
          simp only[d1,jA];rw[if_pos hdv]
          by_cases hnow:now=x.State
          · have d2:(now==x.State)=true:=by simp[hnow]
            simp only[d2,jB];rw[if_pos hnow,List.singleton_append,List.flatMap_cons];generalize hrest:((X5h n x.Device x.State q.CoRecord.Entries (i+1) X.State (i:Int)).flatMap fun s=>X8 n (l.map (X23 q.CoRecord)) (X22 n c (X44 s) x.At.Lo x.At.Hi))=rest;have m:R (((i+1:Nat):Int),X.State,Zb.mk (i:Int) (i:Int),q,false,q,q)=some (X60 q rest):=by
              rw[<-hrest];exact hR (X.State,⟨(i:Int),(i:Int)⟩) ⟨by simp only;omega,by simp only;omega⟩
            show _=some (X60 q (X8 n (l.map (X23 q.CoRecord)) (X22 n c (s.from_,(i:Int).toNat) x.At.Lo x.At.Hi)++rest));rw[kS]
            by_cases hf:0<=s.from_
            · obtain⟨f,z⟩:=Int.eq_ofNat_of_zero_le hf
              have f1:decide ((f:Int)>=0)=true:=by simp
              have f2:decide ((f:Int)<(10:Int))=true:=by simp;omega
              have f3:Nat.blt f 10=true:=by rw[Nat.blt_eq];omega
              by_cases hin:i<n
              · have g1:decide ((i:Int)<(n:Int))=true:=by simp;omega
                have g2:decide ((i:Int)<(10:Int))=true:=by simp;omega
                have g3:Nat.blt i 10=true:=by rw[Nat.blt_eq];omega
                simp only[z,f1,f2,f3,g1,g2,g3,z0S,kS,ju,jB];rw[j _ _ ?b1h1 ?b1h2 (X22 n c ((f:Int),i) x.At.Lo x.At.Hi) ?b1h3]
                case b1h1=>exact(r.hi f w).lo i (by omega)
                case b1h2=>exact a.add (by omega) hin
                case b1h3=>rw[<-hc];exact X6k u ap hin x.At.Lo x.At.Hi
                generalize X8 n (l.map (X23 q.CoRecord)) (X22 n c ((f:Int),i) x.At.Lo x.At.Hi)=L1;cases L1 with
                | nil=>exact m
                | cons y ys=>rfl
              · have g1:decide ((i:Int)<(n:Int))=false:=by simp;omega
                simp only[z,f1,f2,f3,g1,z0S,kS,ju,jB,jA];rw[j _ _ ?b2h1 ?b2h2 (X22 n c ((f:Int),i) x.At.Lo x.At.Hi) ?b2h3]
                case b2h1=>exact r.hi f w
                case b2h2=>exact a.keep
                case b2h3=>rw[<-hc];exact X78 u ap hin x.At.Lo x.At.Hi
                generalize X8 n (l.map (X23 q.CoRecord)) (X22 n c ((f:Int),i) x.At.Lo x.At.Hi)=L1;cases L1 with
                | nil=>exact m
                | cons y ys=>rfl
            · have f1:decide (s.from_>=0)=false:=by simp;omega
              by_cases hin:i<n
              · have g1:decide ((i:Int)<(n:Int))=true:=by simp;omega
                have g2:decide ((i:Int)<(10:Int))=true:=by simp;omega
                have g3:Nat.blt i 10=true:=by rw[Nat.blt_eq];omega
                simp only[f1,g1,g2,g3,z0S,kS,ju,jB,jA];rw[j _ _ ?b3h1 ?b3h2 (X22 n c (s.from_,i) x.At.Lo x.At.Hi) ?b3h3]
                case b3h1=>exact r.lo i (by omega)
                case b3h2=>exact a.keep
                case b3h3=>rw[<-hc];exact X79 u ap hf hin x.At.Lo x.At.Hi
                generalize X8 n (l.map (X23 q.CoRecord)) (X22 n c (s.from_,i) x.At.Lo x.At.Hi)=L1;cases L1 with
                | nil=>exact m
                | cons y ys=>rfl
              · have g1:decide ((i:Int)<(n:Int))=false:=by simp;omega
                simp only[f1,g1,z0S,kS,ju,jB,jA];rw[j _ _ ?b4h1 ?b4h2 (X22 n c (s.from_,i) x.At.Lo x.At.Hi) ?b4h3]
                case b4h1=>exact r
                case b4h2=>exact a.keep
                case b4h3=>rw[<-hc];exact X7a u ap hf hin x.At.Lo x.At.Hi
                generalize X8 n (l.map (X23 q.CoRecord)) (X22 n c (s.from_,i) x.At.Lo x.At.Hi)=L1;cases L1 with
                | nil=>exact m
                | cons y ys=>rfl
          · have d2:(now==x.State)=false:=X3q hnow
            simp only[d2,jA];rw[if_neg hnow,List.nil_append];exact hR (X.State,⟨(i:Int),(i:Int)⟩) ⟨by simp only;omega,by simp only;omega⟩
        · have d1:(X.Device != x.Device)=true:=X3r hdv
          simp only[d1,jB];rw[if_neg hdv];exact hR (now,s) ⟨v,by simp only;omega⟩
      · simp only[if_true]
        show some (X60 q ((X5h n x.Device x.State q.CoRecord.Entries 0 (q.CoRecord.Devices.getD x.Device.toNat ⟨ByteArray.empty,0,0⟩).First (-1)).flatMap fun s=>X8 n (l.map (X23 q.CoRecord)) (X22 n c (X44 s) x.At.Lo x.At.Hi)))=_;have e:X5h n x.Device x.State q.CoRecord.Entries 0 (q.CoRecord.Devices.getD x.Device.toNat ⟨ByteArray.empty,0,0⟩).First (-1)=X5B q.CoRecord x:=if_pos (Nat.zero_le _);rw[e];show _=some (X60 q (((X5B q.CoRecord x).map X44).flatMap fun s=>X8 n (l.map (X23 q.CoRecord)) (X22 n c s x.At.Lo x.At.Hi)));rw[List.flatMap_map]
theorem X4C (q:Zc) (n:Nat) (e:q.CoRecord.Entries.length=n) (a:n<=10) (b:q.seen.length<=8) (d:∀x∈q.seen,X3c q.CoRecord x) :
    ∀(l:List Zr) (k:Nat),k+l.length=q.seen.length->q.seen.drop k=l->∀(u:Nat->Y2) (ap:List Zb),UBd u->ApK n k ap->∀c,X2M u ap=c →
      Z9E X4 (l.length+1) (u,(k:Int),ap,q,false,q,q)=some (X60 q (X8 n (l.map (X23 q.CoRecord)) c))
  | [],k,hk,hd,u,ap,hu,hap,c,hc=>X3Z q n e a b d (Z9E X4 0) [] k hk hd (fun _ _ h=>by cases h) u ap hu hap c hc
  | x::l,k,hk,hd,u,ap,hu,hap,c,hc=>X3Z q n e a b d (Z9E X4 (l.length+1)) (x::l) k hk hd (fun x' l' h g f=>by
      injection h with _ h
      subst h;exact X4C q n e a b d l (k+1) g f) u ap hu hap c hc
theorem X6g (q:Zc) (n:Nat) (i:q.CoRecord.Entries.length=n) (a:n<=10) (c:q.seen.length<=8) (e:∀x∈q.seen,X3c q.CoRecord x) (k:Nat) (j:k<=q.seen.length) (u:Nat->Y2) (ap:List Zb) (d:UBd u) (b:ApK n k ap) :
    XY (u,(k:Int),ap,q,false,q,q)=some (X60 q (X8 n ((q.seen.drop k).map (X23 q.CoRecord)) (X2M u ap))) :=
  X5Y (fun f g h x r hr=>X66 f g h x r hr) (X4C q n i a c e (q.seen.drop k) k (by rw[List.length_drop];omega) rfl u ap d b _ rfl)
end Nore
open Go Go.Ab
namespace Nore
theorem X6f (q:Zc) (n:Nat) (g:q.CoRecord.Entries.length=n) (a:n<=10) (f:q.seen.length<=8) (b:∀x∈q.seen,X3c q.CoRecord x) (u:Nat->Y2) (d:UBd u) :
    XX (u,0,q,false,q,q)=some (X60 q (X8 n (q.seen.map (X23 q.CoRecord)) (X2M u []))):=by
  rw[X1S];exact X3Z q n g a f b XY q.seen 0 (by omega) rfl (fun x l' h j i u ap d e c hc=>by
    rw[X6g q n g a f b 1 (by omega) u ap d e,hc,i]) u [] d ⟨Nat.le_refl _,fun s b=>by cases b⟩ _ rfl
def X2f (r:CoRecord):Nat->Y2:=fun j=>(r.Entries.getD j (Zq.mk 0 0 (Y2.mk 0 0))).At
theorem X6L {r:CoRecord} (h:X6I r):UBd (X2f r):=fun i=>by
  unfold X2f
  by_cases hi:i<r.Entries.length
  · rw[We _ _ _ hi]
    exact h.2 _ (jl hi)
  · have:r.Entries.getD i (Zq.mk 0 0 (Y2.mk 0 0))=Zq.mk 0 0 (Y2.mk 0 0):=by simp[List.getD,List.getElem?_eq_none (by omega:r.Entries.length<=i)]
    rw[this];simp
theorem X6K (r:CoRecord) (g:r.Entries.length<=10) (x3 x4:Zc) (x6:Bool) (x7:Zc) :
    W1 r.Entries (r.Entries.length:Int) x3 x4 x6 x7 (0,fun _=>Y2.mk 0 0)=some (X2f r):=by
  obtain⟨w,f,d⟩:=X1Z (Xh r.Entries (r.Entries.length:Int) x3 x4 x6 x7) r.Entries.length (fun i (b:Nat->Y2)=>((i:Int),b))
    (fun i b=>∀j,b j=if j<i then X2f r j else Y2.mk 0 0) (fun w=>w=X2f r)
    (fun b c=>⟨b,by simp[Xh,X6],funext fun j=>by
      rw[c j];split
      · rfl
      · rename_i h
        unfold X2f;rw[show r.Entries.getD j (Zq.mk 0 0 (Y2.mk 0 0))=Zq.mk 0 0 (Y2.mk 0 0) by simp[List.getD,List.getElem?_eq_none (by omega:r.Entries.length<=j)]]⟩)
    (fun i b hi c=>by
      right;have e1:decide ((i:Int)<(r.Entries.length:Int))=true:=by simp;omega
      have e2:decide ((i:Int)<(10:Int))=true:=by simp;omega
      have e3:Nat.blt i 10=true:=by rw[Nat.blt_eq];omega
      have w1:=wS i (by omega)
      simp only[Xh,X6,e1,e2,e3,z0S,kS,ju,jB,w1];refine⟨_,rfl,fun j=>?_⟩;cases e:Nat.beq j i with
      | true =>
        have:=je e;subst this;rw[if_pos (by omega)];rfl
      | false =>
        have:=Nat.ne_of_beq_eq_false e;simp only[jA];rw[c j]
        by_cases h:j<i
        · rw[if_pos h,if_pos (by omega)]
        · rw[if_neg h,if_neg (by omega)]) 0 (fun _=>Y2.mk 0 0) (Nat.zero_le _) (fun j=>by simp)
  have a:W1 r.Entries (r.Entries.length:Int) x3 x4 x6 x7 (0,fun _=>Y2.mk 0 0)=some w:=f;rw[a,d]
theorem X5J (q:Zc) (h:X6I q.CoRecord) (a:q.seen.length<=8) (b:∀x∈q.seen,X3c q.CoRecord x) :
    XV q=some (!(X8 q.CoRecord.Entries.length (q.seen.map (X23 q.CoRecord)) (X2M (X2f q.CoRecord) [])).isEmpty):=by
  rw[X3d];unfold Wt;rw[X2o];unfold XI;simp only[X6K q.CoRecord h.1,jS];rw[X6f q _ rfl h.1 a b _ (X6L h)];simp only[jS];generalize X8 q.CoRecord.Entries.length (q.seen.map (X23 q.CoRecord)) (X2M (X2f q.CoRecord) [])=L;cases L with
  | nil=>rfl
  | cons y ys=>rfl
end Nore
open Go Go.Ab
namespace Nore
def mmN (n:Nat) (l t:Nat->Y2):Nat->Y2:=fun j=>if j<n then⟨if(l j).Lo<(t j).Lo then(l j).Lo else(t j).Lo,if(l j).Hi>(t j).Hi then(l j).Hi else(t j).Hi⟩else t j
def Zd1 (n:Nat) (s:Bool×(Nat->Y2)) (c:Con):Bool×(Nat->Y2):=(true,mmN n (spN c.lo c.hi) (if s.1 then s.2 else spN c.lo c.hi))
theorem X7v (n i:Nat) (l t:Nat->Y2):(fun j=>bif Nat.beq j i then Y2.mk (bif decide ((l i).Lo<(t i).Lo)then(l i).Lo else(t i).Lo) (bif decide ((l i).Hi>(t i).Hi)then(l i).Hi else(t i).Hi)else mmN i l t j)=mmN (i+1) l t:=by
  funext j;cases e:Nat.beq j i with
  | true =>
    have:=je e;subst this;have e1:j<j+1:=by omega
    simp only[mmN,jB,e1,if_true]
    by_cases h1:(l j).Lo<(t j).Lo<;>by_cases h2:(l j).Hi>(t j).Hi<;>simp[h1,h2]
  | false =>
    have:=Nat.ne_of_beq_eq_false e;simp only[mmN,jA]
    by_cases h:j<i
    · have e1:j<i+1:=by omega
      simp only[h,e1,if_true]
    · have e1:¬j<i+1:=by omega
      simp only[h,e1,if_false]
theorem X5C (n:Nat) (g:n<=10) (l t:Nat->Y2) (x2 x4:Zc) (x6:Int) (x7:Bool) (x8:List Zr) (x9:Int) (x10:CoRecord) (x11:Bool) (x12:CoRecord) :
    XM (n:Int) x2 x4 l x6 x7 x8 x9 x10 x11 x12 (0,t)=some (mmN n l t):=by
  obtain⟨w,f,e⟩:=X1Z (Xb (n:Int) x2 x4 l x6 x7 x8 x9 x10 x11 x12) n (fun i (b:Nat->Y2)=>((i:Int),b)) (fun i b=>b=mmN i l t) (fun w=>w=mmN n l t)
    (fun b a=>⟨b,by simp[Xb,X0],a⟩)
    (fun i b hi a=>by
      right;have e1:decide ((i:Int)<(n:Int))=true:=by simp;omega
      have e2:decide ((i:Int)<(10:Int))=true:=by simp;omega
      have e3:Nat.blt i 10=true:=by rw[Nat.blt_eq];omega
      have w1:=wS i (by omega)
      have d:b i=t i:=by rw[a];unfold mmN;rw[if_neg (by omega)]
      simp only[Xb,X0,e1,e2,e3,z0S,kS,ju,jB,w1,d];refine⟨_,rfl,?_⟩;rw[a];exact X7v n i l t) 0 t (Nat.zero_le _) (funext fun j=>by unfold mmN;rw[if_neg (by omega)])
  have c:XM (n:Int) x2 x4 l x6 x7 x8 x9 x10 x11 x12 (0,t)=some w:=f;rw[c,e]
theorem X6U (ih:((Nat->Y2)×Int×(List Zb)×Zc×(Nat->Y2)×Zc×Int×Bool×(List Zr)×Int×CoRecord×Bool×CoRecord)->Option (Bool×Zc×(Nat->Y2)×Zc×Int×Bool×(List Zr)×Int×CoRecord×Bool×CoRecord)) (n:Nat) (a:n<=10) (l t:Nat->Y2) (x2 x4:Zc) (x6:Int) (x7:Bool) (x8:List Zr) (x9:Int) (x10:CoRecord) (x11:Bool) (x12:CoRecord) :
    Wr ih (n:Int) x2 x4 l x6 x7 x8 x9 x10 x11 x12 (0,t)=some (mmN n l t) :=
  X5C n a l t x2 x4 x6 x7 x8 x9 x10 x11 x12
theorem X6V (ih:((Nat->Y2)×Int×(List Zb)×Zc×(Nat->Y2)×Zc×Int×Bool×(List Zr)×Int×CoRecord×Bool×CoRecord)->Option (Bool×Zc×(Nat->Y2)×Zc×Int×Bool×(List Zr)×Int×CoRecord×Bool×CoRecord)) (n:Nat) (a:n<=10) (l t:Nat->Y2) (x2 x4:Zc) (x6:Int) (x7:Bool) (x8:List Zr) (x9:Int) (x10:CoRecord) (x11:Bool) (x12:CoRecord) :
    Ws ih (n:Int) x2 x4 l x6 x7 x8 x9 x10 x11 x12 (0,t)=some (mmN n l t) :=
  X5C n a l t x2 x4 x6 x7 x8 x9 x10 x11 x12
theorem X67 (f g:((Nat->Y2)×Int×(List Zb)×Zc×(Nat->Y2)×Zc×Int×Bool×(List Zr)×Int×CoRecord×Bool×CoRecord)->Option (Bool×Zc×(Nat->Y2)×Zc×Int×Bool×(List Zr)×Int×CoRecord×Bool×CoRecord)) (h:∀x,LeO (f x) (g x)) (x):LeO (X5 f x) (X5 g x):=by
  unfold X5 Xg;refine .bind (.same _) fun a=>.cond (.same _) (.cond ?_ (.cond (.cond (.cond (.cond (.bind ?_ fun _=>.same _) (.same _)) (.same _)) (.same _)) (.same _)))
  · exact .cond (.bind (.same _) fun _=>.same _) (.bind (.same _) fun _=>.same _)
  unfold XN;refine LeO.run (fun s=>?_) _;unfold Xc X2;dsimp only
  repeat' (first|with_reducible exact LeO.same _|with_reducible exact LeO.bind (h _) fun _=>LeO.same _|with_reducible apply LeO.cond)
end Nore
open Go Go.Ab
namespace Nore
def X5b (n:Nat) (q q5:Zc) (n6:Int) (b7:Bool) (l8:List Zr) (n9:Int) (r10 r12:CoRecord) (fd:Bool) (tm:Nat->Y2) (L:List Con):Bool×Zc×(Nat->Y2)×Zc×Int×Bool×(List Zr)×Int×CoRecord×Bool×CoRecord :=
  (true,q,(L.foldl (Zd1 n) (fd,tm)).2,q5,n6,b7,l8,n9,r10,(L.foldl (Zd1 n) (fd,tm)).1,r12)
theorem X5c (n:Nat) (q q5:Zc) (n6:Int) (b7:Bool) (l8:List Zr) (n9:Int) (r10 r12:CoRecord) (fd:Bool) (tm:Nat->Y2) (L M:List Con) :
    X5b n q q5 n6 b7 l8 n9 r10 r12 fd tm (L++M)=X5b n q q5 n6 b7 l8 n9 r10 r12 (L.foldl (Zd1 n) (fd,tm)).1 (L.foldl (Zd1 n) (fd,tm)).2 M:=by
  unfold X5b;rw[List.foldl_append]
theorem X40 (q q5:Zc) (n6:Int) (b7:Bool) (l8:List Zr) (n9:Int) (r10 r12:CoRecord) (n:Nat) (o:q.CoRecord.Entries.length=n) (hr:r12.Entries.length=n) (y:n<=10) (h8:q.seen.length<=8) (hs:∀x∈q.seen,X3c q.CoRecord x)
    (ih0:((Nat->Y2)×Int×(List Zb)×Zc×(Nat->Y2)×Zc×Int×Bool×(List Zr)×Int×CoRecord×Bool×CoRecord)->Option (Bool×Zc×(Nat->Y2)×Zc×Int×Bool×(List Zr)×Int×CoRecord×Bool×CoRecord)) (l:List Zr) (k:Nat) (hk:k+l.length=q.seen.length) (hd:q.seen.drop k=l)
    (ih:∀x l',l=x::l'->k+1+l'.length=q.seen.length->q.seen.drop (k+1)=l'->∀(u:Nat->Y2) (ap:List Zb),UBd u->ApK n (k+1) ap->∀c,X2M u ap=c->∀(fd:Bool) (tm:Nat->Y2),ih0 (u,((k+1:Nat):Int),ap,q,tm,q5,n6,b7,l8,n9,r10,fd,r12)=some (X5b n q q5 n6 b7 l8 n9 r10 r12 fd tm (X8 n (l'.map (X23 q.CoRecord)) c)))
    (u:Nat->Y2) (ap:List Zb) (r:UBd u) (a:ApK n k ap) (c:Con) (hc:X2M u ap=c) (fd:Bool) (tm:Nat->Y2) :
    Xg ih0 u (k:Int) ap q tm q5 n6 b7 l8 n9 r10 fd r12=some (X5b n q q5 n6 b7 l8 n9 r10 r12 fd tm (X8 n (l.map (X23 q.CoRecord)) c)):=by
  cases l with
  | nil =>
    have h:=X4c q u ap r (o▸a) (by omega) (by omega)
    rw[o,hc]at h;unfold Xg;simp only[h,jS,List.map_nil,X5w];have c1:((k:Int)==(q.seen.length:Int))=true:=by simp only[List.length_nil,Nat.add_zero]at hk;simp[hk]
    cases okN n c with
    | false=>rfl
    | true =>
      simp only[Bool.not_true,jA,c1,jB,hr,if_true];cases fd with
      | false =>
        rw[X6U _ n y];rfl
      | true =>
        rw[X6V _ n y];rfl
  | cons x l =>
    simp only[List.length_cons]at hk;have h:=X4c q u ap r (o▸a) (by omega) (by omega)
    rw[o,hc]at h;have p:k<q.seen.length:=by omega
    have d:q.seen.drop k=q.seen[k]::q.seen.drop (k+1):=jb p;rw[hd]at d;injection d with hx hl
    have g:X3c q.CoRecord x:=hs x (hx▸jl p);have v:q.seen.getD k (Zr.mk 0 0 (Y2.mk 0 0))=x:=by rw[We _ _ _ p,<-hx]
    have j:=ih x l rfl (by omega) hl.symm
    unfold Xg;simp only[h,jS,jr];show _=some (X5b n q q5 n6 b7 l8 n9 r10 r12 fd tm (X8 n (X23 q.CoRecord x::l.map (X23 q.CoRecord)) c));rw[X56];cases hok:okN n c with
    | false=>rfl
    | true =>
      have c1:((k:Int)==(q.seen.length:Int))=false:=X3q (by omega)
      have c2:decide ((k:Int)<(q.seen.length:Int))=true:=by simp;omega
      have c3:decide (0<=x.Device)=true:=by simp[g.dev.1]
      have c4:decide (x.Device<(q.CoRecord.Devices.length:Int))=true:=by simp[g.dev.2]
      have c5:Nat.ble (n*(32+1)) 100000000000000=true:=by rw[Nat.ble_eq];omega
      have c6:Nat.ble ((n+1)*(32+1)) 200000000000000=true:=by rw[Nat.ble_eq];omega
      have c7:Nat.blt 0 4=true:=rfl;have w:(q.CoRecord.Entries++[Zq.mk x.Device (-1) (Y2.mk 0 0)]).length=n+1:=by rw[List.length_append,List.length_singleton,o]
      simp only[Bool.not_true,jA,c1,c2,c3,c4,o,c5,List.length_singleton,c6,c7,z0S,ju,jB,kS,v,if_true,w];unfold XN;refine Eq.trans (X1H _ _ (n+1) (fun i (b:Int×Zb×Bool×(Nat->Y2))=>((i:Int),b.1,q,b.2.2.2,q5,b.2.1,n6,b7,l8,n9,r10,b.2.2.1,r12)) (fun i b => -1<=b.2.1.from_/\b.2.1.from_<i)
        (fun i b=>some (X5b n q q5 n6 b7 l8 n9 r10 r12 b.2.2.1 b.2.2.2 ((X5h n x.Device x.State q.CoRecord.Entries i b.1 b.2.1.from_).flatMap fun s=>X8 n (l.map (X23 q.CoRecord)) (X22 n c (X44 s) x.At.Lo x.At.Hi)))) ?_ ?_ 0
        ((q.CoRecord.Devices.getD x.Device.toNat ⟨ByteArray.empty,0,0⟩).First,⟨-1,0⟩,fd,tm) (by omega) ⟨by simp,by simp⟩) ?_
      · intro b hP R
        have e1:decide (((n+1:Nat):Int)<((n+1:Nat):Int))=false:=by simp
        simp only[Xc,X2,e1,jA,X5i];rfl
      · intro i b hi hP R hR
        obtain⟨now,s,fd,tm⟩:=b;obtain⟨t,hP2⟩:=hP;simp only at t hP2;generalize hX:(q.CoRecord.Entries++[Zq.mk x.Device (-1) (Y2.mk 0 0)]).getD i (Zq.mk 0 0 (Y2.mk 0 0))=X;simp only;rw[X6q o x.Device x.State hi now s.from_ hX];have e1:decide ((i:Int)<((n+1:Nat):Int))=true:=by simp;omega
        have e3:Nat.blt i (n+1)=true:=by rw[Nat.blt_eq];exact hi
        have w1:=wS i (by omega)
        have w2:=wS k (by omega)
        have w3:IntKind.wrap .i64 (x.At.Lo+1)=x.At.Lo+1:=by have:=g.lo;rw[w64]<;>omega
        have hl2:=a.1;have b1:Nat.ble (ap.length*(16+1)) 100000000000000=true:=by rw[Nat.ble_eq];omega
        have b2:Nat.ble ((ap.length+1)*(16+1)) 200000000000000=true:=by rw[Nat.ble_eq];omega
        have b3:Nat.blt 0 2=true:=rfl;have hxl:=g.lo;have z:=g.hi;simp only[Xc,X2,w,e1,e3,z0S,ju,jB,kS,w1,w2,w3,hX,o,b1,b2,b3,List.length_singleton]
        by_cases hdv:X.Device=x.Device
        · have d1:(X.Device != x.Device)=false:=by simp[hdv]
          simp only[d1,jA];rw[if_pos hdv]
          by_cases hnow:now=x.State
          · have d2:(now==x.State)=true:=by simp[hnow]
            simp only[d2,jB];rw[if_pos hnow,List.singleton_append,List.flatMap_cons];generalize hrest:((X5h n x.Device x.State q.CoRecord.Entries (i+1) X.State (i:Int)).flatMap fun s=>X8 n (l.map (X23 q.CoRecord)) (X22 n c (X44 s) x.At.Lo x.At.Hi))=rest;have m:∀fd tm,R (((i+1:Nat):Int),X.State,q,tm,q5,Zb.mk (i:Int) (i:Int),n6,b7,l8,n9,r10,fd,r12)=some (X5b n q q5 n6 b7 l8 n9 r10 r12 fd tm rest):=fun fd tm=>by
              rw[<-hrest];exact hR (X.State,⟨(i:Int),(i:Int)⟩,fd,tm) ⟨by simp only;omega,by simp only;omega⟩
            show _=some (X5b n q q5 n6 b7 l8 n9 r10 r12 fd tm (X8 n (l.map (X23 q.CoRecord)) (X22 n c (s.from_,(i:Int).toNat) x.At.Lo x.At.Hi)++rest));rw[kS]
            by_cases hf:0<=s.from_
            · obtain⟨f,a0⟩:=Int.eq_ofNat_of_zero_le hf
              have f1:decide ((f:Int)>=0)=true:=by simp
              have f2:decide ((f:Int)<(10:Int))=true:=by simp;omega
              have f3:Nat.blt f 10=true:=by rw[Nat.blt_eq];omega
              by_cases hin:i<n
              · have g1:decide ((i:Int)<(n:Int))=true:=by simp;omega
                have g2:decide ((i:Int)<(10:Int))=true:=by simp;omega
                have g3:Nat.blt i 10=true:=by rw[Nat.blt_eq];omega
                simp only[a0,f1,f2,f3,g1,g2,g3,z0S,kS,ju,jB];rw[j _ _ ?b1h1 ?b1h2 (X22 n c ((f:Int),i) x.At.Lo x.At.Hi) ?b1h3]
                case b1h1=>exact(r.hi f z).lo i (by omega)
                case b1h2=>exact a.add (by omega) hin
                case b1h3=>rw[<-hc];exact X6k u ap hin x.At.Lo x.At.Hi
                rw[X5c];exact m _ _
              · have g1:decide ((i:Int)<(n:Int))=false:=by simp;omega
                simp only[a0,f1,f2,f3,g1,z0S,kS,ju,jB,jA];rw[j _ _ ?b2h1 ?b2h2 (X22 n c ((f:Int),i) x.At.Lo x.At.Hi) ?b2h3]
                case b2h1=>exact r.hi f z
                case b2h2=>exact a.keep
                case b2h3=>rw[<-hc];exact X78 u ap hin x.At.Lo x.At.Hi
                rw[X5c];exact m _ _
            · have f1:decide (s.from_>=0)=false:=by simp;omega
              by_cases hin:i<n
              · have g1:decide ((i:Int)<(n:Int))=true:=by simp;omega
                have g2:decide ((i:Int)<(10:Int))=true:=by simp;omega
                have g3:Nat.blt i 10=true:=by rw[Nat.blt_eq];omega
                simp only[f1,g1,g2,g3,z0S,kS,ju,jB,jA];rw[j _ _ ?b3h1 ?b3h2 (X22 n c (s.from_,i) x.At.Lo x.At.Hi) ?b3h3]
                case b3h1=>exact r.lo i (by omega)
                case b3h2=>exact a.keep
                case b3h3=>rw[<-hc];exact X79 u ap hf hin x.At.Lo x.At.Hi
                rw[X5c];exact m _ _
              · have g1:decide ((i:Int)<(n:Int))=false:=by simp;omega
                simp only[f1,g1,z0S,kS,ju,jB,jA];rw[j _ _ ?b4h1 ?b4h2 (X22 n c (s.from_,i) x.At.Lo x.At.Hi) ?b4h3]
                case b4h1=>exact r
                case b4h2=>exact a.keep
                case b4h3=>rw[<-hc];exact X7a u ap hf hin x.At.Lo x.At.Hi
                rw[X5c];exact m _ _
          · have d2:(now==x.State)=false:=X3q hnow
            simp only[d2,jA];rw[if_neg hnow,List.nil_append];exact hR (X.State,⟨(i:Int),(i:Int)⟩,fd,tm) ⟨by simp only;omega,by simp only;omega⟩
        · have d1:(X.Device != x.Device)=true:=X3r hdv
          simp only[d1,jB];rw[if_neg hdv];exact hR (now,s,fd,tm) ⟨t,by simp only;omega⟩
      · simp only[if_true]
        show some (X5b n q q5 n6 b7 l8 n9 r10 r12 fd tm ((X5h n x.Device x.State q.CoRecord.Entries 0 (q.CoRecord.Devices.getD x.Device.toNat ⟨ByteArray.empty,0,0⟩).First (-1)).flatMap fun s=>X8 n (l.map (X23 q.CoRecord)) (X22 n c (X44 s) x.At.Lo x.At.Hi)))=_;have e:X5h n x.Device x.State q.CoRecord.Entries 0 (q.CoRecord.Devices.getD x.Device.toNat ⟨ByteArray.empty,0,0⟩).First (-1)=X5B q.CoRecord x:=if_pos (Nat.zero_le _);rw[e];show _=some (X5b n q q5 n6 b7 l8 n9 r10 r12 fd tm (((X5B q.CoRecord x).map X44).flatMap fun s=>X8 n (l.map (X23 q.CoRecord)) (X22 n c s x.At.Lo x.At.Hi)));rw[List.flatMap_map]
theorem X4D (q q5:Zc) (n6:Int) (b7:Bool) (l8:List Zr) (n9:Int) (r10 r12:CoRecord) (n:Nat) (e:q.CoRecord.Entries.length=n) (hr:r12.Entries.length=n) (a:n<=10) (b:q.seen.length<=8) (d:∀x∈q.seen,X3c q.CoRecord x) :
    ∀(l:List Zr) (k:Nat),k+l.length=q.seen.length->q.seen.drop k=l->∀(u:Nat->Y2) (ap:List Zb),UBd u->ApK n k ap->∀c,X2M u ap=c->∀(fd:Bool) (tm:Nat->Y2),
      Z9E X5 (l.length+1) (u,(k:Int),ap,q,tm,q5,n6,b7,l8,n9,r10,fd,r12)=some (X5b n q q5 n6 b7 l8 n9 r10 r12 fd tm (X8 n (l.map (X23 q.CoRecord)) c))
  | [],k,hk,hd,u,ap,hu,hap,c,hc,fd,tm=>X40 q q5 n6 b7 l8 n9 r10 r12 n e hr a b d (Z9E X5 0) [] k hk hd (fun _ _ h=>by cases h) u ap hu hap c hc fd tm
  | x::l,k,hk,hd,u,ap,hu,hap,c,hc,fd,tm=>X40 q q5 n6 b7 l8 n9 r10 r12 n e hr a b d (Z9E X5 (l.length+1)) (x::l) k hk hd (fun x' l' h g f=>by
      injection h with _ h
      subst h;exact X4D q q5 n6 b7 l8 n9 r10 r12 n e hr a b d l (k+1) g f) u ap hu hap c hc fd tm
theorem X6i (q q5:Zc) (n6:Int) (b7:Bool) (l8:List Zr) (n9:Int) (r10 r12:CoRecord) (n:Nat) (i:q.CoRecord.Entries.length=n) (hr:r12.Entries.length=n) (a:n<=10) (c:q.seen.length<=8) (e:∀x∈q.seen,X3c q.CoRecord x) (k:Nat) (j:k<=q.seen.length) (u:Nat->Y2) (ap:List Zb) (d:UBd u) (b:ApK n k ap) (fd:Bool) (tm:Nat->Y2) :
    W0 (u,(k:Int),ap,q,tm,q5,n6,b7,l8,n9,r10,fd,r12)=some (X5b n q q5 n6 b7 l8 n9 r10 r12 fd tm (X8 n ((q.seen.drop k).map (X23 q.CoRecord)) (X2M u ap))) :=
  X5Y (fun f g h x r hr=>X67 f g h x r hr) (X4D q q5 n6 b7 l8 n9 r10 r12 n i hr a c e (q.seen.drop k) k (by rw[List.length_drop];omega) rfl u ap d b _ rfl fd tm)
end Nore
open Go Go.Ab
namespace Nore
theorem X6h (q q5:Zc) (n6:Int) (b7:Bool) (l8:List Zr) (n9:Int) (r10 r12:CoRecord) (n:Nat) (g:q.CoRecord.Entries.length=n) (hr:r12.Entries.length=n) (a:n<=10) (f:q.seen.length<=8) (b:∀x∈q.seen,X3c q.CoRecord x) (u:Nat->Y2) (d:UBd u) (fd:Bool) (tm:Nat->Y2) :
    XZ (u,0,q,tm,q5,n6,b7,l8,n9,r10,fd,r12)=some (X5b n q q5 n6 b7 l8 n9 r10 r12 fd tm (X8 n (q.seen.map (X23 q.CoRecord)) (X2M u []))):=by
  rw[X1U];exact X40 q q5 n6 b7 l8 n9 r10 r12 n g hr a f b W0 q.seen 0 (by omega) rfl (fun x l' h j i u ap d e c hc fd tm=>by
    rw[X6i q q5 n6 b7 l8 n9 r10 r12 n g hr a f b 1 (by omega) u ap d e,hc,i]) u [] d ⟨Nat.le_refl _,fun s b=>by cases b⟩ _ rfl fd tm
theorem X7s (r:CoRecord) (a:r.Entries.length<=10) (x4:Nat->Y2) (x5:Zc) (x6:Int) (x7:Bool) (x8:List Zr) (x9:Int) (x10:CoRecord) (x11:Zc) (x12:Bool) (x13:CoRecord) :
    WJ r.Entries (r.Entries.length:Int) x4 x5 x6 x7 x8 x9 x10 x11 x12 x13 (0,fun _=>Y2.mk 0 0)=some (X2f r) :=
  X6K r a x5 x5 x7 x5
theorem X4J (q q1:Zc) (tm:Nat->Y2) (n6:Int) (b7:Bool) (l8:List Zr) (n9:Int) (r10 r12:CoRecord) (fd:Bool) (h:X6I q.CoRecord) (hr:r12.Entries.length=q.CoRecord.Entries.length) (a:q.seen.length<=8) (b:∀x∈q.seen,X3c q.CoRecord x) :
    Wd (tm,q1,n6,b7,l8,n9,r10,q,fd,r12)=some (((X8 q.CoRecord.Entries.length (q.seen.map (X23 q.CoRecord)) (X2M (X2f q.CoRecord) [])).foldl (Zd1 q.CoRecord.Entries.length) (fd,tm)).2,q1,n6,b7,l8,n9,r10,q,
      ((X8 q.CoRecord.Entries.length (q.seen.map (X23 q.CoRecord)) (X2M (X2f q.CoRecord) [])).foldl (Zd1 q.CoRecord.Entries.length) (fd,tm)).1,r12):=by
  rw[X2q];unfold XJ;simp only[X7s q.CoRecord h.1,jS];rw[X6h q q1 n6 b7 l8 n9 r10 r12 _ rfl hr h.1 a b _ (X6L h)];rfl
end Nore
open Go Go.Ab
namespace Nore
def X3j (i:Nat) (s:Y2) (c:Con):Y2:=⟨if c.lo i<s.Lo then c.lo i else s.Lo,if c.hi i>s.Hi then c.hi i else s.Hi⟩
theorem X5V (n:Nat):∀(L:List Con) (t:Nat->Y2),L.foldl (Zd1 n) (true,t)=(true,fun j=>if j<n then L.foldl (X3j j) (t j)else t j)
  | [],t=>by
    simp only[List.foldl_nil,ite_self]
  | c::L,t=>by
    rw[List.foldl_cons];show L.foldl (Zd1 n) (true,mmN n (spN c.lo c.hi) t)=_;rw[X5V n L];congr 1;funext j
    by_cases h:j<n
    · rw[if_pos h,if_pos h,List.foldl_cons]
      congr 1;unfold mmN;rw[if_pos h];rfl
    · rw[if_neg h,if_neg h]
      unfold mmN;rw[if_neg h]
theorem X6M (n:Nat) (c:Con) (L:List Con) (tm:Nat->Y2):(c::L).foldl (Zd1 n) (false,tm)=(true,fun j=>if j<n then(c::L).foldl (X3j j) ⟨c.lo j,c.hi j⟩else⟨c.lo j,c.hi j⟩):=by
  rw[List.foldl_cons];show L.foldl (Zd1 n) (true,mmN n (spN c.lo c.hi) (spN c.lo c.hi))=_;rw[X5V n L];congr 1;funext j
  by_cases h:j<n
  · rw[if_pos h,if_pos h,List.foldl_cons]
    congr 1;unfold mmN;rw[if_pos h];rfl
  · rw[if_neg h,if_neg h]
    unfold mmN;rw[if_neg h];rfl
def X2O (n:Nat) (L:List Con):List Y2:=(List.range n).map fun j=>L.foldl (X3j j) ⟨(L.headD ⟨fun _=>0,fun _=>0,[]⟩).lo j,(L.headD ⟨fun _=>0,fun _=>0,[]⟩).hi j⟩
structure X5N (r:CoRecord) (l:List Zr):Prop where
  ent:X6I r
  many:l.length<=8
  seen:∀x∈l,X3c r x
theorem X75 (r:CoRecord) (l:List Zr):∀w∈l.map (X23 r),X77 r.Entries.length w:=fun w a=>by
  obtain⟨x,_,rfl⟩:=List.mem_map.1 a;intro s b;obtain⟨t,ht,rfl⟩:=List.mem_map.1 b;exact((X7x x rfl).2 t ht).2
def X2H (r:CoRecord) (l:List Zr):List Con:=X8 r.Entries.length (l.map (X23 r)) (X2M (X2f r) [])
theorem X4r {r:CoRecord} {l:List Zr} (h:X5N r l):XV ⟨r,l⟩=some (!(X2H r l).isEmpty):=X5J ⟨r,l⟩ h.ent h.many h.seen
def X51 (r:CoRecord) (l:List Zr):List Y2×Int:=if(X2H r l).isEmpty then([],9)else(X2O r.Entries.length (X2H r l),0)
theorem X5m {r:CoRecord} {l:List Zr} (h:X5N r l) (hc:X31 r l=some (⟨r,l⟩,0)):X1k r l=some (X51 r l):=by
  rw[X3F];unfold X1A;have e0:((0:Int) != 0)=false:=rfl;simp only[hc,jS,e0,jA];rw[X4J ⟨r,l⟩ ⟨r,l⟩ _ 0 false l 0 r r false h.ent rfl h.many h.seen];unfold X51;show Option.bind (some (((X2H r l).foldl (Zd1 r.Entries.length) (false,fun _=>Y2.mk 0 0)).2,(⟨r,l⟩:Zc),(0:Int),false,l,(0:Int),r,(⟨r,l⟩:Zc),((X2H r l).foldl (Zd1 r.Entries.length) (false,fun _=>Y2.mk 0 0)).1,r)) _=_;have e:=h.ent.1;cases hA:X2H r l with
  | nil=>rfl
  | cons c L =>
    rw[X6M];have c1:decide ((r.Entries.length:Int)<=(10:Int))=true:=by simp;omega
    have c2:Nat.blt 0 2=true:=rfl;have d:((List.map (fun j=>if j<r.Entries.length then(c::L).foldl (X3j j) ⟨c.lo j,c.hi j⟩else⟨c.lo j,c.hi j⟩) (List.range 10)).take r.Entries.length)=X2O r.Entries.length (c::L):=by
      rw[<-List.map_take,List.take_range,Nat.min_eq_left e];unfold X2O;refine List.map_congr_left fun j b=>?_;rw[if_pos (List.mem_range.1 b)];rfl
    have a:(X2O r.Entries.length (c::L)).length=r.Entries.length:=by unfold X2O;simp
    have c3:Nat.ble (r.Entries.length*(16+1)) 100000000000000=true:=by rw[Nat.ble_eq];omega
    simp only[jS,Bool.not_true,jA,z0S,c1,ju,jB,kS,d,List.drop_zero,a,c2,c3];rfl
end Nore
open Go Go.Ab
namespace Nore
theorem WZ (lo up:Int) (l:List Int) (g:l.length<1000000):Wn lo up l=some (X1Y lo up l):=by
  rw[X41];unfold X1D;have key:=X1H (WM (↑l.length) l up lo) (fun o3=>Sum.elim (fun y4:Int=>some (decide (y4>=0))) (fun _=>some (decide ((-1:Int)>=0))) o3) l.length (fun i (_:Unit)=>(i:Int)) (fun _ _=>True) (fun i _=>some (X1Y lo up (l.drop i)))
    (by
      intro b _ R;simp[WM,WT,X5a])
    (by
      intro i b hi _ R e;have a:=e () trivial;simp only[WM,WT];rw[jb hi];simp only[kS,We _ _ _ hi,X4G];have c:=wS i (by omega)
      rw[c];have f:decide ((i:Int)<↑l.length)=true:=by simp[hi]
      have d:=z0S i;simp only[f,d,ju,jB]
      by_cases h3:l[i]<lo
      · simp[h3]
      · by_cases h4:l[i]>up
        · simp[h3,h4]
        · simp[h3,h4];exact a)
  exact(key 0 () (by omega) trivial).trans (by simp)
theorem X3C (n lo hi:Int):X3v n lo hi=some (inN n lo hi):=by
  rw[X5x];unfold X3g inN
  by_cases h:lo<=n<;>simp[h]
def X11 (r:CoRecord) (dev st:Int) (s:Y2):Int :=
  if X1Y 0 ((r.Devices.length:Int)-1) [dev]then 4 else
  if X1Y 0 (IntKind.wrap .i64 ((r.Devices.getD dev.toNat (Zm.mk ByteArray.empty 0 0)).States-1)) [st]then 7 else
  if X1Y 0 9999 [s.Lo,s.Hi]then 7 else if s.Lo>s.Hi then 2 else 0
theorem X38 {lo hi n:Int} (h:X1Y lo hi [n]=false):lo<=n/\n<=hi:=by
  simp only[X4G,X5a,Bool.or_false,Bool.or_eq_false_iff,decide_eq_false_iff_not]at h;omega
theorem X70 {lo hi n m:Int} (h:X1Y lo hi [n,m]=false):lo<=n/\n<=hi/\lo<=m/\m<=hi:=by
  simp only[X4G,X5a,Bool.or_false,Bool.or_eq_false_iff,decide_eq_false_iff_not]at h;omega
theorem X3G (r:CoRecord) (x:Zr) (hr:r.Devices.length<=1000000):X3n r x=some (X11 r x.Device x.State x.At):=by
  rw[X4O];unfold X2y;have w1:IntKind.wrap .i64 ((r.Devices.length:Int)-1)=(r.Devices.length:Int)-1:=by rw[w64]<;>omega
  rw[w1,WZ _ _ _ (by simp)]
  simp only[jS];unfold X11;cases h1:X1Y 0 ((r.Devices.length:Int)-1) [x.Device]with
  | true=>rfl
  | false =>
    have h:=X38 h1;have c1:decide (0<=x.Device)=true:=by simp[h.1]
    have c2:decide (x.Device<(r.Devices.length:Int))=true:=by simp;omega
    simp only[jA,c1,c2,ju,jB];rw[WZ _ _ _ (by simp)]
    simp only[jS];cases h2:X1Y 0 (IntKind.wrap .i64 ((r.Devices.getD x.Device.toNat (Zm.mk ByteArray.empty 0 0)).States-1)) [x.State]with
    | true=>rfl
    | false =>
      simp only[jA];rw[WZ _ _ _ (by simp)]
      simp only[jS];cases h3:X1Y 0 9999 [x.At.Lo,x.At.Hi]with
      | true=>rfl
      | false=>by_cases h4:x.At.Lo>x.At.Hi<;>simp[h4]
theorem X4B (r:CoRecord) (dev st:Int) (s:Y2) (hr:r.Devices.length<=1000000):X3N r dev st s=some (X11 r dev st s):=by
  rw[X4W];unfold X2C;have w1:IntKind.wrap .i64 ((r.Devices.length:Int)-1)=(r.Devices.length:Int)-1:=by rw[w64]<;>omega
  rw[w1,X3C,X4F];simp only[jS];unfold X11;cases h1:X1Y 0 ((r.Devices.length:Int)-1) [dev]with
  | true=>rfl
  | false =>
    have h:=X38 h1;have c1:decide (0<=dev)=true:=by simp[h.1]
    have c2:decide (dev<(r.Devices.length:Int))=true:=by simp;omega
    simp only[Bool.not_false,Bool.not_true,jA,c1,c2,ju,jB];rw[X3C,X4F];simp only[jS];cases h2:X1Y 0 (IntKind.wrap .i64 ((r.Devices.getD dev.toNat (Zm.mk ByteArray.empty 0 0)).States-1)) [st]with
    | true=>rfl
    | false =>
      simp only[Bool.not_false,Bool.not_true,jA];unfold X3U;rw[X5K _ _ _ (by simp)]
      simp only[jS,X4H];cases h3:X1Y 0 9999 [s.Lo,s.Hi]with
      | true=>rfl
      | false=>by_cases h4:s.Lo>s.Hi<;>simp[h4]
def X1u {α:Type} (f:Nat->α->Int):Nat->List α->Int×Int
  | _,[]=>(0,0)
  | i,x::xs=>if f i x≠0 then((i:Int),f i x)else X1u f (i+1) xs
theorem X28 {α:Type} (f:Nat->α->Int) (i:Nat) (x:α) (xs:List α):X1u f i (x::xs)=if f i x≠0 then((i:Int),f i x)else X1u f (i+1) xs:=rfl
def XC:Int->Nat->List Zq->Int×Int
  | _,_,[]=>(0,0)
  | least,i,x::xs=>if(if x.At.Lo>least then x.At.Lo else least)>x.At.Hi then((i:Int),9)else XC (if x.At.Lo>least then x.At.Lo else least) (i+1) xs
theorem X4v (least:Int) (i:Nat) (x:Zq) (xs:List Zq):XC least i (x::xs)=if(if x.At.Lo>least then x.At.Lo else least)>x.At.Hi then((i:Int),9)else XC (if x.At.Lo>least then x.At.Lo else least) (i+1) xs:=rfl
def X6c (names:List ByteArray) (d:Zm):Int :=
  if X4s d.Name names≠0 then X4s d.Name names else if X1Y 2 4 [d.States]||X1Y 0 (IntKind.wrap .i64 (d.States-1)) [d.First]then 7 else 0
def X3t (r:CoRecord):Int×Int:=X1u (fun i d=>X6c ((r.Devices.take i).map (·.Name)) d) 0 r.Devices
def X2L (r:CoRecord):Int×Int:=X1u (fun _ x=>X11 r x.Device x.State x.At) 0 r.Entries
def X1z (r:CoRecord):Int×Int×Int :=
  if X1Y 1 4 [(r.Devices.length:Int)]||decide ((r.Entries.length:Int)>10)then(1,0,3)else
  if(X3t r).2≠0 then(2,(X3t r).1,(X3t r).2)else
  if(X2L r).2≠0 then(3,(X2L r).1,(X2L r).2)else
  if(XC 0 0 r.Entries).2≠0 then(3,(XC 0 0 r.Entries).1,(XC 0 0 r.Entries).2)else(0,0,0)
def X12 (r:CoRecord) (l:List Zr):Int×Int :=
  if(X1z r).2.2≠0 then(0,(X1z r).2.2)else if(l.length:Int)>4 then(0,3)else X1u (fun _ x=>X11 r x.Device x.State x.At) 0 l
theorem X5p (r:CoRecord) (d:r.Devices.length<=1000000) (f:r.Entries.length<=1000000):W6 (r.Entries,r)=some ((X2L r).1,(X2L r).2,r):=by
  rw[X24];unfold Xu WA;refine Eq.trans (X1H _ _ r.Entries.length (fun i (_:Unit)=>(i:Int)) (fun _ _=>True) (fun i _=>some ((X1u (fun _ x=>X11 r x.Device x.State x.At) i (r.Entries.drop i)).1,(X1u (fun _ x=>X11 r x.Device x.State x.At) i (r.Entries.drop i)).2,r)) ?_ ?_ 0 () (Nat.zero_le _) trivial) rfl
  · intro b _ R
    have e1:decide ((r.Entries.length:Int)<(r.Entries.length:Int))=false:=by simp
    simp only[Xq,Xm,e1,jA,List.drop_length];rfl
  · intro i b hi _ R c
    have a:=c () trivial;have e1:decide ((i:Int)<(r.Entries.length:Int))=true:=by simp[hi]
    have w1:=wS i (by omega)
    rw[jb hi,X28];simp only[Xq,Xm,e1,z0S,kS,ju,jB,We _ _ _ hi,X3G r _ d,jS,w1];generalize X11 r r.Entries[i].Device r.Entries[i].State r.Entries[i].At=e
    by_cases he:e=0
    · have c1:(e != 0)=false:=by simp[he]
      simp only[c1,jA,if_neg (fun h:e≠0=>h he)];exact a
    · have c1:(e != 0)=true:=X3r he
      simp only[c1,jB,if_pos he];rfl
theorem X5q (r:CoRecord) (l:List Zr) (d:r.Devices.length<=1000000) (f:l.length<=1000000):Wc (l,r)=some ((X1u (fun _ (x:Zr)=>X11 r x.Device x.State x.At) 0 l).1,(X1u (fun _ (x:Zr)=>X11 r x.Device x.State x.At) 0 l).2,r):=by
  rw[X2m];unfold XG WI;refine Eq.trans (X1H _ _ l.length (fun i (_:Unit)=>(i:Int)) (fun _ _=>True) (fun i _=>some ((X1u (fun _ (x:Zr)=>X11 r x.Device x.State x.At) i (l.drop i)).1,(X1u (fun _ (x:Zr)=>X11 r x.Device x.State x.At) i (l.drop i)).2,r)) ?_ ?_ 0 () (Nat.zero_le _) trivial) rfl
  · intro b _ R
    have e1:decide ((l.length:Int)<(l.length:Int))=false:=by simp
    simp only[Xs,Xp,e1,jA,List.drop_length];rfl
  · intro i b hi _ R c
    have a:=c () trivial;have e1:decide ((i:Int)<(l.length:Int))=true:=by simp[hi]
    have w1:=wS i (by omega)
    rw[jb hi,X28];simp only[Xs,Xp,e1,z0S,kS,ju,jB,We _ _ _ hi,X3G r _ d,jS,w1];generalize X11 r l[i].Device l[i].State l[i].At=e
    by_cases he:e=0
    · have c1:(e != 0)=false:=by simp[he]
      simp only[c1,jA,if_neg (fun h:e≠0=>h he)];exact a
    · have c1:(e != 0)=true:=X3r he
      simp only[c1,jB,if_pos he];rfl
theorem X55 (l:List Zq) (g:l.length<=1000000):∃q,W7 (l,0)=some ((XC 0 0 l).1,(XC 0 0 l).2,q):=by
  rw[X26];unfold Xv WB;simp only
  let k:((Int×Int×Int×Zq×Zq)⊕Int)->Option (Int×Int×Int):=fun o41=>Sum.elim (fun y42=>some (y42.snd.fst,y42.fst,y42.snd.snd.fst)) (fun y43=>some (0,0,y43)) o41
  obtain⟨w,e,d⟩:=X1Z (X7 l (l.length:Int)) l.length (fun i (b:Int)=>((i:Int),b)) (fun i b=>XC b i (l.drop i)=XC 0 0 l) (fun w=>∃q,k w=some ((XC 0 0 l).1,(XC 0 0 l).2,q))
    (fun b a=>by
      have e1:decide ((l.length:Int)<(l.length:Int))=false:=by simp
      simp only[X7,Xn,e1,jA];refine⟨_,rfl,b,?_⟩;rw[List.drop_length]at a;rw[<-a];rfl)
    (fun i b hi a=>by
      have e1:decide ((i:Int)<(l.length:Int))=true:=by simp[hi]
      have w1:=wS i (by omega)
      rw[jb hi,X4v]at a;have f:(bif decide (l[i].At.Lo>b)then l[i].At.Lo else b)=(if l[i].At.Lo>b then l[i].At.Lo else b):=by by_cases h:l[i].At.Lo>b<;>simp[h]
      simp only[X7,Xn,e1,z0S,kS,ju,jB,We _ _ _ hi,w1,f]
      by_cases hc:(if l[i].At.Lo>b then l[i].At.Lo else b)>l[i].At.Hi
      · left
        rw[if_pos hc]at a;simp only[hc,decide_true,jB];refine⟨_,rfl,(if l[i].At.Lo>b then l[i].At.Lo else b),?_⟩;rw[<-a];rfl
      · right
        rw[if_neg hc]at a;simp only[hc,decide_false,jA];exact⟨_,rfl,a⟩) 0 0 (Nat.zero_le _) rfl
  have c:Z8I (X7 l (l.length:Int)) (0,0)=some w:=e;rw[c];exact d
theorem X5T (l:List Zm) (j:l.length<=1000000) (d:Zm) :
    (∃(i:Nat) (y:Zm),Xl (l.length:Int) l d 0=some (.inl ((i:Int),y))/\d.Name∈l.map (·.Name))\/(Xl (l.length:Int) l d 0=some (.inr ())/\¬d.Name∈l.map (·.Name)):=by
  obtain⟨w,f,e⟩:=X1Z (X9 (l.length:Int) l d) l.length (fun i (_:Unit)=>(i:Int)) (fun i _=>∀x∈l.take i,x.Name≠d.Name)
    (fun w=>(∃(i:Nat) (y:Zm),w=.inl ((i:Int),y)/\d.Name∈l.map (·.Name))\/(w=.inr ()/\¬d.Name∈l.map (·.Name)))
    (fun _ c=>by
      have e1:decide ((l.length:Int)<(l.length:Int))=false:=by simp
      simp only[X9,Xk,e1,jA];refine⟨_,rfl,.inr ⟨rfl,fun h=>?_⟩⟩;obtain⟨x,a,g⟩:=List.mem_map.1 h;rw[List.take_length]at c;exact c x a g)
    (fun i _ hi c=>by
      have e1:decide ((i:Int)<(l.length:Int))=true:=by simp[hi]
      have w1:=wS i (by omega)
      simp only[X9,Xk,e1,z0S,kS,ju,jB,We _ _ _ hi,w1]
      by_cases hn:l[i].Name=d.Name
      · left
        have c1:(l[i].Name.toList==d.Name.toList)=true:=by rw[hn];simp
        simp only[c1,jB];exact⟨_,rfl,.inl ⟨i,_,rfl,List.mem_map.2 ⟨l[i],jl hi,hn⟩⟩⟩
      · right
        have c1:(l[i].Name.toList==d.Name.toList)=false:=beq_eq_false_iff_ne.2 fun h=>hn (X64 h);simp only[c1,jA];refine⟨(),by first|rfl|trivial,fun x a=>?_⟩
        rw[List.take_succ_eq_append_getElem hi]at a;rcases List.mem_append.1 a with q|q
        · exact c x q
        · rw[List.mem_singleton.1 q];exact hn) 0 () (Nat.zero_le _) (fun x a=>by simp at a)
  have b:Xl (l.length:Int) l d 0=some w:=f;rcases e with⟨i,y,rfl,h⟩|⟨rfl,h⟩
  · exact .inl ⟨i,y,b,h⟩
  · exact .inr ⟨b,h⟩
theorem X5o (r:CoRecord) (k:r.Devices.length<=1000000):XW (r.Devices,r)=some ((X3t r).1,(X3t r).2,r):=by
  rw[X1Q];unfold Xr Wq;refine Eq.trans (X1H _ _ r.Devices.length (fun i (_:Unit)=>(i:Int)) (fun _ _=>True) (fun i _=>some ((X1u (fun i d=>X6c ((r.Devices.take i).map (·.Name)) d) i (r.Devices.drop i)).1,(X1u (fun i d=>X6c ((r.Devices.take i).map (·.Name)) d) i (r.Devices.drop i)).2,r)) ?_ ?_ 0 () (Nat.zero_le _) trivial) rfl
  · intro b _ R
    have e1:decide ((r.Devices.length:Int)<(r.Devices.length:Int))=false:=by simp
    simp only[Xo,Xj,e1,jA,List.drop_length];rfl
  · intro i b hi _ R h
    have g:=h () trivial;have e1:decide ((i:Int)<(r.Devices.length:Int))=true:=by simp[hi]
    have e2:decide ((i:Int)<=(r.Devices.length:Int))=true:=by simp;omega
    have w1:=wS i (by omega)
    rw[jb hi,X28];simp only[Xo,Xj,e1,e2,z0S,kS,ju,jB,We _ _ _ hi,X6a,jS,w1,List.drop_zero];generalize r.Devices[i]=d;have c:X6c ((r.Devices.take i).map (·.Name)) d=if X4V d.Name then(if d.Name∈(r.Devices.take i).map (·.Name)then 5 else if X1Y 2 4 [d.States]||X1Y 0 (IntKind.wrap .i64 (d.States-1)) [d.First]then 7 else 0)else 6:=by
      unfold X6c X4s;generalize (r.Devices.take i).map (·.Name)=names;cases q1:X4V d.Name with
      | false=>rfl
      | true =>
        by_cases q2:d.Name∈names
        · simp only[q2,if_true];rfl
        · simp only[q2,if_true,if_false];rfl
    rw[c];cases hn:X4V d.Name with
    | false=>rfl
    | true =>
      simp only[Bool.not_true,jA,if_true];have a:(r.Devices.take i).length<=1000000:=by rw[List.length_take];omega
      rcases X5T (r.Devices.take i) a d with⟨j,y,f,e⟩|⟨f,e⟩
      · have c1:decide ((j:Int)>=0)=true:=by simp
        simp only[f,jS,jw,c1,jB,if_pos e];rfl
      · simp only[f,jS,jy,if_neg e]
        rw[WZ _ _ _ (by simp),WZ _ _ _ (by simp)]
        simp only[jS];cases q1:X1Y 2 4 [d.States]with
        | true=>rfl
        | false =>
          cases q2:X1Y 0 (IntKind.wrap .i64 (d.States-1)) [d.First]with
          | true=>rfl
          | false=>exact g
theorem X5H (r:CoRecord):X3Q r=some (X1z r):=by
  rw[X4m];unfold X2k;rw[WZ _ _ _ (by simp)]
  simp only[jS];unfold X1z;cases q1:X1Y 1 4 [(r.Devices.length:Int)]with
  | true=>rfl
  | false =>
    have d:=X38 q1;have b:r.Devices.length<=1000000:=by omega
    by_cases q2:(r.Entries.length:Int)>10
    · simp only[jA,q2,decide_true,jB,Bool.false_or,if_true]
    · have a:r.Entries.length<=1000000:=by omega
      simp only[jA,q2,decide_false,Bool.false_or,X5o r b,jS];simp only[jg,if_false]
      by_cases q3:(X3t r).2=0
      · have c3:((X3t r).2 != 0)=false:=by simp[q3]
        simp only[c3,jA,X5p r b a,jS,if_neg (fun h:(X3t r).2≠0=>h q3)]
        by_cases q4:(X2L r).2=0
        · have c4:((X2L r).2 != 0)=false:=by simp[q4]
          obtain⟨q,c⟩:=X55 r.Entries a;simp only[c4,jA,c,jS,if_neg (fun h:(X2L r).2≠0=>h q4)]
          by_cases q5:(XC 0 0 r.Entries).2=0
          · have c5:((XC 0 0 r.Entries).2 != 0)=false:=by simp[q5]
            simp only[c5,jA,if_neg (fun h:(XC 0 0 r.Entries).2≠0=>h q5)]
          · have c5:((XC 0 0 r.Entries).2 != 0)=true:=X3r q5
            simp only[c5,jB,if_pos q5]
        · have c4:((X2L r).2 != 0)=true:=X3r q4
          simp only[c4,jB,if_pos q4]
      · have c3:((X3t r).2 != 0)=true:=X3r q3
        simp only[c3,jB,if_pos q3]
end Nore
open Go Go.Ab
namespace Nore
theorem X5L (r:CoRecord):X3V r=some (X1z r):=by
  rw[X4z];unfold X2t;rw[X3C,X4F];simp only[jS];unfold X1z;cases q1:X1Y 1 4 [(r.Devices.length:Int)]with
  | true=>rfl
  | false =>
    have n:=X38 q1;have q:r.Devices.length<=4:=by omega
    by_cases q2:(r.Entries.length:Int)>10
    · simp only[Bool.not_false,Bool.not_true,jA,q2,decide_true,jB,Bool.false_or,if_true]
    · have p:r.Entries.length<=10:=by omega
      simp only[Bool.not_false,Bool.not_true,jA,q2,decide_false,Bool.false_or,jg,if_false];unfold X2X;refine Eq.trans (X1H _ _ r.Devices.length (fun i (b:List ByteArray)=>((i:Int),b)) (fun i b=>b=(r.Devices.take i).map (·.Name))
        (fun i _=>if(X1u (fun i d=>X6c ((r.Devices.take i).map (·.Name)) d) i (r.Devices.drop i)).2≠0 then some (2,(X1u (fun i d=>X6c ((r.Devices.take i).map (·.Name)) d) i (r.Devices.drop i)).1,(X1u (fun i d=>X6c ((r.Devices.take i).map (·.Name)) d) i (r.Devices.drop i)).2)else
          some (if(X2L r).2≠0 then(3,(X2L r).1,(X2L r).2)else if(XC 0 0 r.Entries).2≠0 then(3,(XC 0 0 r.Entries).1,(XC 0 0 r.Entries).2)else(0,0,0))) ?_ ?_ 0 [] (Nat.zero_le _) rfl) ?_
      · intro b _ R
        have e1:decide ((r.Devices.length:Int)<(r.Devices.length:Int))=false:=by simp
        simp only[X1E,X1a,e1,jA,List.drop_length];show Option.bind (X2i r 0) _=some (if(X2L r).2≠0 then(3,(X2L r).1,(X2L r).2)else if(XC 0 0 r.Entries).2≠0 then(3,(XC 0 0 r.Entries).1,(XC 0 0 r.Entries).2)else(0,0,0));unfold X2i;refine Eq.trans (X1H _ _ r.Entries.length (fun i (_:Unit)=>(i:Int)) (fun _ _=>True)
          (fun i _=>some (if(X1u (fun _ (x:Zq)=>X11 r x.Device x.State x.At) i (r.Entries.drop i)).2≠0 then(3,(X1u (fun _ (x:Zq)=>X11 r x.Device x.State x.At) i (r.Entries.drop i)).1,(X1u (fun _ (x:Zq)=>X11 r x.Device x.State x.At) i (r.Entries.drop i)).2)else if(XC 0 0 r.Entries).2≠0 then(3,(XC 0 0 r.Entries).1,(XC 0 0 r.Entries).2)else(0,0,0))) ?_ ?_ 0 () (Nat.zero_le _) trivial) rfl
        · intro b _ R
          have e1:decide ((r.Entries.length:Int)<(r.Entries.length:Int))=false:=by simp
          simp only[X1F,X1b,e1,jA,List.drop_length];show Option.bind (X2j r (0,0)) _=some (if(XC 0 0 r.Entries).2≠0 then(3,(XC 0 0 r.Entries).1,(XC 0 0 r.Entries).2)else(0,0,0));unfold X2j;refine Eq.trans (X1H _ _ r.Entries.length (fun i (b:Int)=>((i:Int),b)) (fun _ _=>True)
            (fun i b=>some (if(XC b i (r.Entries.drop i)).2≠0 then(3,(XC b i (r.Entries.drop i)).1,(XC b i (r.Entries.drop i)).2)else(0,0,0))) ?_ ?_ 0 0 (Nat.zero_le _) trivial) rfl
          · intro b _ R
            simp only[X1G,X1c,e1,jA,List.drop_length];rfl
          · intro i b hi _ R c
            have e1:decide ((i:Int)<(r.Entries.length:Int))=true:=by simp[hi]
            have w1:=wS i (by omega)
            have o:(bif decide (r.Entries[i].At.Lo>b)then r.Entries[i].At.Lo else b)=(if r.Entries[i].At.Lo>b then r.Entries[i].At.Lo else b):=by by_cases h:r.Entries[i].At.Lo>b<;>simp[h]
            rw[jb hi,X4v];simp only[X1G,X1c,e1,z0S,kS,ju,jB,We _ _ _ hi,w1,o]
            by_cases hc:(if r.Entries[i].At.Lo>b then r.Entries[i].At.Lo else b)>r.Entries[i].At.Hi
            · rw[if_pos hc]
              simp only[hc,decide_true,jB];rfl
            · rw[if_neg hc]
              simp only[hc,decide_false,jA];exact c _ trivial
        · intro i b hi _ R c
          have m:=c () trivial;have e1:decide ((i:Int)<(r.Entries.length:Int))=true:=by simp[hi]
          have w1:=wS i (by omega)
          rw[jb hi,X28];simp only[X1F,X1b,e1,z0S,kS,ju,jB,We _ _ _ hi,X4B r _ _ _ (by omega:r.Devices.length<=1000000),jS,w1]
          generalize X11 r r.Entries[i].Device r.Entries[i].State r.Entries[i].At=e
          by_cases he:e=0
          · have c1:(e != 0)=false:=by simp[he]
            simp only[c1,jA,if_neg (fun h:e≠0=>h he)];exact m
          · have c1:(e != 0)=true:=X3r he
            simp only[c1,jB,if_pos he];rfl
      · intro i b hi j R c
        have e1:decide ((i:Int)<(r.Devices.length:Int))=true:=by simp[hi]
        have w1:=wS i (by omega)
        have f:b.length=i:=by rw[j,List.length_map,List.length_take];omega
        have b1:Nat.ble ((i+1)*(16+1)) 200000000000000=true:=by rw[Nat.ble_eq];omega
        have g:=X5Z r.Devices[i].Name b (by omega)
        have a:=c ((r.Devices.take (i+1)).map (·.Name)) rfl;rw[jb hi,X28];simp only[X1E,X1a,e1,z0S,kS,ju,jB,We _ _ _ hi,g,jS,w1,f,List.length_singleton,b1];have k:b++[r.Devices[i].Name]=(r.Devices.take (i+1)).map (·.Name):=by rw[j,List.take_succ_eq_append_getElem hi,List.map_append];rfl
        rw[<-j];have l:X6c b r.Devices[i]=if X4s r.Devices[i].Name b≠0 then X4s r.Devices[i].Name b else if X1Y 2 4 [r.Devices[i].States]||X1Y 0 (IntKind.wrap .i64 (r.Devices[i].States-1)) [r.Devices[i].First]then 7 else 0:=rfl;rw[l];generalize X4s r.Devices[i].Name b=e
        by_cases he:e=0
        · have c1:(e==0)=true:=by simp[he]
          have c2:(e != 0)=false:=by simp[he]
          simp only[c1,c2,jB,jA,if_neg (fun h:e≠0=>h he),X3C,X4F,jS,Bool.not_not];cases q5:X1Y 2 4 [r.Devices[i].States]with
          | true=>rfl
          | false =>
            simp only[jA,Bool.false_or];cases q6:X1Y 0 (IntKind.wrap .i64 (r.Devices[i].States-1)) [r.Devices[i].First]with
            | true=>rfl
            | false =>
              simp only[jA];rw[k];exact a
        · have c1:(e==0)=false:=X3q he
          have c2:(e != 0)=true:=X3r he;simp only[c1,c2,jB,jA,if_pos he];rfl
      · simp only[List.drop_zero]
        show(if(X3t r).2≠0 then some (2,(X3t r).1,(X3t r).2)else some (if(X2L r).2≠0 then(3,(X2L r).1,(X2L r).2)else if(XC 0 0 r.Entries).2≠0 then(3,(XC 0 0 r.Entries).1,(XC 0 0 r.Entries).2)else(0,0,0)))=some (if(X3t r).2≠0 then(2,(X3t r).1,(X3t r).2)else if(X2L r).2≠0 then(3,(X2L r).1,(X2L r).2)else if(XC 0 0 r.Entries).2≠0 then(3,(XC 0 0 r.Entries).1,(XC 0 0 r.Entries).2)else(0,0,0))
        by_cases q3:(X3t r).2=0
        · simp only[ne_eq,q3,not_true_eq_false,if_false]
        · simp only[ne_eq,q3,not_false_eq_true,if_true]
structure X6J (r:CoRecord):Prop where
  devs:1<=r.Devices.length/\r.Devices.length<=4
  many:r.Entries.length<=10
  dev:∀d∈r.Devices,(2<=d.States/\d.States<=4)/\0<=d.First/\d.First<d.States
  ent:∀x∈r.Entries,X11 r x.Device x.State x.At=0
  order:XC 0 0 r.Entries=(0,0)
theorem X4E {α:Type} (f:Nat->α->Int):∀(l:List α) (i:Nat),(X1u f i l).2=0->∀(j:Nat) (h:j<l.length),f (i+j) l[j]=0
  | x::xs,i,h,j,hj=>by
    rw[X28]at h
    by_cases he:f i x=0
    · rw[if_neg (fun q=>q he)]at h
      cases j with
      | zero=>exact he
      | succ j =>
        have:=X4E f xs (i+1) h j (by simpa using hj)
        rw[show i+(j+1)=i+1+j by omega]
        exact this
    · rw[if_pos he]at h
      exact absurd h he
theorem X6m:∀(l:List Zq) (a:Int) (i:Nat),(XC a i l).2=0->XC a i l=(0,0)
  | [],_,_,_=>rfl
  | x::xs,a,i,h=>by
    rw[X4v]at h⊢
    by_cases hc:(if x.At.Lo>a then x.At.Lo else a)>x.At.Hi
    · rw[if_pos hc]at h
      exact absurd h (by simp)
    · rw[if_neg hc]at h⊢
      exact X6m xs _ _ h
theorem X5S {r:CoRecord} (h:(X1z r).2.2=0):X6J r:=by
  unfold X1z at h;cases q1:X1Y 1 4 [(r.Devices.length:Int)]with
  | true=>rw[q1]at h;exact absurd h (by simp)
  | false =>
    have b:=X38 q1
    by_cases q2:(r.Entries.length:Int)>10
    · simp only[q1,q2,decide_true,Bool.or_true,if_true]at h;exact absurd h (by simp)
    · simp only[q1,q2,decide_false,Bool.or_self,jg,if_false]at h
      by_cases q3:(X3t r).2=0
      · rw[if_neg (fun k=>k q3)]at h
        by_cases q4:(X2L r).2=0
        · rw[if_neg (fun k=>k q4)]at h
          by_cases q5:(XC 0 0 r.Entries).2=0
          · refine⟨by omega,by omega,fun d b=>?_,fun x c=>?_,X6m _ _ _ q5⟩
            · obtain⟨j,a,rfl⟩:=List.getElem_of_mem b
              have:=X4E _ _ 0 q3 j a;simp only[X6c]at this;split at this
              · rename_i k;exact absurd this k
              · split at this
                · exact absurd this (by simp)
                · rename_i k
                  simp only[Bool.or_eq_true,not_or,Bool.not_eq_true]at k;have k1:=X38 k.1;have k2:=X38 k.2;rw[w64 (by omega) (by omega)]at k2
                  omega
            · obtain⟨j,a,rfl⟩:=List.getElem_of_mem c
              exact X4E _ _ 0 q4 j a
          · rw[if_pos q5]at h;exact absurd h q5
        · rw[if_pos q4]at h;exact absurd h q4
      · rw[if_pos q3]at h;exact absurd h q3
theorem X6A {r:CoRecord} {x:Zr} (h:X11 r x.Device x.State x.At=0):X3c r x/\0<=x.At.Lo/\x.At.Lo<=x.At.Hi/\x.At.Hi<=9999:=by
  unfold X11 at h;cases q1:X1Y 0 ((r.Devices.length:Int)-1) [x.Device]with
  | true=>rw[q1]at h;exact absurd h (by simp)
  | false =>
    rw[q1]at h;have k1:=X38 q1;cases q2:X1Y 0 (IntKind.wrap .i64 ((r.Devices.getD x.Device.toNat (Zm.mk ByteArray.empty 0 0)).States-1)) [x.State]with
    | true=>rw[q2]at h;exact absurd h (by simp)
    | false =>
      rw[q2]at h;cases q3:X1Y 0 9999 [x.At.Lo,x.At.Hi]with
      | true=>rw[q3]at h;exact absurd h (by simp)
      | false =>
        rw[q3]at h;have k3:=X70 q3
        by_cases q4:x.At.Lo>x.At.Hi
        · simp only[jg,if_false,q4,if_true]at h;exact absurd h (by simp)
        · exact⟨⟨by omega,by omega,by omega⟩,by omega,by omega,by omega⟩
theorem X7G {r:CoRecord} (h:X6J r):X6I r:=⟨h.many,fun x a=>by
  have:=(X6A (x:=⟨x.Device,x.State,x.At⟩) (h.ent x a)).2;simp only at this;omega⟩
theorem X5d {r:CoRecord} {l:List Zr} (h:(X12 r l).2=0):X6J r/\l.length<=4/\∀x∈l,X11 r x.Device x.State x.At=0:=by
  unfold X12 at h
  by_cases q1:(X1z r).2.2=0
  · rw[if_neg (fun k=>k q1)]at h
    by_cases q2:(l.length:Int)>4
    · rw[if_pos q2]at h;exact absurd h (by simp)
    · rw[if_neg q2]at h
      refine⟨X5S q1,by omega,fun x b=>?_⟩
      obtain⟨j,a,rfl⟩:=List.getElem_of_mem b;exact X4E _ _ 0 h j a
  · rw[if_pos q1]at h;exact absurd h q1
theorem X6u {r:CoRecord} {l:List Zr} (h:(X12 r l).2=0):X5N r l:=by
  obtain⟨a,d,b⟩:=X5d h;exact⟨X7G a,by omega,fun x c=>(X6A (b x c)).1⟩
theorem X4K (r:CoRecord) (l:List Zr):X2T r l=some (X12 r l):=by
  rw[X3L];unfold X19;rw[X5L r];simp only[jS];unfold X12
  by_cases q1:(X1z r).2.2=0
  · have c1:((X1z r).2.2==0)=true:=by simp[q1]
    have c2:((X1z r).2.2 != 0)=false:=by simp[q1]
    have hr:=X5S q1;simp only[c1,c2,jB,jA,if_neg (fun h:(X1z r).2.2≠0=>h q1)]
    by_cases q2:(l.length:Int)>4
    · simp only[q2,decide_true,jB,if_true]
    · have f:l.length<=4:=by omega
      simp only[q2,decide_false,jA,if_false];unfold X1i;refine Eq.trans (X1H _ _ l.length (fun i (_:Unit)=>(i:Int)) (fun _ _=>True) (fun i _=>some (X1u (fun _ (x:Zr)=>X11 r x.Device x.State x.At) i (l.drop i))) ?_ ?_ 0 () (Nat.zero_le _) trivial) rfl
      · intro b _ R
        have e1:decide ((l.length:Int)<(l.length:Int))=false:=by simp
        simp only[WU,Wu,e1,jA,List.drop_length];rfl
      · intro i b hi _ R d
        have a:=d () trivial;have e1:decide ((i:Int)<(l.length:Int))=true:=by simp[hi]
        have w1:=wS i (by omega)
        have c:=hr.devs;rw[jb hi,X28];simp only[WU,Wu,e1,z0S,kS,ju,jB,We _ _ _ hi,X4B r _ _ _ (by omega:r.Devices.length<=1000000),jS,w1]
        generalize X11 r l[i].Device l[i].State l[i].At=e
        by_cases he:e=0
        · have c1:(e != 0)=false:=by simp[he]
          simp only[c1,jA,if_neg (fun h:e≠0=>h he)];exact a
        · have c1:(e != 0)=true:=X3r he
          simp only[c1,jB,if_pos he];rfl
  · have c1:((X1z r).2.2==0)=false:=X3q q1
    have c2:((X1z r).2.2 != 0)=true:=X3r q1;simp only[c1,c2,jB,jA,if_pos q1]
theorem X4I (r:CoRecord) (l:List Zr):X2S r l=some (X12 r l):=by
  rw[X3D];unfold X16;rw[X5H r];simp only[jS];unfold X12
  by_cases q1:(X1z r).2.2=0
  · have c1:((X1z r).2.2 != 0)=false:=by simp[q1]
    have hr:=(X5S q1).devs;simp only[c1,jA,if_neg (fun h:(X1z r).2.2≠0=>h q1)]
    by_cases q2:(l.length:Int)>4
    · simp only[q2,decide_true,jB,if_true]
    · simp only[q2,decide_false,jA,if_false,X5q r l (by omega) (by omega),jS]
  · have c1:((X1z r).2.2 != 0)=true:=X3r q1
    simp only[c1,jB,if_pos q1]
theorem X3y (r:CoRecord) (l:List Zr):X31 r l=some (⟨r,l⟩,(X12 r l).2):=by
  rw[X4p];unfold X2l;rw[X4I r l];rfl
end Nore
open Go Go.Ab
namespace Nore
theorem X74 (l:List Y2) (e:l.length<1000000):X2B l l=some true:=by
  rw[X4w];unfold X2s;obtain⟨w,d,c⟩:=X1Z (X10 l l) l.length (fun i (_:Unit)=>(i:Int)) (fun _ _=>True) (fun w=>w=.inr ())
    (fun _ _=>⟨.inr (),by simp[X10,X18],rfl⟩)
    (fun i _ hi _=>by
      right;refine⟨(),?_,trivial⟩;have b:=wS i (by omega)
      have e1:decide ((i:Int)<↑l.length)=true:=by simp[hi]
      have e2:=z0S i;simp only[X10,X18,kS,b,e1,e2,ju,jB,beq_self_eq_true,Bool.not_true,jA]) 0 () (by omega) trivial
  subst c;have a:X2W l l 0=some (.inr ()):=d;rw[a];simp
end Nore
open Go Go.Ab
namespace Nore
def timesC (r:CoRecord) (l:List Zr):List Y2×Int:=if(X12 r l).2≠0 then([],(X12 r l).2)else X51 r l
theorem X5I (r:CoRecord) (l:List Zr):X1k r l=some (timesC r l):=by
  by_cases q:(X12 r l).2=0
  · rw[X5m (X6u q) (by rw[X3y,q])]
    unfold timesC;rw[if_neg (fun h=>h q)]
  · rw[X3F];unfold X1A
    rw[X3y r l];have c:((X12 r l).2 != 0)=true:=X3r q;unfold timesC;simp only[jS,c,jB,if_pos q]
theorem X7q (r:CoRecord) (l:List Zr):(timesC r l).1.length<1000000:=by
  unfold timesC
  by_cases q:(X12 r l).2=0
  · rw[if_neg (fun h=>h q)]
    unfold X51;split
    · simp
    · have:=(X6u q).ent.1
      unfold X2O;simp only[List.length_map,List.length_range];omega
  · rw[if_pos q]
    simp
end Nore
namespace Nore
def agrees (r:CoRecord) (l:List Zr):Bool := !(X2H r l).isEmpty
end Nore
open Go Go.Ab
namespace Nore
def X61 {α:Type} (m:Nat):Nat->List α->List α
  | _,[]=>[]
  | i,x::xs=>if m.testBit i then X61 m (i+1) xs else x::X61 m (i+1) xs
def X7g {α:Type} (m:Nat):Nat->List α->List Int
  | _,[]=>[]
  | i,x::xs=>if m.testBit i then(i:Int)::X7g m (i+1) xs else X7g m (i+1) xs
def X7L:List Int->List Int->Int
  | [],[]=>0
  | [],_::_ => -1
  | _::_,[]=>1
  | a::s,b::t=>if a<b then -1 else if a>b then 1 else X7L s t
def Z3z (a b:List Int):Prop:=a.length<b.length\/(a.length=b.length/\X7L a b<=0)
structure X7K (r:CoRecord) (l:List Zr) (k:Nat) (fd:Bool) (best:List Int):Prop where
  yes:fd=true->∃m,m<k/\best=X7g m 0 l/\agrees r (X61 m 0 l)=true
  least:fd=true->∀m,m<k->agrees r (X61 m 0 l)=true->Z3z best (X7g m 0 l)
  no:fd=false->best=[]/\∀m,m<k->agrees r (X61 m 0 l)=false
end Nore
open Go Go.Ab
namespace Nore
theorem X5u {α:Type} (f:Nat->α->Int):∀(l:List α) (i:Nat),(∀x∈l,∀j,f j x=0)->X1u f i l=(0,0)
  | [],_,_=>rfl
  | x::l,i,h=>by
    rw[X28,if_neg (fun q=>q (h x (by simp) i))]
    exact X5u f l (i+1) fun y hy=>h y (by simp[hy])
theorem X72 {r:CoRecord} {l:List Zr} (h:(X12 r l).2=0):(X1z r).2.2=0:=by
  unfold X12 at h
  by_cases q1:(X1z r).2.2=0
  · exact q1
  · rw[if_pos q1]at h;exact absurd h q1
theorem X7A {r:CoRecord} {l:List Zr} (a:(X1z r).2.2=0) (d:l.length<=4) (b:∀x∈l,X11 r x.Device x.State x.At=0):X12 r l=(0,0):=by
  unfold X12;rw[if_neg (fun q=>q a),if_neg (by omega)]
  exact X5u _ l 0 fun x c _=>b x c
theorem X5W (r:CoRecord) (l:List Zr):X48 r l=some ((X12 r l).2==0):=by
  rw[X4Q];unfold X2z;rw[X4K];rfl
end Nore
open Go Go.Ab
namespace Nore
def X7E (r:CoRecord) (ms:Nat->Int):Prop:=Sol r.Entries.length (X2M (X2f r) []) ms
end Nore
open Go Go.Ab
namespace Nore
def X7I (r:CoRecord) (ms:Nat->Int) (x:Zr):Prop:=∃s∈X5B r x,X76 r.Entries.length ms (X44 s) x.At.Lo x.At.Hi
def TrN (r:CoRecord) (l:List Zr) (ms:Nat->Int):Prop:=X7E r ms/\∀x∈l,X7I r ms x
theorem X65 {r:CoRecord} {l:List Zr} {ms:Nat->Int}:X7r r.Entries.length (X2M (X2f r) []) (l.map (X23 r)) ms↔TrN r l ms:=by
  constructor
  · rintro⟨c,b⟩
    refine⟨c,fun x e=>?_⟩;obtain⟨s,d,a⟩:=b (X23 r x) (List.mem_map.2 ⟨x,e,rfl⟩);obtain⟨t,ht,rfl⟩:=List.mem_map.1 d;exact⟨t,ht,a⟩
  · rintro⟨c,b⟩
    refine⟨c,fun w f=>?_⟩;obtain⟨x,e,rfl⟩:=List.mem_map.1 f;obtain⟨s,d,a⟩:=b x e;exact⟨X44 s,List.mem_map.2 ⟨s,d,rfl⟩,a⟩
theorem X5O (r:CoRecord):X5D r.Entries.length (X2M (X2f r) []).ap:=fun p a=>by cases a
theorem X4Y {r:CoRecord} {l:List Zr}:agrees r l=true↔∃ms,TrN r l ms:=by
  have h:=X6N (X75 r l) (X5O r);unfold agrees X2H;constructor
  · intro b
    have:X8 r.Entries.length (l.map (X23 r)) (X2M (X2f r) [])≠[]:=fun e=>by rw[e]at b;cases b
    obtain⟨ms,a⟩:=h.1 this;exact⟨ms,X65.1 a⟩
  · rintro⟨ms,a⟩
    have:=h.2 ⟨ms,X65.2 a⟩;cases b:X8 r.Entries.length (l.map (X23 r)) (X2M (X2f r) [])with
    | nil=>exact absurd b this
    | cons=>rfl
theorem X69 {r r':CoRecord} {l l':List Zr} (h:(∃ms,TrN r l ms)↔∃ms,TrN r' l' ms):agrees r l=agrees r' l':=by
  have a:=@X4Y r l;have b:=@X4Y r' l';cases e1:agrees r l with
  | true=>exact(b.2 (h.1 (a.1 e1))).symm
  | false =>
    cases e2:agrees r' l' with
    | true=>rw[a.2 (h.2 (b.1 e2))]at e1;cases e1
    | false=>rfl
theorem X6j (j:Nat):∀(L:List Con) (s:Y2),((L.foldl (X3j j) s).Lo=s.Lo\/∃d∈L,(L.foldl (X3j j) s).Lo=d.lo j)/\((L.foldl (X3j j) s).Hi=s.Hi\/∃d∈L,(L.foldl (X3j j) s).Hi=d.hi j) ∧
    (L.foldl (X3j j) s).Lo<=s.Lo/\s.Hi<=(L.foldl (X3j j) s).Hi/\∀d∈L,(L.foldl (X3j j) s).Lo<=d.lo j/\d.hi j<=(L.foldl (X3j j) s).Hi
  | [],s=>⟨.inl rfl,.inl rfl,Int.le_refl _,Int.le_refl _,fun d a=>by cases a⟩
  | c::L,s=>by
    rw[List.foldl_cons];obtain⟨e,b,h,g,f⟩:=X6j j L (X3j j s c);have a1:(X3j j s c).Lo=s.Lo\/(X3j j s c).Lo=c.lo j:=by
      unfold X3j;simp only;split
      · exact .inr rfl
      · exact .inl rfl
    have a2:(X3j j s c).Hi=s.Hi\/(X3j j s c).Hi=c.hi j:=by
      unfold X3j;simp only;split
      · exact .inr rfl
      · exact .inl rfl
    have a3:(X3j j s c).Lo<=s.Lo/\(X3j j s c).Lo<=c.lo j:=by
      unfold X3j;simp only;split<;>omega
    have a4:s.Hi<=(X3j j s c).Hi/\c.hi j<=(X3j j s c).Hi:=by
      unfold X3j;simp only;split<;>omega
    refine⟨?_,?_,by omega,by omega,fun d a=>?_⟩
    · rcases e with e|⟨d,a,e⟩
      · rcases a1 with a1|a1
        · exact .inl (by rw[e,a1])
        · exact .inr ⟨c,by simp,by rw[e,a1]⟩
      · exact .inr ⟨d,by simp[a],e⟩
    · rcases b with b|⟨d,a,b⟩
      · rcases a2 with a2|a2
        · exact .inl (by rw[b,a2])
        · exact .inr ⟨c,by simp,by rw[b,a2]⟩
      · exact .inr ⟨d,by simp[a],b⟩
    · rcases jv.1 a with rfl|a
      · omega
      · exact f d a
structure X7J (r:CoRecord) (l:List Zr) (j:Nat) (s:Y2):Prop where
  lo:∃ms,TrN r l ms/\ms j=s.Lo
  hi:∃ms,TrN r l ms/\ms j=s.Hi
  all:∀ms,TrN r l ms->s.Lo<=ms j/\ms j<=s.Hi
theorem X52 (n:Nat) (L:List Con):(X2O n L).length=n:=by unfold X2O;simp
theorem X63 {r:CoRecord} {l:List Zr} (h:agrees r l=true) (j:Nat) (u:j<(X2O r.Entries.length (X2H r l)).length):X7J r l j (X2O r.Entries.length (X2H r l))[j]:=by
  have k:j<r.Entries.length:=by rw[X52]at u;exact u
  have n:X2H r l≠[]:=fun e=>by unfold agrees at h;rw[e]at h;cases h
  have t:=X49 (l.map (X23 r)) (X2M (X2f r) []) (X75 r l) (X5O r);have w:=X4t (l.map (X23 r)) (X2M (X2f r) []) (X75 r l) (X5O r);have i:(X2O r.Entries.length (X2H r l))[j]=(X2H r l).foldl (X3j j) ⟨((X2H r l).headD ⟨fun _=>0,fun _=>0,[]⟩).lo j,((X2H r l).headD ⟨fun _=>0,fun _=>0,[]⟩).hi j⟩:=by
    unfold X2O;simp
  rw[i];have a:(X2H r l).headD ⟨fun _=>0,fun _=>0,[]⟩∈X2H r l:=by
    cases hA:X2H r l with
    | nil=>exact absurd hA n
    | cons c L=>exact List.mem_cons_self
  generalize (X2H r l).headD ⟨fun _=>0,fun _=>0,[]⟩=c0 at a;obtain⟨g,f,z,h4,y⟩:=X6j j (X2H r l) ⟨c0.lo j,c0.hi j⟩;have p:∃d∈X2H r l,((X2H r l).foldl (X3j j) ⟨c0.lo j,c0.hi j⟩).Lo=d.lo j:=by
    rcases g with g|g
    · exact⟨c0,a,g⟩
    · exact g
  have s:∃d∈X2H r l,((X2H r l).foldl (X3j j) ⟨c0.lo j,c0.hi j⟩).Hi=d.hi j:=by
    rcases f with f|f
    · exact⟨c0,a,f⟩
    · exact f
  obtain⟨d,v,e1⟩:=p;obtain⟨d',q,e2⟩:=s;refine⟨⟨d.lo,X65.1 (t d v).1,e1.symm⟩,⟨d'.hi,X65.1 (t d' q).2.1,e2.symm⟩,fun ms m=>?_⟩;obtain⟨b,x,o⟩:=w ms (X65.2 m);have:=o j k;have:=y b x;omega
theorem X6G {r:CoRecord} {l l':List Zr} (h:agrees r l=true) (e:∀ms,TrN r l ms↔TrN r l' ms):X2O r.Entries.length (X2H r l)=X2O r.Entries.length (X2H r l'):=by
  have h':agrees r l'=true:=by
    rw[X4Y]at h⊢;obtain⟨ms,k⟩:=h;exact⟨ms,(e ms).1 k⟩
  refine List.ext_getElem (by rw[X52,X52]) fun j n g=>?_
  have t1:=X63 h j n;have t2:=X63 h' j g;generalize (X2O r.Entries.length (X2H r l))[j]=s at t1;generalize (X2O r.Entries.length (X2H r l'))[j]=s' at t2;obtain⟨a,m,ea⟩:=t1.lo;obtain⟨b,i,eb⟩:=t1.hi;obtain⟨c,hc,ec⟩:=t2.lo;obtain⟨d,f,ed⟩:=t2.hi;have k1:=t2.all a ((e a).1 m);have k2:=t2.all b ((e b).1 i);have k3:=t1.all c ((e c).2 hc);have k4:=t1.all d ((e d).2 f);obtain⟨u,v⟩:=s;obtain⟨u',v'⟩:=s';simp only at *;rw[show u=u' by omega,show v=v' by omega]
end Nore
open Go Go.Ab
namespace Nore
def X68 (l:List Int) (n:Nat):Int:=if l.length=0 then 0 else l.getD (n % l.length) 0
theorem X6s (l:List Int) (h:∀v∈l,0<=v/\v<=65535) (n:Nat):X3o l (n:Int)=some (X68 l n)/\0<=X68 l n/\X68 l n<=65535:=by
  rw[X4S];unfold X2A X68
  by_cases h0:l.length=0
  · simp[h0]
  · have a:n % l.length<l.length:=Nat.mod_lt _ (by omega)
    have e0:((l.length:Int)==0)=false:=X3q (by omega)
    have e1:Int.tmod (n:Int) (l.length:Int)=((n % l.length:Nat):Int):=by
      rw[Int.tmod_eq_emod_of_nonneg (by omega)];rfl
    have c1:decide ((0:Int)<=((n % l.length:Nat):Int))=true:=by rw[jk];omega
    have c2:decide (((n % l.length:Nat):Int)<(l.length:Int))=true:=by rw[jk];omega
    have hv:=h _ (jl a);have w:IntKind.wrap .i64 l[n % l.length]=l[n % l.length]:=by rw[w64]<;>omega
    simp only[e0,jA,e1,c1,c2,ju,jB,kS,We _ _ _ a,w,if_neg h0];exact⟨by first|rfl|trivial,hv⟩
end Nore
open Go Go.Ab
namespace Nore
end Nore
open Go Go.Ab
namespace Nore
def withN (l:List Zr) (dev s t:Int):List Zr:=l++[⟨dev,s,⟨t,t⟩⟩]
def Wv (r:CoRecord) (l:List Zr) (dev t:Int) (k:Nat):List Int:=((List.range k).filter fun s:Nat=>agrees r (withN l dev (s:Int) t)).map fun s:Nat=>(s:Int)
theorem X3Y (r:CoRecord) (l:List Zr) (dev t:Int) (k:Nat):Wv r l dev t (k+1)=Wv r l dev t k++if agrees r (withN l dev (k:Int) t)then [(k:Int)]else []:=by
  unfold Wv;rw[List.range_succ,List.filter_append,List.map_append];congr 1;cases h:agrees r (withN l dev (k:Int) t)<;>simp[h]
theorem X5A (r:CoRecord) (l:List Zr) (dev t:Int) (k:Nat):∀v∈Wv r l dev t k,0<=v/\v<(k:Int):=fun v hv=>by
  obtain⟨s,a,rfl⟩:=List.mem_map.1 hv;have:=List.mem_range.1 (List.mem_filter.1 a).1;omega
theorem X4d (r:CoRecord) (l:List Zr) (dev t:Int) (k:Nat):(Wv r l dev t k).length<=k:=by
  unfold Wv;rw[List.length_map];exact Nat.le_trans (List.length_filter_le _ _) (by simp)
theorem X5g (r:CoRecord) (l:List Zr) (dev t:Int):∀k,(Wv r l dev t k).Pairwise (· < ·)
  | 0=>List.Pairwise.nil
  | k+1=>by
    rw[X3Y];refine List.pairwise_append.2 ⟨X5g r l dev t k,?_,fun a d b c=>?_⟩
    · split
      · exact List.pairwise_singleton _ _
      · exact List.Pairwise.nil
    · have:=X5A r l dev t k a d
      split at c
      · rw[List.mem_singleton.1 c];exact this.2
      · cases c
theorem X6Z (n:Int):∀(l:List Int),(∀v∈l,n<v)->ZeB n l=n::l
  | [],_=>rfl
  | v::l,h=>by
    have:=h v (by simp)
    unfold ZeB;simp[Int.le_of_lt this]
theorem X6p:∀(l:List Int),l.Pairwise (· < ·)->Z3s l=l
  | [],_=>rfl
  | n::l,h=>by
    obtain⟨a,b⟩:=List.pairwise_cons.1 h;show ZeB n (Z3s l)=n::l;rw[X6p l b];exact X6Z n l a
theorem X5X (k:Int):∀(m:List (Int×Int)),(∀v∈m.map Prod.fst,v≠k)->Z9O (fun a b=>a==b) k m=none
  | [],_=>rfl
  | (a,b)::m,h=>by
    have c:(k==a)=false:=X3q fun e=>h a (by simp) e.symm
    unfold Z9O;simp only[c,jA];exact X5X k m fun v hv=>h v (by simp only[jr,jv];exact .inr hv)
theorem X6O (k v:Int):∀(m:List (Int×Int)),(∀w∈m.map Prod.fst,w≠k)->Zj0 (fun a b=>a==b) k v m=m++[(k,v)]
  | [],_=>rfl
  | (a,b)::m,h=>by
    have d:(k==a)=false:=X3q fun e=>h a (by simp) e.symm
    unfold Zj0;simp only[d,jA];rw[X6O k v m fun w c=>h w (by simp only[jr,jv];exact .inr c)]
    rfl
theorem X7C {r:CoRecord} {l:List Zr} (h:X5N r l) (c:l.length<=4) {dev t s:Int} (a:0<=dev/\dev<r.Devices.length) (ht:0<=t/\t<=9999):X5N r (withN l dev s t) :=
  ⟨h.ent,by unfold withN;rw[List.length_append,List.length_singleton];omega,fun x b=>by
    rcases List.mem_append.1 b with q|q
    · exact h.seen x q
    · rw[List.mem_singleton.1 q]
      exact⟨a,by simp only;omega,by simp only;omega⟩⟩
theorem X5r {r:CoRecord} {l:List Zr} (h:X5N r l) (q:l.length<=4) {dev t:Int} (g:0<=dev/\dev<r.Devices.length) (ht:0<=t/\t<=9999) {S:Nat} (u:(r.Devices.getD dev.toNat (Zm.mk ByteArray.empty 0 0)).States=(S:Int)) (m:S<=1000) :
    X1C ⟨r,l⟩ dev t=some (Wv r l dev t S):=by
  rw[X36];unfold Wh;have c1:decide (0<=dev)=true:=by simp[g.1]
  have c2:decide (dev<(r.Devices.length:Int))=true:=by simp[g.2]
  simp only[c1,c2,ju,jB,u];obtain⟨w,o,f⟩:=X1Z (XB dev (S:Int) t ⟨r,l⟩) S (fun i (b:List (Int×Int))=>((i:Int),b)) (fun i b=>b.map Prod.fst=Wv r l dev t i) (fun w=>w.map Prod.fst=Wv r l dev t S)
    (fun b d=>⟨b,by simp[XB,XS],d⟩)
    (fun i b hi d=>by
      right;have e1:decide ((i:Int)<(S:Int))=true:=by simp;omega
      have w1:=wS i (by omega)
      have b1:Nat.ble (l.length*(32+1)) 100000000000000=true:=by rw[Nat.ble_eq];omega
      have b2:Nat.ble ((l.length+1)*(32+1)) 200000000000000=true:=by rw[Nat.ble_eq];omega
      have b3:Nat.blt 0 4=true:=rfl;have e:X2h ⟨r,l⟩ [⟨dev,(i:Int),⟨t,t⟩⟩]=some ⟨r,withN l dev (i:Int) t⟩:=by
        rw[X3k];unfold WK;simp only[b1,b3,ju,jB,List.length_singleton,b2];rfl
      have s:XV ⟨r,withN l dev (i:Int) t⟩=some (agrees r (withN l dev (i:Int) t)):=X4r (X7C h q g ht);have a:∀v∈b.map Prod.fst,v≠(i:Int):=fun v hv=>by
        rw[d]at hv;have:=X5A r l dev t i v hv;omega
      simp only[XB,XS,e1,jB,e,s,jS,w1,X5X _ b a,X6O _ _ b a];cases hag:agrees r (withN l dev (i:Int) t)with
      | true=>exact⟨_,rfl,by rw[List.map_append,d,X3Y,hag];rfl⟩
      | false=>exact⟨b,rfl,by rw[d,X3Y,hag];simp⟩) 0 [] (Nat.zero_le _) rfl
  have k:X1h dev (S:Int) t ⟨r,l⟩ (0,[])=some w:=o;have n:w.length<=S:=by
    have:=X4d r l dev t S;rw[<-f,List.length_map]at this;exact this
  have b1:Nat.ble w.length 100000=true:=by rw[Nat.ble_eq];omega
  have b2:Nat.ble (w.map fun p=>p.fst).length 1000000=true:=by rw[Nat.ble_eq,List.length_map];omega
  have b2':Nat.ble (Wv r l dev t S).length 1000000=true:=by have:=X4d r l dev t S;rw[Nat.ble_eq];omega
  have b4:Nat.beq w.length w.length=true:=Nat.beq_refl _;have b5:(Nat.beq 3 3&&Nat.beq 2 2)=true:=rfl;have b6:(Nat.beq 3 3&&Nat.beq 0 0)=true:=rfl;have j:(w.map fun p=>p.fst)=Wv r l dev t S:=f;rw[k];simp only[jS,b5,b4,b1,ju,Bool.true_and,jB];cases e:w with
  | nil =>
    rw[e]at f;rw[<-f];rfl
  | cons p ps =>
    rw[<-e];have c:Nat.beq w.length 0=false:=by rw[e];rfl
    have b7:(Nat.beq 3 3&&Nat.beq 0 0&&Nat.ble (w.map fun p=>p.fst).length 1000000)=true:=by rw[b2];rfl
    have b8:(Nat.beq 1 1&&Nat.ble 8 1000&&Nat.testBit 688269427663 6)=true:=by decide +kernel
    simp only[c,jA,b2',b6,ju,Bool.true_and,jB,j,X6p _ (X5g r l dev t S)]
    first
    | rfl
    | (have b9:Nat.testBit 688269427663 6=true:=by decide +kernel
       have b10:Nat.beq 1 1=true:=rfl;have b11:Nat.ble 8 1000=true:=rfl;simp only[b9,b10,b11,b2',ju,jB])
theorem X6X {r:CoRecord} (h:X6J r) {dev:Int} (a:0<=dev/\dev<r.Devices.length):∃S:Nat,(r.Devices.getD dev.toNat (Zm.mk ByteArray.empty 0 0)).States=(S:Int)/\2<=S/\S<=4:=by
  rw[We _ _ _ (by omega)]
  have:=(h.dev _ (jl (by omega:dev.toNat<r.Devices.length))).1
  exact⟨r.Devices[dev.toNat].States.toNat,by omega,by omega,by omega⟩
end Nore
open Go Go.Ab
namespace Nore
theorem X7h (v k:Int) (hv:0<=v) (a:0<k):0<=Int.tmod v k/\Int.tmod v k<k:=⟨Int.tmod_nonneg k hv,Int.tmod_lt_of_pos v a⟩
end Nore
open Go Go.Ab
namespace Nore
theorem X7H {n:Int} (h:(Lit.int .u16 n).wf=true):0<=n/\n<=65535:=by
  simp[Lit.wf,IntKind.has,IntKind.min,IntKind.max,IntKind.signed,IntKind.bits]at h;omega
end Nore
open Go Go.Ab
namespace Nore
theorem X7m (l:List Int) (f:l.length<=1000000) (v:Int):∃k,X1I l v=some k/\(decide (k>=0)=decide (v∈l)):=by
  rw[X39];unfold Wp;obtain⟨w,e,d⟩:=X1Z (XD (l.length:Int) v l) l.length (fun i (_:Unit)=>(i:Int)) (fun i _=>¬v∈l.take i)
    (fun w=>(∃i:Nat,w=.inl (i:Int)/\v∈l)\/(w=.inr ()/\¬v∈l))
    (fun _ b=>⟨.inr (),by simp[XD,XT],.inr ⟨rfl,by rwa [List.take_length]at b⟩⟩)
    (fun i _ hi b=>by
      have e1:decide ((i:Int)<(l.length:Int))=true:=by simp;omega
      have w1:=wS i (by omega)
      simp only[XD,XT,e1,z0S,kS,ju,jB,We _ _ _ hi,w1]
      by_cases he:v=l[i]
      · left
        have c:(v==l[i])=true:=by simp[he]
        simp only[c,jB];exact⟨_,rfl,.inl ⟨i,rfl,he▸jl hi⟩⟩
      · right
        have c:(v==l[i])=false:=X3q he;simp only[c,jA];refine⟨(),by first|rfl|trivial,fun h=>?_⟩
        rw[List.take_succ_eq_append_getElem hi]at h;rcases List.mem_append.1 h with h|h
        · exact b h
        · exact he (List.mem_singleton.1 h)) 0 () (Nat.zero_le _) (by simp)
  have a:X1j (l.length:Int) v l 0=some w:=e;rw[a];rcases d with⟨i,rfl,h⟩|⟨rfl,h⟩
  · exact⟨(i:Int),rfl,by simp[h]⟩
  · exact⟨-1,rfl,by simp[h]⟩
theorem X6t (l:List Int) (b:l.length<=1000000) (v:Int):X13 l v=some (decide (v∈l)):=by
  rw[X2D];unfold W2;obtain⟨k,a,c⟩:=X7m l b v;simp only[a,jS,c]
def X3i (r:CoRecord) (l:List Zr) (dev t:Int):List Int:=Wv r l dev t (r.Devices.getD dev.toNat (Zm.mk ByteArray.empty 0 0)).States.toNat
def X45 (L:List Int) (st:Int):Int:=if st∈L then(if L.length=1 then 2 else 1)else 0
def X3W (r:CoRecord) (l:List Zr) (x:Zr):Int :=
  if(X12 r l).2≠0 then(X12 r l).2 else if X11 r x.Device x.State x.At≠0 then X11 r x.Device x.State x.At else if x.At.Lo≠x.At.Hi then 2 else if agrees r l then 0 else 9
theorem X5U (r:CoRecord) (l:List Zr) (x:Zr):X47 r l x=some (⟨r,l⟩,X3W r l x):=by
  rw[X4M];unfold X2x;rw[X3y r l];simp only[jS];unfold X3W
  by_cases q:(X12 r l).2=0
  · obtain⟨hr,b,_⟩:=X5d q
    have a:=hr.devs;have c:((X12 r l).2==0)=true:=by simp[q]
    simp only[c,jB,if_neg (fun h:(X12 r l).2≠0=>h q),X3G r x (by omega:r.Devices.length<=1000000),jS,X4r (X6u q)]
    by_cases q1:X11 r x.Device x.State x.At=0
    · have c1:(X11 r x.Device x.State x.At != 0)=false:=by simp[q1]
      simp only[c1,jA,if_neg (fun h:X11 r x.Device x.State x.At≠0=>h q1)]
      by_cases q2:x.At.Lo=x.At.Hi
      · have c2:(x.At.Lo != x.At.Hi)=false:=by simp[q2]
        simp only[c2,jA,if_neg (fun h:x.At.Lo≠x.At.Hi=>h q2)];unfold agrees;cases(X2H r l).isEmpty<;>rfl
      · have c2:(x.At.Lo != x.At.Hi)=true:=X3r q2
        simp only[c2,jB,if_pos q2]
    · have c1:(X11 r x.Device x.State x.At != 0)=true:=X3r q1
      simp only[c1,jB,if_pos q1]
  · have c:((X12 r l).2==0)=false:=X3q q
    have c':((X12 r l).2 != 0)=true:=X3r q;simp only[c,c',jB,jA,if_pos q]
theorem X5n {r:CoRecord} {l:List Zr} (j:X5N r l) (hr:X6J r) (h:l.length<=4) {x:Zr} (i:X11 r x.Device x.State x.At=0) :
    X1B ⟨r,l⟩ x=some (X45 (X3i r l x.Device x.At.Lo) x.State):=by
  rw[X32];unfold Wf;obtain⟨d,a,m,n⟩:=X6A i;obtain⟨S,e,_,g⟩:=X6X hr d.dev;have b:=X5r j h d.dev ⟨a,by omega⟩ e (by omega)
  have k:X3i r l x.Device x.At.Lo=Wv r l x.Device x.At.Lo S:=by unfold X3i;rw[e,kS]
  rw[k];have f:=X4d r l x.Device x.At.Lo S;simp only[b,jS,X6t _ (by omega:(Wv r l x.Device x.At.Lo S).length<=1000000)]
  unfold X45
  by_cases hm:x.State∈Wv r l x.Device x.At.Lo S
  · simp only[hm,decide_true,Bool.not_true,jA,if_true]
    by_cases a:(Wv r l x.Device x.At.Lo S).length=1
    · have c:(((Wv r l x.Device x.At.Lo S).length:Int)==1)=true:=by simp[a]
      simp only[c,jB,if_pos a]
    · have c:(((Wv r l x.Device x.At.Lo S).length:Int)==1)=false:=X3q (by omega)
      simp only[c,jA,if_neg a]
  · simp only[hm,decide_false,Bool.not_false,jB,if_false]
theorem X7F {r:CoRecord} {l:List Zr} {x:Zr} (h:X3W r l x=0):(X12 r l).2=0/\X11 r x.Device x.State x.At=0/\x.At.Lo=x.At.Hi/\agrees r l=true:=by
  unfold X3W at h
  by_cases q:(X12 r l).2=0
  · rw[if_neg (fun k=>k q)]at h
    by_cases q1:X11 r x.Device x.State x.At=0
    · rw[if_neg (fun k=>k q1)]at h
      by_cases q2:x.At.Lo=x.At.Hi
      · rw[if_neg (fun k=>k q2)]at h
        cases q3:agrees r l with
        | true=>exact⟨q,q1,q2,rfl⟩
        | false=>rw[q3]at h;exact absurd h (by simp)
      · rw[if_pos q2]at h;exact absurd h (by simp)
    · rw[if_pos q1]at h;exact absurd h q1
  · rw[if_pos q]at h;exact absurd h q
theorem X5l (r:CoRecord) (l:List Zr) (x:Zr):X1d r l x=some (if X3W r l x≠0 then(0,X3W r l x)else(X45 (X3i r l x.Device x.At.Lo) x.State,0)):=by
  rw[X4f];unfold X1P;rw[X5U];simp only[jS]
  by_cases q:X3W r l x=0
  · obtain⟨a,d,_,_⟩:=X7F q
    obtain⟨hr,b,_⟩:=X5d a;have c:(X3W r l x != 0)=false:=by simp[q]
    simp only[c,jA,if_neg (fun k:X3W r l x≠0=>k q),X5n (X6u a) hr b d,jS]
  · have c:(X3W r l x != 0)=true:=X3r q
    simp only[c,jB,if_pos q]
end Nore
open Go Go.Ab
namespace Nore
def X2P (l l':List Zr):Prop:=∀x,x∈l'↔x∈l
theorem X2P.tr {r:CoRecord} {l l':List Zr} (h:X2P l l') (ms:Nat->Int):TrN r l ms↔TrN r l' ms :=
  ⟨fun⟨a,b⟩=>⟨a,fun x c=>b x ((h x).1 c)⟩,fun⟨a,b⟩=>⟨a,fun x c=>b x ((h x).2 c)⟩⟩
theorem X2P.agrees {r:CoRecord} {l l':List Zr} (h:X2P l l'):agrees r l=agrees r l' :=
  X69 ⟨fun⟨ms,a⟩=>⟨ms,(h.tr ms).1 a⟩,fun⟨ms,a⟩=>⟨ms,(h.tr ms).2 a⟩⟩
theorem X2P.withN {l l':List Zr} (h:X2P l l') (dev s t:Int):X2P (withN l dev s t) (withN l' dev s t):=fun x=>by
  unfold Nore.withN;rw[List.mem_append,List.mem_append,h x]
theorem X2P.states {r:CoRecord} {l l':List Zr} (h:X2P l l') (dev t:Int):X3i r l dev t=X3i r l' dev t:=by
  unfold X3i Wv;congr 1;refine List.filter_congr fun s _=>?_;exact(h.withN dev (s:Int) t).agrees
theorem X2P.times {r:CoRecord} {l l':List Zr} (h:X2P l l'):X51 r l=X51 r l':=by
  have a:Nore.agrees r l=Nore.agrees r l':=h.agrees;unfold X51;cases e:(X2H r l).isEmpty with
  | true =>
    have:(X2H r l').isEmpty=true:=by
      unfold Nore.agrees at a;rw[e]at a;cases e2:(X2H r l').isEmpty with
      | true=>rfl
      | false=>rw[e2]at a;cases a
    rw[this];rfl
  | false =>
    have e2:(X2H r l').isEmpty=false:=by
      unfold Nore.agrees at a;rw[e]at a;cases e2:(X2H r l').isEmpty with
      | true=>rw[e2]at a;cases a
      | false=>rfl
    have b:Nore.agrees r l=true:=by unfold Nore.agrees;rw[e];rfl
    rw[e2,X6G b h.tr]
theorem X2P.sees {r:CoRecord} {l l':List Zr} (h:X2P l l') (b:(X12 r l).2=0) (c:l'.length<=4):X12 r l'=(0,0):=by
  obtain⟨_,_,d⟩:=X5d b;exact X7A (X72 b) c fun x a=>d x ((h x).1 a)
theorem X2P.ask {r:CoRecord} {l l':List Zr} (h:X2P l l') (a:(X12 r l).2=0) (b:l'.length<=4) (q:Zr):X3W r l q=X3W r l' q:=by
  have c:=h.sees a b;unfold X3W;rw[c,if_neg (fun k=>k a),h.agrees];rfl
theorem X2P.timesC {r:CoRecord} {l l':List Zr} (h:X2P l l') (a:(X12 r l).2=0) (b:l'.length<=4):timesC r l=timesC r l':=by
  have c:=h.sees a b;unfold Nore.timesC;rw[c,if_neg (fun k=>k a),h.times];rfl
theorem X6W (l:List Zr) (s:l.length<=4) (x:List Int) (q:∀v∈x,0<=v/\v<=65535):∃o,X1X l x (0,[])=some o/\o.length=l.length/\X2P l o:=by
  obtain⟨w,r,p⟩:=X1Z (W9 l x) l.length (fun i (b:List Zr)=>((i:Int),b)) (fun i b=>b.length=i/\X2P (l.take i) b) (fun w=>w.length=l.length/\X2P l w)
    (fun b j=>⟨b,by simp[W9,Wo],j.1,by have:=j.2;rwa [List.take_length]at this⟩)
    (fun i b hi j=>by
      right;obtain⟨d,k⟩:=j;have e1:decide ((i:Int)<(l.length:Int))=true:=by simp;omega
      have w1:=wS i (by omega)
      obtain⟨t1,t2,t3⟩:=X6s x q i;have c0:(((i+1:Nat):Int)==0)=false:=X3q (by omega)
      have f:=X7h (X68 x i) ((i+1:Nat):Int) t2 (by omega)
      obtain⟨at_,e⟩:=Int.eq_ofNat_of_zero_le f.1;rw[e]at f;have n:at_<=i:=by omega
      have c2:decide ((at_:Int)<=(i:Int))=true:=by rw[jk];omega
      have c:(b.take at_).length=at_:=by rw[List.length_take];omega
      have g:(b.drop at_).length=i-at_:=by rw[List.length_drop];omega
      have b1:Nat.ble ((0+at_)*(32+1)) 200000000000000=true:=by rw[Nat.ble_eq];omega
      have b2:Nat.ble ((at_+1)*(32+1)) 200000000000000=true:=by rw[Nat.ble_eq];omega
      have b3:Nat.ble ((at_+1+(i-at_))*(32+1)) 200000000000000=true:=by rw[Nat.ble_eq];omega
      have m:b.take i=b:=by rw[<-d,List.take_length]
      simp only[W9,Wo,e1,jB,t1,jS,w1,c0,jA,e,z0S,d,c2,ju,kS,List.drop_zero,m,List.nil_append,List.length_append,List.length_singleton,c,g,b1,b2,b3,We _ _ _ hi];refine⟨_,rfl,?_,fun y=>?_⟩
      · simp only[List.length_append,List.length_singleton,c,g];omega
      · rw[List.take_succ_eq_append_getElem hi]
        simp only[List.mem_append,List.mem_singleton];have a:=k y;rw[<-List.take_append_drop at_ b,List.mem_append]at a;constructor
        · rintro((h|h)|h)
          · exact .inl (a.1 (.inl h))
          · exact .inr h
          · exact .inl (a.1 (.inr h))
        · rintro(h|h)
          · rcases a.2 h with h|h
            · exact .inl (.inl h)
            · exact .inr h
          · exact .inl (.inr h)) 0 [] (Nat.zero_le _) ⟨rfl,fun y=>by simp⟩
  exact⟨w,r,p⟩
theorem X5E (r:CoRecord) (t:Z7) (x:List Int) (n:∀v∈x,0<=v/\v<=65535):X1W r t x=some true:=by
  obtain⟨l,q⟩:=t;rw[X3z];unfold WW;simp only[X5W,X5I,X5l,jS]
  by_cases h:(X12 r l).2=0
  · have hz:((X12 r l).2==0)=true:=by simp[h]
    obtain⟨hr,u,s⟩:=X5d h;obtain⟨o,j,m,e⟩:=X6W l u x n;have fin:∀other,other.length<=4->X2P l other->(Option.bind (X2B (timesC r l).1 (timesC r other).1) fun r586=>bif r586 then bif(timesC r l).2==(timesC r other).2 then bif(if X3W r l q≠0 then(0,X3W r l q)else(X45 (X3i r l q.Device q.At.Lo) q.State,0)).1==(if X3W r other q≠0 then(0,X3W r other q)else(X45 (X3i r other q.Device q.At.Lo) q.State,0)).1 then bif(if X3W r l q≠0 then(0,X3W r l q)else(X45 (X3i r l q.Device q.At.Lo) q.State,0)).2==(if X3W r other q≠0 then(0,X3W r other q)else(X45 (X3i r other q.Device q.At.Lo) q.State,0)).2 then some true else some false else some false else some false else some false)=some true:=fun other g d=>by
      rw[<-d.timesC h g,<-d.ask h g q,<-d.states];have b:∀a:Int,(a==a)=true:=fun a=>by simp
      simp only[X74 _ (X7q r l),jS,jB,b]
    simp only[hz,Bool.not_true,jA,j,jS]
    by_cases h0:l.length=0
    · have c:decide ((l.length:Int)>0)=false:=by simp[h0]
      simp only[c,jA];exact fin o (by omega) e
    · have c:decide ((l.length:Int)>0)=true:=by simp;omega
      simp only[c,jB]
      by_cases h4:l.length<4
      · have c4:decide ((l.length:Int)<4)=true:=by simp;omega
        obtain⟨t1,t2,t3⟩:=X6s x n 1;have t1':X3o x 1=some (X68 x 1):=t1;have cz:((l.length:Int)==0)=false:=X3q (by omega)
        have i:=X7h (X68 x 1) (l.length:Int) t2 (by omega)
        obtain⟨k,p⟩:=Int.eq_ofNat_of_zero_le i.1;rw[p]at i;have f:k<l.length:=by omega
        have ck:decide ((k:Int)<(l.length:Int))=true:=by rw[jk];omega
        have b1:Nat.ble ((l.length+1)*(32+1)) 200000000000000=true:=by rw[Nat.ble_eq];omega
        simp only[c4,jB,t1',jS,cz,jA,p,z0S,ck,ju,kS,We _ _ _ f,m,List.length_singleton,b1];refine fin _ (by rw[List.length_append,List.length_singleton];omega) fun y=>?_
        rw[List.mem_append,List.mem_singleton,e y];constructor
        · rintro(h|h)
          · exact h
          · rw[h];exact jl f
        · exact fun h=>.inl h
      · have c4:decide ((l.length:Int)<4)=false:=by simp;omega
        simp only[c4,jA];exact fin o (by omega) e
  · have hz:((X12 r l).2==0)=false:=X3q h
    simp only[hz,Bool.not_false,jB]
theorem X5F (r:CoRecord) (t:Z7) (x:List Int) (a:∀v,List.Mem v x->(Lit.int .u16 v).wf=true):X1W r t x=some true :=
  X5E r t x fun v hv=>X7H (a v hv)
end Nore
