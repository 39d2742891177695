/- The plain functions of the program and of the document answer alike. -/
import Derived.Test.YthkpjcjiolelnaaGreatDoorY
import Derived.Test.YthkpjcjiolelnaaGreatDoorD
import Derived.KernelRfl
set_option linter.unusedSectionVars false
set_option linter.unusedVariables false
set_option linter.unusedSimpArgs false
open Go Go.Ab
namespace Nore
theorem Bv {x:Int} (a : -9223372036854775808<=x) (b:x<=9223372036854775807):IntKind.wrap .i64 x=x:=by
  simp only[IntKind.wrap,IntKind.signed,IntKind.bits];simp;omega
theorem B7 {α β:Type} (a:α) (f:α->Option β):Option.bind (some a) f=f a:=rfl
theorem Cd (n:Nat):Int.toNat (n:Int)=n:=rfl
theorem EH (i:Nat) (h:i<9223372036854775807):IntKind.wrap .i64 ((i:Int)+1)=((i+1:Nat):Int):=by rw[Bv]<;>omega
theorem ES (i:Nat):decide ((0:Int)<=↑i)=true:=by simp
theorem wO {σ ω γ:Type} (st:σ->Option (σ⊕ω)) (k:ω->Option γ) (s:σ):Option.bind (CC st s) k=Option.bind (st s) (Sum.elim (fun d=>Option.bind (CC st d) k) k):=by
  rw[SG];cases st s with
  | none=>rfl
  | some r=>cases r<;>rfl
theorem Is {β σ ω γ:Type} (st:σ->Option (σ⊕ω)) (k:ω->Option γ) (n:Nat) (emb:Nat->β->σ) (P:Nat->β->Prop) (e:Nat->β->Option γ)
    (d:∀b,P n b->∀R:σ->Option γ,Option.bind (st (emb n b)) (Sum.elim R k)=e n b)
    (hn:∀i b,i<n->P i b->∀R:σ->Option γ,(∀l,P (i+1) l->R (emb (i+1) l)=e (i+1) l)->Option.bind (st (emb i b)) (Sum.elim R k)=e i b) :
    ∀i b,i<=n->P i b->Option.bind (CC st (emb i b)) k=e i b:=by
  intro i b AA c
  induction q:n-i generalizing i b with
  | zero =>
    have:i=n:=by omega
    subst this;rw[wO];exact d b c _
  | succ j ih =>
    rw[wO];exact hn i b (by omega) c _ fun l a=>ih (i+1) l (by omega) a (by omega)
theorem GG {a b:Int} (h:¬a=b):(a==b)=false:=beq_eq_false_iff_ne.2 h
theorem HH {a b:Int} (h:¬a=b):(a != b)=true:=bne_iff_ne.2 h
theorem Dt {α:Type} (l:List α) (i:Nat) (d:α) (h:i<l.length):l.getD i d=l[i]:=by simp[List.getD,h]
theorem Eo {β σ ω:Type} (st:σ->Option (σ⊕ω)) (n:Nat) (emb:Nat->β->σ) (P:Nat->β->Prop) (Q:ω->Prop)
    (e:∀b,P n b->∃w,st (emb n b)=some (.inr w)/\Q w)
    (hn:∀i b,i<n->P i b->(∃w,st (emb i b)=some (.inr w)/\Q w)\/∃l,st (emb i b)=some (.inl (emb (i+1) l))/\P (i+1) l) :
    ∀i b,i<=n->P i b->∃w,CC st (emb i b)=some w/\Q w:=by
  intro i b AA d
  induction q:n-i generalizing i b with
  | zero =>
    have:i=n:=by omega
    subst this;obtain⟨w,c,a⟩:=e b d;exact⟨w,by rw[SG,c];rfl,a⟩
  | succ j ih =>
    rcases hn i b (by omega) d with⟨w,c,a⟩|⟨l,c,a⟩
    · exact⟨w,by rw[SG,c];rfl,a⟩
    · obtain⟨w,f,g⟩:=ih (i+1) l (by omega) a (by omega)
      exact⟨w,by rw[SG,c];exact f,g⟩
end Nore
namespace Nore
structure Wo where
  from_:Int
  EJ:Int
structure Da where
  A1:Nat->Int
  AA:Nat->Int
  AL:List (Nat×Nat)
def Qi (n:Nat) (x:Nat->Int):Prop:=∀i,i+1<n->x i<=x (i+1)
def Sf (AL:List (Nat×Nat)) (x:Nat->Int):Prop:=∀p∈AL,x p.1+1<=x p.2
def K4 (n:Nat) (c:Da) (x:Nat->Int):Prop:=(∀i,i<n->c.A1 i<=x i)/\Qi n x/\Sf c.AL x
def K2 (n:Nat) (c:Da) (x:Nat->Int):Prop:=(∀i,i<n->x i<=c.AA i)/\Qi n x/\Sf c.AL x
def ND (n:Nat) (c:Da) (x:Nat->Int):Prop:=K4 n c x/\K2 n c x
structure Qe (n:Nat) (c:Da) (L:Nat->Int):Prop where
  up:K4 n c L
  least:∀x,K4 n c x->∀i,i<n->L i<=x i
structure Qd (n:Nat) (c:Da) (H:Nat->Int):Prop where
  Ms:K2 n c H
  Zb:∀x,K2 n c x->∀i,i<n->x i<=H i
def Iu (n:Nat) (AL:List (Nat×Nat)):Prop:=∀p∈AL,p.1<p.2/\p.2<n
theorem Akm {n:Nat} {c c':Da} {L d:Nat->Int} (h:Qe n c L) (h':Qe n c' d) (e:∀x,K4 n c x↔K4 n c' x):∀i,i<n->L i=d i:=fun i AA =>
  Int.le_antisymm (h.least _ ((e _).2 h'.up) i AA) (h'.least _ ((e _).1 h.up) i AA)
theorem Ak5 {n:Nat} {c c':Da} {H d:Nat->Int} (h:Qd n c H) (h':Qd n c' d) (e:∀x,K2 n c x↔K2 n c' x):∀i,i<n->H i=d i:=fun i AA =>
  Int.le_antisymm (h'.Zb _ ((e _).1 h.Ms) i AA) (h.Zb _ ((e _).2 h'.Ms) i AA)
theorem wH {n:Nat} {c:Da} {L H:Nat->Int} (Bn:Qe n c L) (a:Qd n c H) (h:∀i,i<n->L i<=H i):ND n c L :=
  ⟨Bn.up,fun i AA=>Int.le_trans (h i AA) (a.Ms.1 i AA),Bn.up.2.1,Bn.up.2.2⟩
theorem AjL {n:Nat} {c:Da} {L H:Nat->Int} (Bn:Qe n c L) (a:Qd n c H) (h:∀i,i<n->L i<=H i):ND n c H :=
  ⟨⟨fun i AA=>Int.le_trans (Bn.up.1 i AA) (h i AA),a.Ms.2.1,a.Ms.2.2⟩,a.Ms⟩
theorem xA {n:Nat} {c:Da} {L H:Nat->Int} (Bn:Qe n c L) (a:Qd n c H):(∃x,ND n c x)↔∀i,i<n->L i<=H i :=
  ⟨fun⟨x,e,d⟩ i AA=>Int.le_trans (Bn.least x e i AA) (a.Zb x d i AA),fun h=>⟨L,wH Bn a h⟩⟩
def Iw (L:Nat->Int):List (Nat×Nat)->Nat->Int->Int
  | [],_,a=>a
  | p::AP,i,a=>Iw L AP i (if p.2=i then(if L p.1+1>a then L p.1+1 else a)else a)
def WQ (AL:List (Nat×Nat)) (L:Nat->Int) (i:Nat):Int:=Iw L AL i (if 0<i then(if L (i-1)>L i then L (i-1)else L i)else L i)
def Ci (AL:List (Nat×Nat)):Nat->(Nat->Int)->Nat->Int
  | 0,L=>L
  | k+1,L=>fun j=>if j=k then WQ AL (Ci AL k L) k else Ci AL k L j
theorem gK (L:Nat->Int) (i:Nat):∀(AL:List (Nat×Nat)) (a:Int),a<=Iw L AL i a/\∀p∈AL,p.2=i->L p.1+1<=Iw L AL i a
  | [],a=>⟨Int.le_refl _,by simp⟩
  | p::AP,a=>by
    unfold Iw;have b:a<=(if p.2=i then(if L p.1+1>a then L p.1+1 else a)else a)/\(p.2=i->L p.1+1<=(if p.2=i then(if L p.1+1>a then L p.1+1 else a)else a)):=by
      by_cases e:p.2=i
      · by_cases BG:L p.1+1>a
        · simp only[e,BG,if_true];exact⟨by omega,fun _=>Int.le_refl _⟩
        · simp only[e,BG,if_true,if_false];exact⟨Int.le_refl _,fun _=>by omega⟩
      · simp only[e,if_false];exact⟨Int.le_refl _,fun h=>h.elim⟩
    generalize (if p.2=i then(if L p.1+1>a then L p.1+1 else a)else a)=j at b⊢;obtain⟨d,f⟩:=gK L i AP j;refine⟨Int.le_trans b.1 d,fun q c e=>?_⟩;rcases DK.1 c with rfl|c
    · exact Int.le_trans (b.2 e) d
    · exact f q c e
theorem gL (L:Nat->Int) (i:Nat) (b:Int):∀(AL:List (Nat×Nat)) (a:Int),a<=b->(∀p∈AL,p.2=i->L p.1+1<=b)->Iw L AL i a<=b
  | [],_,h,_=>h
  | p::AP,a,h,d=>by
    unfold Iw;refine gL L i b AP _ ?_ fun q c=>d q (by simp[c])
    have:=d p (by simp)
    split
    · rename_i e
      have:=this e;split<;>omega
    · exact h
theorem xC (AL:List (Nat×Nat)) (L:Nat->Int):∀(k j:Nat),k<=j->Ci AL k L j=L j
  | 0,_,_=>rfl
  | k+1,j,h=>by
    unfold Ci;rw[if_neg (by omega)]
    exact xC AL L k j (by omega)
theorem O5 {n:Nat} {c:Da} (g:Iu n c.AL):Qe n c (Ci c.AL n c.A1):=by
  have z:∀k,k<=n->(∀i,i<k->c.A1 i<=Ci c.AL k c.A1 i)/\(∀i,i+1<k->Ci c.AL k c.A1 i<=Ci c.AL k c.A1 (i+1))/\(∀p∈c.AL,p.2<k->Ci c.AL k c.A1 p.1+1<=Ci c.AL k c.A1 p.2) ∧
      ∀x,K4 n c x->∀i,i<k->Ci c.AL k c.A1 i<=x i:=by
    intro k
    induction k with
    | zero=>intro _;exact⟨fun i h=>by omega,fun i h=>by omega,fun p _ h=>by omega,fun x _ i h=>by omega⟩
    | succ k ih =>
      intro w;obtain⟨r,o,q,m⟩:=ih (by omega)
      have a:∀j,j≠k->Ci c.AL (k+1) c.A1 j=Ci c.AL k c.A1 j:=fun j v=>by show(if j=k then _ else _)=_;rw[if_neg v]
      have b:Ci c.AL (k+1) c.A1 k=WQ c.AL (Ci c.AL k c.A1) k:=by show(if k=k then _ else _)=_;rw[if_pos rfl]
      have f:Ci c.AL k c.A1 k=c.A1 k:=xC _ _ _ _ (Nat.le_refl _);obtain⟨C,I⟩:=gK (Ci c.AL k c.A1) k c.AL (if 0<k then(if Ci c.AL k c.A1 (k-1)>Ci c.AL k c.A1 k then Ci c.AL k c.A1 (k-1)else Ci c.AL k c.A1 k)else Ci c.AL k c.A1 k);have g0:Ci c.AL k c.A1 k<=(if 0<k then(if Ci c.AL k c.A1 (k-1)>Ci c.AL k c.A1 k then Ci c.AL k c.A1 (k-1)else Ci c.AL k c.A1 k)else Ci c.AL k c.A1 k):=by
        split
        · split<;>omega
        · exact Int.le_refl _
      refine⟨fun i AA=>?_,fun i AA=>?_,fun p d AA=>?_,fun x l i AA=>?_⟩
      · by_cases e:i=k
        · subst e;rw[b,<-f];exact Int.le_trans g0 C
        · rw[a i e];exact r i (by omega)
      · by_cases e:i+1=k
        · subst e
          rw[b,a i (by omega)]
          refine Int.le_trans ?_ C;rw[if_pos (by omega),Nat.add_sub_cancel]
          split<;>omega
        · rw[a i (by omega),a (i+1) e];exact o i (by omega)
      · have:=g p d
        by_cases e:p.2=k
        · rw[e,b,a p.1 (by omega)];exact I p d e
        · rw[a p.1 (by omega),a p.2 e];exact q p d (by omega)
      · by_cases e:i=k
        · subst e
          rw[b];refine gL _ _ _ _ _ ?_ fun p d e=>?_
          · have s:=l.1 i (by omega)
            rw[f];split
            · have:=m x l (i-1) (by omega)
              have t:=l.2.1 (i-1) (by omega)
              rw[Nat.sub_add_cancel (by omega)]at t
              split<;>omega
            · exact s
          · have y:=g p d
            have:=m x l p.1 (by omega)
            have u:=l.2.2 p d;rw[e]at u;omega
        · rw[a i e];exact m x l i (by omega)
  obtain⟨r,o,q,m⟩:=z n (Nat.le_refl _);exact⟨⟨r,o,fun p d=>q p d (g p d).2⟩,m⟩
def Iy (H:Nat->Int):List (Nat×Nat)->Nat->Int->Int
  | [],_,a=>a
  | p::AP,i,a=>Iy H AP i (if p.1=i then(if H p.2-1<a then H p.2-1 else a)else a)
def SJ (n:Nat) (AL:List (Nat×Nat)) (H:Nat->Int) (i:Nat):Int:=Iy H AL i (if i+1<n then(if H (i+1)<H i then H (i+1)else H i)else H i)
def Ch (n:Nat) (AL:List (Nat×Nat)):Nat->(Nat->Int)->Nat->Int
  | 0,H=>H
  | k+1,H=>fun j=>if j=n-1-k then SJ n AL (Ch n AL k H) (n-1-k)else Ch n AL k H j
theorem gN (H:Nat->Int) (i:Nat):∀(AL:List (Nat×Nat)) (a:Int),Iy H AL i a<=a/\∀p∈AL,p.1=i->Iy H AL i a<=H p.2-1
  | [],a=>⟨Int.le_refl _,by simp⟩
  | p::AP,a=>by
    unfold Iy;have b:(if p.1=i then(if H p.2-1<a then H p.2-1 else a)else a)<=a/\(p.1=i->(if p.1=i then(if H p.2-1<a then H p.2-1 else a)else a)<=H p.2-1):=by
      by_cases e:p.1=i
      · by_cases BG:H p.2-1<a
        · simp only[e,BG,if_true];exact⟨by omega,fun _=>Int.le_refl _⟩
        · simp only[e,BG,if_true,if_false];exact⟨Int.le_refl _,fun _=>by omega⟩
      · simp only[e,if_false];exact⟨Int.le_refl _,fun h=>h.elim⟩
    generalize (if p.1=i then(if H p.2-1<a then H p.2-1 else a)else a)=j at b⊢;obtain⟨d,f⟩:=gN H i AP j;refine⟨Int.le_trans d b.1,fun q c e=>?_⟩;rcases DK.1 c with rfl|c
    · exact Int.le_trans d (b.2 e)
    · exact f q c e
theorem gM (H:Nat->Int) (i:Nat) (b:Int):∀(AL:List (Nat×Nat)) (a:Int),b<=a->(∀p∈AL,p.1=i->b<=H p.2-1)->b<=Iy H AL i a
  | [],_,h,_=>h
  | p::AP,a,h,d=>by
    unfold Iy;refine gM H i b AP _ ?_ fun q c=>d q (by simp[c])
    have:=d p (by simp)
    split
    · rename_i e
      have:=this e;split<;>omega
    · exact h
theorem wX (n:Nat) (AL:List (Nat×Nat)) (H:Nat->Int):∀(k j:Nat),k<=n->j+k<n->Ch n AL k H j=H j
  | 0,_,_,_=>rfl
  | k+1,j,d,h=>by
    unfold Ch;rw[if_neg (by omega)]
    exact wX n AL H k j (by omega) (by omega)
theorem O2 {n:Nat} {c:Da} (l:Iu n c.AL):Qd n c (Ch n c.AL n c.AA):=by
  have C:∀k,k<=n->(∀i,i<n->n<=i+k->Ch n c.AL k c.AA i<=c.AA i)/\(∀i,i+1<n->n<=i+k->Ch n c.AL k c.AA i<=Ch n c.AL k c.AA (i+1))/\(∀p∈c.AL,n<=p.1+k->Ch n c.AL k c.AA p.1+1<=Ch n c.AL k c.AA p.2) ∧
      ∀x,K2 n c x->∀i,i<n->n<=i+k->x i<=Ch n c.AL k c.AA i:=by
    intro k
    induction k with
    | zero=>intro _;exact⟨fun i h h'=>by omega,fun i h h'=>by omega,fun p d h=>by have:=l p d;omega,fun x _ i h h'=>by omega⟩
    | succ k ih =>
      intro y;obtain⟨t,r,s,o⟩:=ih (by omega)
      have a:∀j,j≠n-1-k->Ch n c.AL (k+1) c.AA j=Ch n c.AL k c.AA j:=fun j v=>by show(if j=n-1-k then _ else _)=_;rw[if_neg v]
      have b:Ch n c.AL (k+1) c.AA (n-1-k)=SJ n c.AL (Ch n c.AL k c.AA) (n-1-k):=by show(if n-1-k=n-1-k then _ else _)=_;rw[if_pos rfl]
      have f:Ch n c.AL k c.AA (n-1-k)=c.AA (n-1-k):=wX _ _ _ _ _ (by omega) (by omega)
      obtain⟨I,J⟩:=gN (Ch n c.AL k c.AA) (n-1-k) c.AL (if n-1-k+1<n then(if Ch n c.AL k c.AA (n-1-k+1)<Ch n c.AL k c.AA (n-1-k)then Ch n c.AL k c.AA (n-1-k+1)else Ch n c.AL k c.AA (n-1-k))else Ch n c.AL k c.AA (n-1-k));have g0:(if n-1-k+1<n then(if Ch n c.AL k c.AA (n-1-k+1)<Ch n c.AL k c.AA (n-1-k)then Ch n c.AL k c.AA (n-1-k+1)else Ch n c.AL k c.AA (n-1-k))else Ch n c.AL k c.AA (n-1-k))<=Ch n c.AL k c.AA (n-1-k):=by
        split
        · split<;>omega
        · exact Int.le_refl _
      refine⟨fun i AA m=>?_,fun i AA m=>?_,fun p d AA=>?_,fun x g i AA m=>?_⟩
      · by_cases e:i=n-1-k
        · rw[e,b,<-f];exact Int.le_trans I g0
        · rw[a i e];exact t i AA (by omega)
      · by_cases e:i=n-1-k
        · rw[e,b,a (n-1-k+1) (by omega)]
          refine Int.le_trans I ?_;rw[if_pos (by omega)]
          split<;>omega
        · rw[a i e,a (i+1) (by omega)];exact r i AA (by omega)
      · have:=l p d
        by_cases e:p.1=n-1-k
        · have:=J p d e
          rw[e,b,a p.2 (by omega)]
          unfold SJ;omega
        · rw[a p.1 e,a p.2 (by omega)];exact s p d (by omega)
      · by_cases e:i=n-1-k
        · rw[e,b]
          refine gM _ _ _ _ _ ?_ fun p d e'=>?_
          · have q:=g.1 i AA
            rw[e]at q;rw[f];split
            · have:=o x g (n-1-k+1) (by omega) (by omega)
              have w:=g.2.1 (n-1-k) (by omega)
              split<;>omega
            · exact q
          · have z:=l p d
            have:=o x g p.2 (by omega) (by omega)
            have u:=g.2.2 p d;rw[e']at u;omega
        · rw[a i e];exact o x g i AA (by omega)
  obtain⟨t,r,s,o⟩:=C n (Nat.le_refl _);exact⟨⟨fun i AA=>t i AA (by omega),fun i AA=>r i AA (by omega),fun p d=>s p d (by omega)⟩,fun x g i AA=>o x g i AA (by omega)⟩
def ML (n:Nat) (c:Da):Nat->Int:=Ci c.AL n c.A1
def MK (n:Nat) (c:Da):Nat->Int:=Ch n c.AL n c.AA
def HQ (n:Nat) (c:Da):Bool:=(List.range n).all fun i=>decide (ML n c i<=MK n c i)
theorem O9 {n:Nat} {c:Da}:HQ n c=true↔∀i,i<n->ML n c i<=MK n c i:=by
  unfold HQ;rw[List.all_eq_true];exact⟨fun h i AA=>by simpa using h i (List.mem_range.2 AA),fun h i AA=>by simpa using h i (List.mem_range.1 AA)⟩
abbrev LQ:=Int×Nat
def En (n:Nat) (c:Da) (s:LQ) (a b:Int):Da where
  AA:=fun i=>if 0<=s.1/\i=s.1.toNat then(if b<c.AA i then b else c.AA i)else c.AA i
  A1:=fun i=>if s.2<n/\i=s.2 then(if a+1>c.A1 i then a+1 else c.A1 i)else c.A1 i
  AL:=if 0<=s.1/\s.2<n then c.AL++[(s.1.toNat,s.2)]else c.AL
def NQ (n:Nat) (s:LQ):Prop:=s.1<s.2/\s.2<=n /\ -1<=s.1
theorem w6 {n:Nat} {c:Da} (h:Iu n c.AL) {s:LQ} (hs:NQ n s) (a b:Int):Iu n (En n c s a b).AL:=by
  unfold En;simp only;split
  · rename_i hc
    intro p d;rcases List.mem_append.1 d with d|d
    · exact h p d
    · simp only[List.mem_singleton]at d
      subst d;unfold NQ at hs;simp only;omega
  · exact h
def Qj (n:Nat) (x:Nat->Int) (s:LQ) (a b:Int):Prop:=(0<=s.1->x s.1.toNat<=b)/\(s.2<n->a+1<=x s.2)/\(0<=s.1->s.2<n->x s.1.toNat+1<=x s.2)
theorem vO {n:Nat} {c:Da} {s:LQ} {a b:Int} {x:Nat->Int}:Sf (En n c s a b).AL x↔Sf c.AL x/\(0<=s.1->s.2<n->x s.1.toNat+1<=x s.2):=by
  unfold En Sf;simp only;split
  · rename_i hc
    constructor
    · intro h
      exact⟨fun p d=>h p (List.mem_append.2 (.inl d)),fun _ _=>h (s.1.toNat,s.2) (List.mem_append.2 (.inr (by simp)))⟩
    · rintro⟨f,e⟩ p d
      rcases List.mem_append.1 d with d|d
      · exact f p d
      · simp only[List.mem_singleton]at d
        subst d;exact e hc.1 hc.2
  · rename_i hc
    exact⟨fun h=>⟨h,fun f e=>absurd ⟨f,e⟩ hc⟩,fun h=>h.1⟩
theorem AkB {n:Nat} {c:Da} {s:LQ} {a b:Int} {x:Nat->Int}:K4 n (En n c s a b) x↔K4 n c x/\(s.2<n->a+1<=x s.2)/\(0<=s.1->s.2<n->x s.1.toNat+1<=x s.2):=by
  unfold K4;rw[vO];have e:(∀i,i<n->(En n c s a b).A1 i<=x i)↔(∀i,i<n->c.A1 i<=x i)/\(s.2<n->a+1<=x s.2):=by
    unfold En;simp only;constructor
    · intro h
      refine⟨fun i AA=>?_,fun hs=>?_⟩
      · have:=h i AA
        split at this
        · split at this<;>omega
        · exact this
      · have:=h s.2 hs
        rw[if_pos ⟨hs,rfl⟩]at this;split at this<;>omega
    · rintro⟨f,d⟩ i AA
      have:=f i AA;split
      · rename_i hc
        have g:=d hc.1;rw[<-hc.2]at g;split<;>omega
      · exact this
  rw[e];constructor
  · rintro⟨⟨f,d⟩,g,j,k⟩;exact⟨⟨f,g,j⟩,d,k⟩
  · rintro⟨⟨f,g,j⟩,d,k⟩;exact⟨⟨f,d⟩,g,j,k⟩
theorem AkA {n:Nat} {c:Da} {s:LQ} (hs:NQ n s) {a b:Int} {x:Nat->Int}:K2 n (En n c s a b) x↔K2 n c x/\(0<=s.1->x s.1.toNat<=b)/\(0<=s.1->s.2<n->x s.1.toNat+1<=x s.2):=by
  unfold K2;rw[vO];have e:(∀i,i<n->x i<=(En n c s a b).AA i)↔(∀i,i<n->x i<=c.AA i)/\(0<=s.1->x s.1.toNat<=b):=by
    unfold En;unfold NQ at hs;simp only;constructor
    · intro h
      refine⟨fun i AA=>?_,fun l=>?_⟩
      · have:=h i AA
        split at this
        · split at this<;>omega
        · exact this
      · have:=h s.1.toNat (by omega)
        rw[if_pos ⟨l,rfl⟩]at this;split at this<;>omega
    · rintro⟨g,d⟩ i AA
      have:=g i AA;split
      · rename_i hc
        have f:=d hc.1;rw[<-hc.2]at f;split<;>omega
      · exact this
  rw[e];constructor
  · rintro⟨⟨g,d⟩,f,j,k⟩;exact⟨⟨g,f,j⟩,d,k⟩
  · rintro⟨⟨g,f,j⟩,d,k⟩;exact⟨⟨g,d⟩,f,j,k⟩
theorem wP {n:Nat} {c:Da} {s:LQ} (hs:NQ n s) {a b:Int} {x:Nat->Int}:ND n (En n c s a b) x↔ND n c x/\Qj n x s a b:=by
  unfold ND Qj;rw[AkB,AkA hs];constructor
  · rintro⟨⟨g,e,d⟩,f,h,_⟩;exact⟨⟨g,f⟩,h,e,d⟩
  · rintro⟨⟨g,f⟩,h,e,d⟩;exact⟨⟨g,e,d⟩,f,h,d⟩
def Pz (n:Nat) (c c':Da):Prop:=(∀x,K4 n c x↔K4 n c' x)/\∀x,K2 n c x↔K2 n c' x
theorem Pz.A1 {n:Nat} {c c':Da} (h:Pz n c c') (a:Iu n c.AL) (b:Iu n c'.AL) (i:Nat) (AA:i<n):ML n c i=ML n c' i:=Akm (O5 a) (O5 b) h.1 i AA
theorem Pz.AA {n:Nat} {c c':Da} (h:Pz n c c') (a:Iu n c.AL) (b:Iu n c'.AL) (i:Nat) (AA:i<n):MK n c i=MK n c' i:=Ak5 (O2 a) (O2 b) h.2 i AA
theorem Pz.ok {n:Nat} {c c':Da} (h:Pz n c c') (b:Iu n c.AL) (a:Iu n c'.AL):HQ n c=HQ n c':=by
  have:HQ n c=true↔HQ n c'=true:=by
    rw[O9,O9];exact⟨fun k i AA=>by rw[<-h.A1 b a i AA,<-h.AA b a i AA];exact k i AA,fun k i AA=>by rw[h.A1 b a i AA,h.AA b a i AA];exact k i AA⟩
  cases e:HQ n c<;>cases d:HQ n c'<;>simp_all
def gO (n:Nat) (c:Da):Da:=⟨ML n c,MK n c,c.AL⟩
structure MH where
  strs:List LQ
  a:Int
  b:Int
def XX (n:Nat) (w:MH):Prop:=∀s∈w.strs,NQ n s
def Ef (n:Nat):List MH->Da->List Da
  | [],c=>if HQ n c then [gO n c]else []
  | w::d,c=>if HQ n c then w.strs.flatMap fun s=>Ef n d (En n c s w.a w.b)else []
def Tk (n:Nat) (c:Da) (d:List MH) (x:Nat->Int):Prop:=ND n c x/\∀w∈d,∃s∈w.strs,Qj n x s w.a w.b
theorem vK {n:Nat}:∀(j:List MH) (c:Da),(∀w∈j,XX n w)->Iu n c.AL->∀d∈Ef n j c,Tk n c j d.A1/\Tk n c j d.AA/\∀i,i<n->d.A1 i<=d.AA i
  | [],c,_,l,d,a=>by
    unfold Ef at a;split at a
    · rename_i f
      simp only[List.mem_singleton]at a;subst a;have b:=O9.1 f;exact⟨⟨wH (O5 l) (O2 l) b,by simp⟩,⟨AjL (O5 l) (O2 l) b,by simp⟩,b⟩
    · cases a
  | w::j,c,u,l,d,a=>by
    unfold Ef at a;split at a
    · obtain⟨s,hs,a⟩:=List.mem_flatMap.1 a
      have e:=u w (by simp) s hs
      obtain⟨⟨k1,k2⟩,⟨q,z⟩,C⟩:=vK j _ (fun v hv=>u v (by simp[hv])) (w6 l e _ _) d a
      rw[wP e]at k1 q;refine⟨⟨k1.1,fun v hv=>?_⟩,⟨q.1,fun v hv=>?_⟩,C⟩
      · rcases DK.1 hv with rfl|hv
        · exact⟨s,hs,k1.2⟩
        · exact k2 v hv
      · rcases DK.1 hv with rfl|hv
        · exact⟨s,hs,q.2⟩
        · exact z v hv
    · cases a
theorem vD {n:Nat}:∀(u:List MH) (c:Da),(∀w∈u,XX n w)->Iu n c.AL->∀x,Tk n c u x->∃d∈Ef n u c,∀i,i<n->d.A1 i<=x i/\x i<=d.AA i
  | [],c,_,q,x,l=>by
    have g:HQ n c=true:=O9.2 ((xA (O5 q) (O2 q)).1 ⟨x,l.1⟩);unfold Ef;rw[if_pos g];exact⟨gO n c,List.mem_singleton.2 rfl,fun i AA=>⟨(O5 q).least x l.1.1 i AA,(O2 q).Zb x l.1.2 i AA⟩⟩
  | w::u,c,z,q,x,l=>by
    have g:HQ n c=true:=O9.2 ((xA (O5 q) (O2 q)).1 ⟨x,l.1⟩);unfold Ef;rw[if_pos g];obtain⟨s,hs,e⟩:=l.2 w (by simp)
    have f:=z w (by simp) s hs
    obtain⟨d,j,h⟩:=vD u (En n c s w.a w.b) (fun v hv=>z v (by simp[hv])) (w6 q f _ _) x ⟨(wP f).2 ⟨l.1,e⟩,fun v hv=>l.2 v (by simp[hv])⟩
    exact⟨d,List.mem_flatMap.2 ⟨s,hs,j⟩,h⟩
theorem vE {n:Nat} {i:List MH} {c:Da} (b:∀w∈i,XX n w) (e:Iu n c.AL):Ef n i c≠[]↔∃x,Tk n c i x:=by
  constructor
  · intro h
    obtain⟨d,a⟩:=List.exists_mem_of_ne_nil _ h;exact⟨_,(vK i c b e d a).1⟩
  · rintro⟨x,f⟩ h
    obtain⟨d,a,_⟩:=vD i c b e x f;rw[h]at a;cases a
end Nore
open Go Go.Ab
namespace Nore
def Cx (A1 AA:Int) (l:List Int):Bool:=l.any fun n=>decide (n<A1)||decide (n>AA)
theorem K8 (A1 AA:Int):Cx A1 AA []=false:=rfl
theorem K7 (A1 AA n:Int) (l:List Int):Cx A1 AA (n::l)=(decide (n<A1)||decide (n>AA)||Cx A1 AA l):=rfl
def GJ (n A1 AA:Int):Bool:=decide (A1<=n)&&decide (n<=AA)
theorem XC (n A1 AA:Int):NM n A1 AA=some (GJ n A1 AA):=by
  unfold NM GJ
  by_cases h:A1<=n<;>simp[h]
def Kc:Int->List UInt8->Option Int
  | last,[]=>some last
  | last,c::l=>if 97<=(c.toNat:Int)/\(c.toNat:Int)<=122 then Kc c.toNat l else if(c.toNat:Int)≠45\/last=45 then none else Kc c.toNat l
def It:Option Int->Bool
  | none=>false
  | some d=>d != 45
def J1 (s:ByteArray):Bool:=decide (s.size<=14)&&It (Kc 45 s.toList)
theorem Ajz (s:ByteArray) (i:Nat) (h:(s.get! i).toNat<128):Utf8.decode s i=((s.get! i).toNat,1):=by
  unfold Utf8.decode;simp only[Nat.add_zero];rw[if_pos h]
theorem Ajy (s:ByteArray) (i:Nat) (h:¬(s.get! i).toNat<128):128<=(Utf8.decode s i).1:=by
  unfold Utf8.decode;simp only[Nat.add_zero,Utf8.runeError];rw[if_neg h]
  repeat' split
  all_goals simp_all
  all_goals omega
theorem NK (s:ByteArray):s.toList.length=s.size:=by rw[ByteArray.toList_eq];rfl
theorem Ajs (s:ByteArray) (i:Nat) (h:i<s.toList.length):s.get! i=s.toList[i]:=by
  have hs:i<s.size:=by rw[<-NK];exact h
  simp only[ByteArray.toList_eq];show(s.data[i]!)=_;have a:i<s.data.size:=hs;rw[getElem!_pos s.data i a];rfl
theorem u2 (s:ByteArray):Ww s=some (J1 s):=by
  have key:=Is (QL s s) (fun Bp=>Sum.elim (fun C:Bool×Nat=>some C.fst) (fun z:Int×Nat=>bif decide ((↑(ByteArray.size s):Int)<=14)then some (z.fst != 45)else some false) Bp) s.toList.length (fun i (b:Int)=>(b,i)) (fun _ _=>True) (fun i b=>some (decide (s.size<=14)&&It (Kc b (s.toList.drop i))))
    (by
      intro b _ R;have hh:(decide ((↑s.size:Int)<=14))=decide (s.size<=14):=by rw[decide_eq_decide];omega
      have g:s.toList.drop s.size=[]:=G9 (by rw[NK];exact Nat.le_refl _)
      simp only[g,Kc,It,QL,TD,NK,hh,Nat.lt_irrefl,decide_false,Ac,B7,IC];cases decide (s.size<=14)<;>simp)
    (by
      intro i b AA _ R j;have hs:i<s.size:=by rw[<-NK];exact AA
      have f:=Ajs s i AA;simp only[QL,TD];rw[HO AA];simp only[Kc]
      by_cases h:(s.get! i).toNat<128
      · rw[Ajz s i h]
        have e:=j ((s.get! i).toNat:Int) trivial;rw[f]at *;generalize s.toList[i]=c at *;simp only[hs,decide_true,AY]
        by_cases l:97<=(c.toNat:Int)
        · have BI:decide ((c.toNat:Int)>=97)=true:=decide_eq_true l
          by_cases u:(c.toNat:Int)<=122
          · have BD:decide ((c.toNat:Int)<=122)=true:=decide_eq_true u
            simp only[decide_true,decide_false,BI,BD,AY,B7,LF,l,u,and_self,if_true];exact e
          · have BD:decide ((c.toNat:Int)<=122)=false:=decide_eq_false u
            have a:¬((c.toNat:Int)=45):=by omega
            have B9:((c.toNat:Int) != 45)=true:=bne_iff_ne.2 a;simp only[decide_true,decide_false,BI,BD,B9,AY,Ac,B7,LF,IC,u,and_false,if_false,ne_eq,a,not_false_iff,true_or,if_true,It,Bool.and_false]
        · have BI:decide ((c.toNat:Int)>=97)=false:=decide_eq_false l
          by_cases a:(c.toNat:Int)=45
          · have B9:((c.toNat:Int) != 45)=false:=by rw[a];rfl
            by_cases q:b=45
            · have DM:(b==45)=true:=by rw[q];rfl
              rw[BI,B9,DM,if_neg (fun hc=>l hc.1),if_pos (Or.inr q)];simp[It]
            · have DM:(b==45)=false:=beq_eq_false_iff_ne.2 q
              simp only[decide_true,decide_false,BI,B9,DM,AY,Ac,B7,LF,IC,l,false_and,if_false,q,ne_eq,a,not_true,or_self,if_true];rw[a]at e;exact e
          · have B9:((c.toNat:Int) != 45)=true:=bne_iff_ne.2 a
            simp only[decide_true,decide_false,BI,B9,AY,Ac,B7,LF,IC,l,false_and,if_false,ne_eq,a,not_false_iff,true_or,if_true,It,Bool.and_false]
      · have h':=Ajy s i h
        rw[f]at h;generalize s.toList[i]=c at *;simp only[hs,decide_true,AY];generalize (Utf8.decode s i)=d at *;have AS:((d.1:Nat):Int)>=97:=by omega
        have BG:¬((d.1:Nat):Int)<=122:=by omega
        have I:¬((d.1:Nat):Int)=45:=by omega
        have J:¬((c.toNat:Int)<=122):=by omega
        have K:¬((c.toNat:Int)=45):=by omega
        have BI:decide (((d.1:Nat):Int)>=97)=true:=decide_eq_true AS;have BD:decide (((d.1:Nat):Int)<=122)=false:=decide_eq_false BG;have B9:(((d.1:Nat):Int) != 45)=true:=bne_iff_ne.2 I;simp only[decide_true,decide_false,BI,BD,B9,AY,Ac,B7,LF,IC,J,and_false,if_false,ne_eq,K,not_false_iff,true_or,if_true,It,Bool.and_false])
  exact(key 0 45 (by omega) trivial).trans (by simp[J1])
theorem AiQ (s:ByteArray):Wx s=some (J1 s):=by
  unfold Wx;rw[XC];simp only[B7]
  by_cases O:1<=s.size/\s.size<=14
  · have AS:GJ (↑s.size) 1 14=true:=by simp[GJ];omega
    rw[AS];simp only[Bool.not_true,Ac];have hl:=NK s;have key:=Is (QM s) (fun Bp=>Sum.elim (fun M:Bool=>some M) (fun _:Unit=>some true) Bp) s.toList.length (fun i (_:Int)=>(i:Int)) (fun i b=>b=if i=0 then 45 else((s.toList.getD (i-1) 0).toNat:Int)) (fun i b=>some (if i<s.toList.length then It (Kc b (s.toList.drop i))else true))
      (by
        intro b _ R;simp[QM,TE,NK])
      (by
        intro i b AA j R m;have hs:i<s.size:=by rw[<-NK];exact AA
        simp only[QM,TE];rw[HO AA];have a:=m ((s.toList[i]).toNat:Int) (by simp[List.getD,AA])
        have l:=EH i (by omega)
        have f:IntKind.wrap .i64 ((i:Int)-1)=((i:Int)-1):=by rw[Bv]<;>omega
        have e:IntKind.wrap .i64 ((s.size:Int)-1)=((s.size:Int)-1):=by rw[Bv]<;>omega
        simp only[Kc,Cd,Dt _ _ _ AA,l,f,e];have d1:decide ((i:Int)<↑s.size)=true:=by simp[hs]
        have d2:=ES i;simp only[d1,d2,CD,AY,AA,if_true];generalize hc:s.toList[i]=c at *
        by_cases u:97<=(c.toNat:Int)/\(c.toNat:Int)<=122
        · have BI:decide ((c.toNat:Int)>=97)=true:=decide_eq_true u.1
          have BD:decide ((c.toNat:Int)<=122)=true:=decide_eq_true u.2;simp only[decide_true,decide_false,BI,BD,AY,B7,LF,u,and_self,if_true];have d:¬((c.toNat:Int)=45):=by omega
          rw[a]
          by_cases I:i+1<s.toList.length
          · simp[I]
          · have:s.toList.drop (i+1)=[]:=G9 (by omega)
            simp[I,this,Kc,It,d]
        · have g:(bif decide ((c.toNat:Int)>=97)then bif decide ((c.toNat:Int)<=122)then true else false else false)=false:=by
            by_cases q:(c.toNat:Int)>=97
            · by_cases C:(c.toNat:Int)<=122
              · exact absurd ⟨q,C⟩ u
              · simp[q,C]
            · simp[q]
          have g2:∀(Z:Type) (x y:Z),(bif decide ((c.toNat:Int)>=97)then bif decide ((c.toNat:Int)<=122)then x else y else y)=y:=by
            intro Z x y
            by_cases q:(c.toNat:Int)>=97
            · by_cases C:(c.toNat:Int)<=122
              · exact absurd ⟨q,C⟩ u
              · simp[q,C]
            · simp[q]
          rw[g2,if_neg u]
          by_cases J:(c.toNat:Int)=45
          · simp only[J,bne_self_eq_false,Ac]
            by_cases U:i=0
            · subst U
              simp[j,It]
            · by_cases h4:i+1=s.size
              · have:s.toList.drop (i+1)=[]:=G9 (by omega)
                have Q:(i:Int)=(s.size:Int)-1:=by omega
                have K:((s.size:Int)-1==0)=false:=by simp;omega
                simp only[Q,K,this,Kc]
                by_cases z:b=45<;>simp[z,It]
              · have Q:((i:Int)==(s.size:Int)-1)=false:=by simp;omega
                have K:((i:Int)==0)=false:=by simp;omega
                have W:(0:Int)<=(i:Int)-1:=by omega
                have e8:(i:Int)-1<(s.size:Int):=by omega
                have e9:((i:Int)-1).toNat=i-1:=by omega
                simp only[Q,K,W,e8,e9,Ac,decide_true,CD,AY];simp only[U,if_false]at j;rw[<-j]
                by_cases z:b=45
                · simp[z,It]
                · have Em:(b==45)=false:=beq_eq_false_iff_ne.2 z
                  rw[J]at a;rw[Em];simp only[Ac,B7,LF,ne_eq,not_true,false_or,z,if_false];rw[a];simp[show i+1<s.toList.length by omega]
          · have:((c.toNat:Int) != 45)=true:=by simp[J]
            simp[this,J,It])
    have:=key 0 45 (by omega) (by simp)
    refine this.trans ?_;simp[J1,show 0<s.toList.length by omega,O.2]
  · have AS:GJ (↑s.size) 1 14=false:=by
      simp[GJ];omega
    rw[AS];simp only[Bool.not_false,AY,J1]
    by_cases h:s.size<=14
    · have k:s.toList=[]:=by
        apply List.eq_nil_of_length_eq_zero;rw[NK];omega
      simp[k,Kc,It]
    · simp[h]
theorem Q8 (n A1 AA:Int):GJ n A1 AA = !Cx A1 AA [n]:=by
  simp only[GJ,K7,K8,Bool.or_false,Bool.not_or];congr 1<;>rw[<-decide_not,decide_eq_decide]<;>omega
def Qa (A1 AA:Int):Int->List AE->Int
  | e,[]=>e
  | e,s::l=>if Cx A1 AA [s.AK,s.A0]then 7 else Qa A1 AA (if s.AK>s.A0 then 2 else e) l
theorem tX (l:List AE) (A1 AA:Int) (hl:l.length<1000000):Wp l A1 AA=some (Qa A1 AA 0 l):=by
  unfold Wp;exact Is (QP A1 l AA) _ l.length (fun i (b:Int)=>(b,(i:Int))) (fun _ _=>True) (fun i b=>some (Qa A1 AA b (l.drop i)))
      (by
        intro b _ R;simp[QP,TI,Qa])
      (by
        intro i b c _ R d;simp only[QP,TI];rw[HO c];have e:=EH i (by omega)
        simp only[Cd,Dt _ _ _ c,Qa,e];rw[XC,XC,Q8,Q8];have g:decide ((i:Int)<↑l.length)=true:=by simp[c]
        have f:=ES i;simp only[g,f,CD,AY,B7];have a:Cx A1 AA [l[i].AK,l[i].A0]=(Cx A1 AA [l[i].AK]||Cx A1 AA [l[i].A0]):=by simp[Cx]
        rw[a];cases u:Cx A1 AA [l[i].AK]
        · cases q:Cx A1 AA [l[i].A0]
          · by_cases j:l[i].AK>l[i].A0
            · have:=d 2 trivial
              simp only[j];simp;simpa using this
            · have:=d b trivial
              simp only[j];simp;simpa using this
          · simp
        · simp) 0 0 (by omega) trivial
theorem Nw (a b:ByteArray):(a==b)=(a.data==b.data):=by cases a;cases b;rfl
instance:LawfulBEq ByteArray where
  rfl:=by intro a;rw[Nw];simp
  eq_of_beq:=by
    intro a b h;rw[Nw]at h;have:=eq_of_beq h;cases a;cases b;simp only at this;rw[this]
instance:DecidableEq ByteArray:=fun a b=>if h:(a==b)=true then isTrue (eq_of_beq h)else isFalse (fun e=>h (by rw[e];simp))
def JZ (s:ByteArray) (d:List ByteArray):Int:=if J1 s then(if s∈d then 5 else 0)else 6
theorem fL {a b:ByteArray} (h:a.toList=b.toList):a=b:=by
  cases a;cases b;simp only[ByteArray.toList_eq]at h;congr 1;exact Array.ext' h
theorem uV (s:ByteArray) (j:List ByteArray) (hl:j.length<1000000):TV s j=some (JZ s j):=by
  unfold TV JZ;rw[AiQ];simp only[B7];cases J1 s
  · simp
  · simp only[Bool.not_true,Ac,if_true]
    unfold fE;have key:=Is (OU s j) (fun u=>Option.bind (Sum.elim (fun q:Int=>some q) (fun _:Unit=>some (-1)) u) fun l=>bif decide (l>=0)then some (5:Int)else some 0) j.length (fun i (_:Unit)=>(i:Int)) (fun _ _=>True) (fun i _=>some (if s∈j.drop i then 5 else 0))
      (by
        intro b _ R;simp[OU,Sy])
      (by
        intro i b AA _ R f;have c:=f () trivial;simp only[OU,Sy];rw[HO AA];have d:=EH i (by omega)
        simp only[Cd,Dt _ _ _ AA,d];have g:decide ((i:Int)<↑j.length)=true:=by simp[AA]
        have e:=ES i;simp only[g,e,CD,AY]
        by_cases h:j[i]=s
        · simp[h]
        · have h':(j[i].toList==s.toList)=false:=by
            simp only[beq_eq_false_iff_ne];intro hh;exact h (fL hh)
          have a:¬s=j[i]:=fun hh=>h hh.symm;simp only[h',Ac,B7,LF,DK,a,false_or];exact c)
    have:=key 0 () (by omega) trivial
    simp only[List.drop_zero]at this;rw[<-this];show Option.bind (Option.bind _ _) _=Option.bind _ _;unfold eK;simp only[Int.natCast_zero];cases CC (OU s j) 0<;>rfl
end Nore
open Go Go.Ab
namespace Nore
end Nore
open Go Go.Ab
namespace Nore
def DV (L H:Nat->Int):Nat->AE:=fun j=>⟨L j,H j⟩
def Ee (f:Nat->AE) (k:Nat) (s:AE):Nat->AE:=fun j=>bif Nat.beq j k then s else f j
theorem wS (f:Nat->AE) (k:Nat) (s d:AE):(fun j=>bif Nat.beq j k then d else Ee f k s j)=Ee f k d:=by
  funext j;unfold Ee;cases Nat.beq j k<;>rfl
theorem wR (f:Nat->AE) (k:Nat) (s:AE):Ee f k s k=s:=by unfold Ee;simp
theorem vP (f:Nat->AE) {k j:Nat} (s:AE) (h:j≠k):Ee f k s j=f j:=by
  unfold Ee;cases e:Nat.beq j k with
  | false=>rfl
  | true=>exact absurd (Al e) h
def CX (AL:List AG):List (Nat×Nat):=AL.map fun s=>(s.from_.toNat,s.EJ.toNat)
def NU (AL:List AG):Prop:=AL.length<=1000/\∀s∈AL,0<=s.from_/\s.from_<s.EJ/\s.EJ<10
def Py (L:Nat->Int):Prop:=∀i,-1000000<=L i/\L i<=1000000
theorem AjD (L:Nat->Int) (p:Nat×Nat) (AP:List (Nat×Nat)) (i:Nat) (a:Int):Iw L (p::AP) i a=Iw L AP i (if p.2=i then(if L p.1+1>a then L p.1+1 else a)else a):=rfl
theorem AjE (H:Nat->Int) (p:Nat×Nat) (AP:List (Nat×Nat)) (i:Nat) (a:Int):Iy H (p::AP) i a=Iy H AP i (if p.1=i then(if H p.2-1<a then H p.2-1 else a)else a):=rfl
theorem vL (AL:List AG) (e:NU AL) (L H:Nat->Int) (Bn:Py L) (k:Nat) (r:k<10) (a:Int) (q : -1000000<=a/\a<=1000001) (C K:Int) (I:List AG) (J:AF) (z:Nat->AE) :
    W0 (AL.length:Int) C (k:Int) K (k:Int) I AL J z (0,Ee (DV L H) k ⟨a,H k⟩)=some (Ee (DV L H) k ⟨Iw L (CX AL) k a,H k⟩):=by
  obtain⟨w,n,m⟩:=Eo (Ql (AL.length:Int) C (k:Int) K (k:Int) I AL J z) AL.length (fun i (b:Nat->AE)=>((i:Int),b))
    (fun i b=>∃u,(-1000000<=u/\u<=1000001)/\b=Ee (DV L H) k ⟨u,H k⟩/\Iw L (CX (AL.drop i)) k u=Iw L (CX AL) k a) (fun w=>w=Ee (DV L H) k ⟨Iw L (CX AL) k a,H k⟩)
    (fun b ⟨u,_,hb,h⟩=>⟨_,by simp[Ql,Oe];rfl,by
      rw[hb,<-h,List.drop_length];rfl⟩)
    (fun i b AA ⟨u,l,hb,h⟩=>by
      right;have f:AL[i]∈AL:=Fx AA;obtain⟨M,Z,W⟩:=e.2 _ f;have g:AL.getD i ⟨0,0⟩=AL[i]:=Dt _ _ _ AA;have AS:decide ((i:Int)<(AL.length:Int))=true:=by simp;omega
      have U:=EH i (by have:=e.1;omega)
      have c:CX (AL.drop i)=(AL[i].from_.toNat,AL[i].EJ.toNat)::CX (AL.drop (i+1)):=by
        rw[HO AA];rfl
      rw[c,AjD]at h;simp only at h;simp only[Ql,Oe,AS,ES,CD,AY,Cd,g,U]
      by_cases ht:AL[i].EJ=(k:Int)
      · have hf:AL[i].from_.toNat≠k:=by omega
        have Aw:(AL[i].EJ==(k:Int))=true:=by simp[ht]
        have BS:decide ((k:Int)<(10:Int))=true:=by simp;omega
        have CK:Nat.blt k 10=true:=by simp[Nat.blt_eq];omega
        have Df:decide (0<=AL[i].from_)=true:=by simp[M]
        have El:decide (AL[i].from_<(10:Int))=true:=by simp;omega
        have O:Nat.blt AL[i].from_.toNat 10=true:=by rw[Nat.blt_eq];omega
        have hv:=Bn AL[i].from_.toNat;have p:(b AL[i].from_.toNat).AK=L AL[i].from_.toNat:=by rw[hb,vP _ _ hf];rfl
        have o:b k=⟨u,H k⟩:=by rw[hb,wR]
        have Q:IntKind.wrap .i64 (L AL[i].from_.toNat+1)=L AL[i].from_.toNat+1:=by rw[Bv]<;>omega
        simp only[Aw,BS,CK,Df,El,O,AY,CD,p,o,Q];have d:AL[i].EJ.toNat=k:=by omega
        rw[if_pos d]at h;refine⟨_,rfl,(if L AL[i].from_.toNat+1>u then L AL[i].from_.toNat+1 else u),by split<;>omega,?_,h⟩
        rw[hb,wS]
        by_cases hc:L AL[i].from_.toNat+1>u<;>simp[hc]
      · have Aw:(AL[i].EJ==(k:Int))=false:=GG ht
        simp only[Aw,Ac];have d:¬AL[i].EJ.toNat=k:=by omega
        rw[if_neg d]at h;exact⟨_,rfl,u,l,hb,h⟩) 0 _ (Nat.zero_le _) ⟨a,q,rfl,rfl⟩
  have j:W0 (AL.length:Int) C (k:Int) K (k:Int) I AL J z (0,Ee (DV L H) k ⟨a,H k⟩)=some w:=n;rw[j,m]
theorem Ajh (AL:List AG) (b:NU AL) (L H:Nat->Int) (Bn:Py L) (k:Nat) (c:k<10) (a:Int) (d : -1000000<=a/\a<=1000001) (j l:Int) (q:List AG) (i:AF) (e:Nat->AE) :
    cA (AL.length:Int) j (k:Int) l (k:Int) q AL i e (0,Ee (DV L H) k ⟨a,H k⟩)=some (Ee (DV L H) k ⟨Iw L (CX AL) k a,H k⟩) :=
  vL AL b L H Bn k c a d j l q i e
theorem vM (AL:List AG) (e:NU AL) (L H:Nat->Int) (p:Py H) (k:Nat) (s:k<10) (a:Int) (r : -1000001<=a/\a<=1000000) (C:Int) (I:List AG) (J:AF) (z:Nat->AE) :
    W2 AL C (AL.length:Int) (k:Int) I J z (0,Ee (DV L H) k ⟨L k,a⟩)=some (Ee (DV L H) k ⟨L k,Iy H (CX AL) k a⟩):=by
  obtain⟨w,n,m⟩:=Eo (Qn AL C (AL.length:Int) (k:Int) I J z) AL.length (fun i (b:Nat->AE)=>((i:Int),b))
    (fun i b=>∃u,(-1000001<=u/\u<=1000000)/\b=Ee (DV L H) k ⟨L k,u⟩/\Iy H (CX (AL.drop i)) k u=Iy H (CX AL) k a) (fun w=>w=Ee (DV L H) k ⟨L k,Iy H (CX AL) k a⟩)
    (fun b ⟨u,_,hb,h⟩=>⟨_,by simp[Qn,Of];rfl,by
      rw[hb,<-h,List.drop_length];rfl⟩)
    (fun i b AA ⟨u,l,hb,h⟩=>by
      right;have f:AL[i]∈AL:=Fx AA;obtain⟨W,U,Q⟩:=e.2 _ f;have g:AL.getD i ⟨0,0⟩=AL[i]:=Dt _ _ _ AA;have AS:decide ((i:Int)<(AL.length:Int))=true:=by simp;omega
      have O:=EH i (by have:=e.1;omega)
      have c:CX (AL.drop i)=(AL[i].from_.toNat,AL[i].EJ.toNat)::CX (AL.drop (i+1)):=by
        rw[HO AA];rfl
      rw[c,AjE]at h;simp only at h;simp only[Qn,Of,AS,ES,CD,AY,Cd,g,O]
      by_cases ht:AL[i].from_=(k:Int)
      · have hf:AL[i].EJ.toNat≠k:=by omega
        have Aw:(AL[i].from_==(k:Int))=true:=by simp[ht]
        have BS:decide ((k:Int)<(10:Int))=true:=by simp;omega
        have CK:Nat.blt k 10=true:=by simp[Nat.blt_eq];omega
        have Df:decide (0<=AL[i].EJ)=true:=by simp;omega
        have El:decide (AL[i].EJ<(10:Int))=true:=by simp;omega
        have K:Nat.blt AL[i].EJ.toNat 10=true:=by rw[Nat.blt_eq];omega
        have hv:=p AL[i].EJ.toNat;have q:(b AL[i].EJ.toNat).A0=H AL[i].EJ.toNat:=by rw[hb,vP _ _ hf];rfl
        have o:b k=⟨L k,u⟩:=by rw[hb,wR]
        have M:IntKind.wrap .i64 (H AL[i].EJ.toNat-1)=H AL[i].EJ.toNat-1:=by rw[Bv]<;>omega
        simp only[Aw,BS,CK,Df,El,K,AY,CD,q,o,M];have d:AL[i].from_.toNat=k:=by omega
        rw[if_pos d]at h;refine⟨_,rfl,(if H AL[i].EJ.toNat-1<u then H AL[i].EJ.toNat-1 else u),by split<;>omega,?_,h⟩
        rw[hb,wS]
        by_cases hc:H AL[i].EJ.toNat-1<u<;>simp[hc]
      · have Aw:(AL[i].from_==(k:Int))=false:=GG ht
        simp only[Aw,Ac];have d:¬AL[i].from_.toNat=k:=by omega
        rw[if_neg d]at h;exact⟨_,rfl,u,l,hb,h⟩) 0 _ (Nat.zero_le _) ⟨a,r,rfl,rfl⟩
  have j:W2 AL C (AL.length:Int) (k:Int) I J z (0,Ee (DV L H) k ⟨L k,a⟩)=some w:=n;rw[j,m]
theorem Ajj (AL:List AG) (b:NU AL) (L H:Nat->Int) (e:Py H) (k:Nat) (c:k<10) (a:Int) (d : -1000001<=a/\a<=1000000) (j:Int) (l:List AG) (q:AF) (i:Nat->AE) :
    cB AL j (AL.length:Int) (k:Int) l q i (0,Ee (DV L H) k ⟨L k,a⟩)=some (Ee (DV L H) k ⟨L k,Iy H (CX AL) k a⟩) :=
  vM AL b L H e k c a d j l q i
end Nore
open Go Go.Ab
namespace Nore
theorem xB (AL:List (Nat×Nat)) (L:Nat->Int) (a b:Int) (Bn:∀i,a<=L i/\L i<=b):∀(k j:Nat),a<=Ci AL k L j/\Ci AL k L j<=b+k
  | 0,j=>by
    have:=Bn j;show a<=L j/\L j<=b+((0:Nat):Int);omega
  | k+1,j=>by
    have ih:=xB AL L a b Bn k;unfold Ci;split
    · unfold WQ
      obtain⟨g,_⟩:=gK (Ci AL k L) k AL (if 0<k then(if Ci AL k L (k-1)>Ci AL k L k then Ci AL k L (k-1)else Ci AL k L k)else Ci AL k L k);have e:=ih k;have d:=ih (k-1);refine⟨Int.le_trans ?_ g,gL _ _ _ _ _ ?_ fun p _ _=>?_⟩
      · split
        · split<;>omega
        · omega
      · split
        · split<;>omega
        · omega
      · have:=ih p.1
        omega
    · have:=ih j
      omega
theorem wW (n:Nat) (AL:List (Nat×Nat)) (H:Nat->Int) (a b:Int) (c:∀i,a<=H i/\H i<=b):∀(k j:Nat),a-k<=Ch n AL k H j/\Ch n AL k H j<=b
  | 0,j=>by
    have:=c j;show a-((0:Nat):Int)<=H j/\H j<=b;omega
  | k+1,j=>by
    have ih:=wW n AL H a b c k;unfold Ch;split
    · unfold SJ
      obtain⟨g,_⟩:=gN (Ch n AL k H) (n-1-k) AL (if n-1-k+1<n then(if Ch n AL k H (n-1-k+1)<Ch n AL k H (n-1-k)then Ch n AL k H (n-1-k+1)else Ch n AL k H (n-1-k))else Ch n AL k H (n-1-k));have e:=ih (n-1-k);have d:=ih (n-1-k+1);refine⟨gM _ _ _ _ _ ?_ fun p _ _=>?_,Int.le_trans g ?_⟩
      · split
        · split<;>omega
        · omega
      · have:=ih p.2
        omega
      · split
        · split<;>omega
        · omega
    · have:=ih j
      omega
theorem wG (f:Nat->AE) (k:Nat):Ee f k (f k)=f:=by
  funext j;unfold Ee;cases e:Nat.beq j k with
  | false=>rfl
  | true=>rw[Al e];rfl
theorem w9 (AL:List (Nat×Nat)) (L H:Nat->Int) (i:Nat):Ee (DV (Ci AL i L) H) i ⟨WQ AL (Ci AL i L) i,H i⟩=DV (Ci AL (i+1) L) H:=by
  funext j;unfold Ee DV;cases e:Nat.beq j i with
  | false =>
    have:j≠i:=fun h=>by subst h;simp at e
    show(⟨Ci AL i L j,H j⟩:AE)=⟨if j=i then _ else _,H j⟩;rw[if_neg this]
  | true =>
    have:=Al e;subst this;show(⟨_,_⟩:AE)=⟨if j=j then _ else _,H j⟩;rw[if_pos rfl]
theorem AkC (n:Nat) (AL:List (Nat×Nat)) (L H:Nat->Int) (i:Nat):Ee (DV L (Ch n AL i H)) (n-1-i) ⟨L (n-1-i),SJ n AL (Ch n AL i H) (n-1-i)⟩=DV L (Ch n AL (i+1) H):=by
  funext j;unfold Ee DV;cases e:Nat.beq j (n-1-i)with
  | false =>
    have:j≠n-1-i:=fun h=>by subst h;simp at e
    show(⟨L j,Ch n AL i H j⟩:AE)=⟨L j,if j=n-1-i then _ else _⟩;rw[if_neg this]
  | true =>
    have:=Al e;subst this;show(⟨_,_⟩:AE)=⟨L (n-1-i),if n-1-i=n-1-i then _ else _⟩;rw[if_pos rfl]
theorem Ajg (AL:List AG) (c:NU AL) (L H:Nat->Int) (Bn:∀i,-900000<=L i/\L i<=900000) (n:Nat) (hn:n<=10) (q:Int) (z:AF) (u:Nat->AE) :
    WZ (n:Int) q AL z u (0,DV L H)=some (DV (Ci (CX AL) n L) H):=by
  obtain⟨w,l,h⟩:=Eo (Qk (n:Int) q AL z u) n (fun i (b:Nat->AE)=>((i:Int),b))
    (fun i b=>b=DV (Ci (CX AL) i L) H) (fun w=>w=DV (Ci (CX AL) n L) H)
    (fun b hb=>⟨b,by simp[Qk,Sg],hb⟩)
    (fun i b AA hb=>by
      right;have AS:decide ((i:Int)<(n:Int))=true:=by simp;omega
      have J:=EH i (by omega)
      have e:=xB (CX AL) L _ _ Bn i;have g:Py (Ci (CX AL) i L):=fun j=>by have:=e j;omega
      have m:=e i;simp only[Qk,Sg,AS,AY,J,Cd]
      by_cases C:0<i
      · have k:=e (i-1)
        have Aw:decide ((i:Int)>0)=true:=by simp;omega
        have BS:decide ((i:Int)<(10:Int))=true:=by simp;omega
        have CK:Nat.blt i 10=true:=by rw[Nat.blt_eq];omega
        have I:IntKind.wrap .i64 ((i:Int)-1)=((i-1:Nat):Int):=by rw[Bv]<;>omega
        have Df:decide (((i-1:Nat):Int)<(10:Int))=true:=by simp;omega
        have El:Nat.blt (i-1) 10=true:=by rw[Nat.blt_eq];omega
        simp only[Aw,BS,CK,I,Df,El,ES,Cd,CD,AY];have a:(fun j=>bif Nat.beq j i then(⟨bif decide ((b (i-1)).AK>(b i).AK)then(b (i-1)).AK else(b i).AK,(b i).A0⟩:AE)else b j)=Ee (DV (Ci (CX AL) i L) H) i ⟨if Ci (CX AL) i L (i-1)>Ci (CX AL) i L i then Ci (CX AL) i L (i-1)else Ci (CX AL) i L i,H i⟩:=by
          rw[hb];funext j;unfold Ee DV
          by_cases hc:Ci (CX AL) i L (i-1)>Ci (CX AL) i L i<;>simp[hc]
        rw[a,vL AL c _ H g i (by omega) _ (by split<;>omega)]
        refine⟨_,rfl,?_⟩;rw[<-w9];unfold WQ;rw[if_pos C]
      · have f:i=0:=by omega
        subst f;have Aw:decide (((0:Nat):Int)>0)=false:=rfl;simp only[Aw,Ac];have a:b=Ee (DV (Ci (CX AL) 0 L) H) 0 ⟨Ci (CX AL) 0 L 0,H 0⟩:=by
          rw[hb];exact(wG (DV (Ci (CX AL) 0 L) H) 0).symm
        rw[a,Ajh AL c _ H g 0 (by omega) _ (by omega)]
        refine⟨_,rfl,?_⟩;rw[<-w9];rfl) 0 _ (Nat.zero_le _) rfl
  have d:WZ (n:Int) q AL z u (0,DV L H)=some w:=l;rw[d,h]
theorem Aji (AL:List AG) (d:NU AL) (L H:Nat->Int) (q:∀i,-900000<=H i/\H i<=900000) (n:Nat) (hn:n<=10) (u:AF) (z:Nat->AE) :
    W1 (n:Int) AL u z ((n:Int)-1,DV L H)=some (DV L (Ch n (CX AL) n H)):=by
  obtain⟨w,h,m⟩:=Eo (Qm (n:Int) AL u z) n (fun i (b:Nat->AE)=>((n:Int)-1-i,b))
    (fun i b=>b=DV L (Ch n (CX AL) i H)) (fun w=>w=DV L (Ch n (CX AL) n H))
    (fun b hb=>⟨b,by
      have AS:decide ((n:Int)-1-(n:Int)>=0)=false:=by simp;omega
      simp only[Qm,Sh,AS,Ac],hb⟩)
    (fun i b AA hb=>by
      right;obtain⟨k,p⟩:∃k:Nat,k=n-1-i:=⟨_,rfl⟩;have e:(n:Int)-1-i=(k:Int):=by omega
      have AS:decide ((k:Int)>=0)=true:=by simp
      have J:=EH k (by omega)
      have I:IntKind.wrap .i64 ((k:Int)-1)=(n:Int)-1-((i+1:Nat):Int):=by rw[Bv]<;>omega
      have f:=wW n (CX AL) H _ _ q i;have l:Py (Ch n (CX AL) i H):=fun j=>by have:=f j;omega
      have o:=f k;have a:=AkC n (CX AL) L H i;rw[<-p]at a;unfold SJ at a;simp only[e,Qm,Sh,AS,AY,J,Cd,I]
      by_cases C:k+1<n
      · have r:=f (k+1)
        have Aw:decide (((k+1:Nat):Int)<(n:Int))=true:=by simp;omega
        have BS:decide ((k:Int)<(10:Int))=true:=by simp;omega
        have CK:Nat.blt k 10=true:=by rw[Nat.blt_eq];omega
        have Df:decide (((k+1:Nat):Int)<(10:Int))=true:=by simp;omega
        have El:Nat.blt (k+1) 10=true:=by rw[Nat.blt_eq];omega
        simp only[Aw,BS,CK,Df,El,ES,Cd,CD,AY];have c:(fun j=>bif Nat.beq j k then(⟨(b k).AK,bif decide ((b (k+1)).A0<(b k).A0)then(b (k+1)).A0 else(b k).A0⟩:AE)else b j)=Ee (DV L (Ch n (CX AL) i H)) k ⟨L k,if Ch n (CX AL) i H (k+1)<Ch n (CX AL) i H k then Ch n (CX AL) i H (k+1)else Ch n (CX AL) i H k⟩:=by
          rw[hb];funext j;unfold Ee DV
          by_cases hc:Ch n (CX AL) i H (k+1)<Ch n (CX AL) i H k<;>simp[hc]
        rw[c,vM AL d L _ l k (by omega) _ (by split<;>omega)]
        refine⟨_,rfl,?_⟩;rw[if_pos C]at a;exact a
      · have Aw:decide (((k+1:Nat):Int)<(n:Int))=false:=by simp;omega
        simp only[Aw,Ac];have c:b=Ee (DV L (Ch n (CX AL) i H)) k ⟨L k,Ch n (CX AL) i H k⟩:=by
          rw[hb];exact(wG (DV L (Ch n (CX AL) i H)) k).symm
        rw[c,Ajj AL d L _ l k (by omega) _ (by omega)]
        refine⟨_,rfl,?_⟩;rw[if_neg C]at a;exact a) 0 _ (Nat.zero_le _) rfl
  have Cu:(n:Int)-1-((0:Nat):Int)=(n:Int)-1:=by omega
  rw[Cu]at h;have g:W1 (n:Int) AL u z ((n:Int)-1,DV L H)=some w:=h;rw[g,m]
def LW (L H:Nat->Int) (AL:List AG):Da:=⟨L,H,CX AL⟩
theorem AjV (q:AF) (L H:Nat->Int) (AL:List AG) (g:NU AL) (Bn:∀i,-900000<=L i/\L i<=900000) (r:∀i,-900000<=H i/\H i<=900000) (hn:q.AQ.Entries.length<=10) :
    QB q (DV L H) AL=some (DV (ML q.AQ.Entries.length (LW L H AL)) (MK q.AQ.Entries.length (LW L H AL)),HQ q.AQ.Entries.length (LW L H AL)):=by
  rw[s4];unfold bW;generalize q.AQ.Entries.length=n at hn;have z:IntKind.wrap .i64 ((n:Int)-1)=(n:Int)-1:=by rw[Bv]<;>omega
  rw[Ajg AL g L H Bn n hn];simp only[B7,z];rw[Aji AL g _ H r n hn];have Aw:decide ((n:Int)<=(10:Int))=true:=by simp;omega
  simp only[B7,ES,Aw,CD,AY,Cd,List.drop_zero];have c:(List.map (DV (Ci (CX AL) n L) (Ch n (CX AL) n H)) (List.range 10)).take n=(List.range n).map (DV (ML n (LW L H AL)) (MK n (LW L H AL))):=by
    rw[<-List.map_take,List.take_range,Nat.min_eq_left hn];rfl
  rw[c];generalize C:ML n (LW L H AL)=A;generalize u:MK n (LW L H AL)=B;have a:((List.range n).map (DV A B)).length=n:=by simp
  obtain⟨w,t,p⟩:=Eo (Qo (n:Int) ((List.range n).map (DV A B))) n (fun i (_:Unit)=>(i:Int)) (fun i _=>∀j,j<i->A j<=B j)
    (fun w=>(∃j:Nat,w=.inl (j:Int)/\¬∀i,i<n->A i<=B i)\/(w=.inr ()/\∀i,i<n->A i<=B i))
    (fun _ h=>⟨.inr (),by simp[Qo,Si],.inr ⟨rfl,h⟩⟩)
    (fun i _ AA h=>by
      have AS:decide ((i:Int)<(n:Int))=true:=by simp;omega
      have l:((List.range n).map (DV A B)).getD i ⟨0,0⟩=⟨A i,B i⟩:=by
        rw[Dt _ _ _ (by rw[a];exact AA)]
        simp[DV]
      have z:=EH i (by omega)
      simp only[Qo,Si,AS,a,ES,CD,AY,Cd,l,z];rw[sQ];unfold bS;simp only[B7]
      by_cases hc:A i>B i
      · left
        exact⟨.inl (i:Int),by simp[hc],.inl ⟨i,rfl,fun k=>by have:=k i AA;omega⟩⟩
      · right
        refine⟨(),by simp[hc],fun j s=>?_⟩
        by_cases e:j=i
        · subst e;omega
        · exact h j (by omega)) 0 () (Nat.zero_le _) (fun j s=>by omega)
  have o:cC (n:Int) ((List.range n).map (DV A B)) 0=some w:=t;have d:Ci (CX AL) n L=A:=C;have b:Ch n (CX AL) n H=B:=u;rw[a,o,d,b];rcases p with⟨k,rfl,m⟩|⟨rfl,f⟩
  · have:HQ n (LW L H AL)=false:=by
      rw[Bool.eq_false_iff];intro h;rw[O9,C,u]at h;exact m h
    rw[this];simp
  · have:HQ n (LW L H AL)=true:=by
      rw[O9,C,u];exact f
    rw[this];simp
end Nore
open Go Go.Ab
namespace Nore
def Zc (l:List Int) (i:Nat):Int:=l.getD i 0
structure AAR (n:Nat) (c:Da) (A B:Nat->Int) (A1 AA:List Int):Prop where
  AAU:A1.length=n
  Ado:AA.length=n
  JN:∀i,i<n->c.A1 i<=Zc A1 i/\Zc A1 i<=A i/\B i<=Zc AA i/\Zc AA i<=c.AA i
end Nore
open Go Go.Ab
namespace Nore
end Nore
open Go Go.Ab
namespace Nore
end Nore
open Go Go.Ab
namespace Nore
def J3 (dev st:Int):List AN->Nat->Int->Int->List Wo
  | [],i,d,B0=>if d=st then [⟨B0,i⟩]else []
  | x::xs,i,d,B0=>if x.Device=dev then(if d=st then [⟨B0,i⟩]else [])++J3 dev st xs (i+1) x.State i else J3 dev st xs (i+1) d B0
theorem T6 (dev st:Int) (i:Nat) (d B0:Int):J3 dev st [] i d B0=if d=st then [⟨B0,i⟩]else []:=rfl
theorem T5 (dev st:Int) (x:AN) (xs:List AN) (i:Nat) (d B0:Int):J3 dev st (x::xs) i d B0=if x.Device=dev then(if d=st then [⟨B0,i⟩]else [])++J3 dev st xs (i+1) x.State i else J3 dev st xs (i+1) d B0:=rfl
theorem XS {c d:Da} (g:∀i,c.A1 i=d.A1 i) (f:∀i,c.AA i=d.AA i) (h:c.AL=d.AL):c=d:=by
  obtain⟨a,b,e⟩:=c;obtain⟨j,l,e'⟩:=d;have g:a=j:=funext g;have f:b=l:=funext f;simp only at h;rw[g,f,h]
end Nore
open Go Go.Ab
namespace Nore
end Nore
open Go Go.Ab
namespace Nore
theorem Akn {σ ω:Type} {st d:σ->Option (σ⊕ω)} (h:∀s x,st s=some x->d s=some x) {s:σ} {w:ω} (AH:CC st s=some w):CC d s=some w:=by
  rw[NV]at AH⊢
  induction AH with
  | done e=>exact .done (h _ _ e)
  | next e _ ih=>exact .next (h _ _ e) ih
theorem vX {α β:Type} {t:(α->Option β)->α->Option β} (ht:∀f g:α->Option β,(∀x r,f x=some r->g x=some r)->∀x r,t f x=some r->t g x=some r) :
    ∀(n:Nat) (x:α) (r:β),IA t n x=some r->IA t (n+1) x=some r
  | 0,_,_,h=>by cases h
  | n+1,x,r,h=>ht _ _ (vX ht n) x r h
theorem SA {α β:Type} {t:(α->Option β)->α->Option β} (ht:∀f g:α->Option β,(∀x r,f x=some r->g x=some r)->∀x r,t f x=some r->t g x=some r) (n:Nat) :
    ∀(k:Nat) (x:α) (r:β),IA t n x=some r->IA t (n+k) x=some r
  | 0,_,_,h=>h
  | k+1,x,r,h=>vX ht (n+k) x r (SA ht n k x r h)
theorem wA {α β:Type} {t:(α->Option β)->α->Option β} (ht:∀f g:α->Option β,(∀x r,f x=some r->g x=some r)->∀x r,t f x=some r->t g x=some r) {n:Nat} {x:α} {r:β} (h:IA t n x=some r):Mg t x=some r:=by
  refine Aoo (fun m q b=>?_) ⟨n,r,h⟩;have c:=SA ht n m x r h;have a:=SA ht m n x q b;rw[Nat.add_comm]at a;rw[c]at a;exact(Option.some.inj a).symm
theorem XU (dev st:Int) (n:Nat):∀(e:List AN) (i:Nat) (d B0:Int),i+e.length=n -> -1<=B0->B0<i->((J3 dev st e i d B0).length<=e.length+1)/\∀s∈J3 dev st e i d B0,-1<=s.from_/\s.from_<s.EJ/\s.EJ<=n
  | [],i,d,B0,h,l,z=>by
    simp only[List.length_nil,Nat.add_zero]at h;rw[T6];split
    · refine⟨by simp,fun s hs=>?_⟩
      rw[List.mem_singleton.1 hs];simp only;omega
    · exact⟨by simp,fun s hs=>by cases hs⟩
  | x::xs,i,d,B0,h,l,z=>by
    simp only[List.length_cons]at h;rw[T5];split
    · obtain⟨u,j⟩:=XU dev st n xs (i+1) x.State i (by omega) (by omega) (by omega)
      split
      · refine⟨by simp only[List.length_append,List.length_cons,List.length_nil];omega,fun s hs=>?_⟩
        rcases List.mem_append.1 hs with q|q
        · rw[List.mem_singleton.1 q]
          simp only;omega
        · exact j s q
      · refine⟨by simp only[List.nil_append,List.length_cons];omega,fun s hs=>j s (by simpa using hs)⟩
    · obtain⟨u,j⟩:=XU dev st n xs (i+1) d B0 (by omega) l (by omega)
      exact⟨by simp only[List.length_cons];omega,j⟩
end Nore
open Go Go.Ab
namespace Nore
def Qs (r:AQ) (x:Aa):List Wo:=J3 x.Device x.State r.Entries 0 (r.Au.getD x.Device.toNat ⟨ByteArray.empty,0,0⟩).FB (-1)
def H9 (s:Wo):LQ:=(s.from_,s.EJ.toNat)
def Fm (r:AQ) (x:Aa):MH:=⟨(Qs r x).map H9,x.At.AK,x.At.A0⟩
structure NP (r:AQ) (x:Aa):Prop where
  dev:0<=x.Device/\x.Device<r.Au.length
  A1 : -900000<=x.At.AK/\x.At.AK<900000
  AA : -900000<=x.At.A0/\x.At.A0<=900000
theorem Ako {r:AQ} (x:Aa) {n:Nat} (hn:r.Entries.length=n):(Qs r x).length<=n+1/\∀s∈Qs r x,0<=s.EJ/\NQ n (H9 s):=by
  obtain⟨a,b⟩:=XU x.Device x.State n r.Entries 0 (r.Au.getD x.Device.toNat ⟨ByteArray.empty,0,0⟩).FB (-1) (by omega) (by omega) (by omega)
  rw[hn]at a;refine⟨a,fun s hs=>?_⟩;have:=b s hs;unfold NQ H9;simp only;omega
end Nore
open Go Go.Ab
namespace Nore
end Nore
open Go Go.Ab
namespace Nore
def XW (r:AQ):Prop:=r.Entries.length<=10/\∀x∈r.Entries,-900000<=x.At.AK/\x.At.AK<=900000 /\ -900000<=x.At.A0/\x.At.A0<=900000
end Nore
open Go Go.Ab
namespace Nore
def HC {β:Type} (a b:Option β):Prop:=∀r,a=some r->b=some r
theorem HC.same {β:Type} (a:Option β):HC a a:=fun _ h=>h
theorem HC.cond {β:Type} {c:Bool} {a i b j:Option β} (d:HC a i) (e:HC b j):HC (bif c then a else b) (bif c then i else j):=by
  cases c
  · exact e
  · exact d
theorem HC.bind {α β:Type} {o o':Option α} {k k':α->Option β} (b:HC o o') (c:∀a,HC (k a) (k' a)):HC (o.bind k) (o'.bind k'):=fun r h=>by
  cases o with
  | none=>cases h
  | some a=>rw[b a rfl];exact c a r h
theorem HC.run {σ ω:Type} {st d:σ->Option (σ⊕ω)} (h:∀s,HC (st s) (d s)) (s:σ):HC (CC st s) (CC d s):=fun _ AH=>Akn h AH
theorem AiM (f g:((Nat->AE)×Int×(List AG)×AF×Bool×AF×AF)->Option ((Bool×AF×Bool×AF×AF)⊕(Bool×AF×Bool×AF×AF))) (h:∀x,HC (f x) (g x)) (x):HC (NL f x) (NL g x):=by
  unfold NL Qw;refine .bind (.same _) fun a=>.cond (.same _) (.cond (.same _) (.cond (.cond (.cond (.cond (.bind ?_ fun _=>.same _) (.same _)) (.same _)) (.same _)) (.same _)));unfold XV;refine HC.run (fun s=>?_) _;unfold Qr NH;dsimp only
  repeat' (first|with_reducible exact HC.same _|with_reducible exact HC.bind (h _) fun _=>HC.same _|with_reducible apply HC.cond)
end Nore
open Go Go.Ab
namespace Nore
def FZ (u:Nat->AE) (AL:List AG):Da:=LW (fun j=>(u j).AK) (fun j=>(u j).A0) AL
def JY (u:Nat->AE):Prop:=∀i,-900000<=(u i).AK/\(u i).AK<=900000 /\ -900000<=(u i).A0/\(u i).A0<=900000
def JX (n k:Nat) (AL:List AG):Prop:=AL.length<=k/\∀s∈AL,0<=s.from_/\s.from_<s.EJ/\s.EJ<n
theorem JX.JN {n k:Nat} {AL:List AG} (h:JX n k AL) (hn:n<=10) (a:k<=1000):NU AL:=⟨Nat.le_trans h.1 a,fun s hs=>by have:=h.2 s hs;omega⟩
theorem JX.Cs {n k:Nat} {AL:List AG} (h:JX n k AL):JX n (k+1) AL:=⟨Nat.le_succ_of_le h.1,h.2⟩
theorem JX.add {n k:Nat} {AL:List AG} (h:JX n k AL) {f t:Nat} (b:f<t) (a:t<n):JX n (k+1) (AL++[⟨(f:Int),(t:Int)⟩]) :=
  ⟨by rw[List.length_append,List.length_singleton];exact Nat.succ_le_succ h.1,fun s hs=>by
    rcases List.mem_append.1 hs with q|q
    · exact h.2 s q
    · rw[List.mem_singleton.1 q];simp only;omega⟩
theorem vQ (q:AF) (u:Nat->AE) (AL:List AG) {k:Nat} (a:JY u) (b:JX q.AQ.Entries.length k AL) (c:k<=1000) (hn:q.AQ.Entries.length<=10) :
    QB q u AL=some (DV (ML q.AQ.Entries.length (FZ u AL)) (MK q.AQ.Entries.length (FZ u AL)),HQ q.AQ.Entries.length (FZ u AL)) :=
  AjV q (fun j=>(u j).AK) (fun j=>(u j).A0) AL (b.JN hn c) (fun i=>⟨(a i).1,(a i).2.1⟩) (fun i=>⟨(a i).2.2.1,(a i).2.2.2⟩) hn
def Ka (u:Nat->AE) (f:Nat) (b:Int):Nat->AE:=fun j=>bif Nat.beq j f then AE.mk (u f).AK (bif decide (b<(u f).A0)then b else(u f).A0)else u j
def Kb (u:Nat->AE) (t:Nat) (a:Int):Nat->AE:=fun j=>bif Nat.beq j t then AE.mk (bif decide (a>(u t).AK)then a else(u t).AK) (u t).A0 else u j
theorem XQ (u:Nat->AE) (f:Nat) (b:Int) (j:Nat):(Ka u f b j).AK=(u j).AK:=by
  unfold Ka;cases e:Nat.beq j f with
  | true=>rw[Al e];rfl
  | false=>rfl
theorem fZ (u:Nat->AE) (f:Nat) (b:Int) (j:Nat):(Ka u f b j).A0=if j=f then(if b<(u f).A0 then b else(u f).A0)else(u j).A0:=by
  unfold Ka;cases e:Nat.beq j f with
  | true =>
    rw[if_pos (Al e)]
    by_cases c:b<(u f).A0<;>simp[c]
  | false=>rw[if_neg (Nat.ne_of_beq_eq_false e)];rfl
theorem gA (u:Nat->AE) (f:Nat) (b:Int) (j:Nat):(Kb u f b j).A0=(u j).A0:=by
  unfold Kb;cases e:Nat.beq j f with
  | true=>rw[Al e];rfl
  | false=>rfl
theorem gB (u:Nat->AE) (f:Nat) (b:Int) (j:Nat):(Kb u f b j).AK=if j=f then(if b>(u f).AK then b else(u f).AK)else(u j).AK:=by
  unfold Kb;cases e:Nat.beq j f with
  | true =>
    rw[if_pos (Al e)]
    by_cases c:b>(u f).AK<;>simp[c]
  | false=>rw[if_neg (Nat.ne_of_beq_eq_false e)];rfl
theorem JY.AA {u:Nat->AE} (h:JY u) (f:Nat) {b:Int} (hb : -900000<=b/\b<=900000):JY (Ka u f b):=fun i=>by
  rw[XQ,fZ];have a:=h i;have c:=h f;refine⟨a.1,a.2.1,?_⟩;split
  · split<;>omega
  · exact a.2.2
theorem JY.A1 {u:Nat->AE} (h:JY u) (f:Nat) {b:Int} (hb : -900000<=b/\b<=900000):JY (Kb u f b):=fun i=>by
  rw[gB,gA];have a:=h i;have c:=h f;refine⟨?_,?_,a.2.2⟩
  · split
    · split<;>omega
    · exact a.1
  · split
    · split<;>omega
    · exact a.2.1
theorem AjU (AL:List AG) (f t:Nat):CX (AL++[⟨(f:Int),(t:Int)⟩])=CX AL++[(f,t)]:=by
  unfold CX;rw[List.map_append];rfl
theorem Ajw (u:Nat->AE) (AL:List AG) {n f t:Nat} (ht:t<n) (a b:Int):FZ (Kb (Ka u f b) t (a+1)) (AL++[⟨(f:Int),(t:Int)⟩])=En n (FZ u AL) ((f:Int),t) a b:=by
  refine XS (fun i=>?_) (fun i=>?_) ?_
  · show(Kb (Ka u f b) t (a+1) i).AK=if t<n/\i=t then(if a+1>(u i).AK then a+1 else(u i).AK)else(u i).AK
    rw[gB,XQ,XQ]
    by_cases e:i=t
    · subst e;simp[ht]
    · rw[if_neg e,if_neg fun h=>e h.2]
  · show(Kb (Ka u f b) t (a+1) i).A0=if 0<=(f:Int)/\i=(f:Int).toNat then(if b<(u i).A0 then b else(u i).A0)else(u i).A0
    rw[gA,fZ,Cd]
    by_cases e:i=f
    · subst e;simp
    · rw[if_neg e,if_neg fun h=>e h.2]
  · show CX (AL++[⟨(f:Int),(t:Int)⟩])=if 0<=(f:Int)/\t<n then CX AL++[((f:Int).toNat,t)]else CX AL
    rw[if_pos ⟨by omega,ht⟩,AjU,Cd]
theorem Akt (u:Nat->AE) (AL:List AG) {n f t:Nat} (ht:¬t<n) (a b:Int):FZ (Ka u f b) AL=En n (FZ u AL) ((f:Int),t) a b:=by
  refine XS (fun i=>?_) (fun i=>?_) ?_
  · show(Ka u f b i).AK=if t<n/\i=t then(if a+1>(u i).AK then a+1 else(u i).AK)else(u i).AK
    rw[XQ,if_neg fun h=>ht h.1]
  · show(Ka u f b i).A0=if 0<=(f:Int)/\i=(f:Int).toNat then(if b<(u i).A0 then b else(u i).A0)else(u i).A0
    rw[fZ,Cd]
    by_cases e:i=f
    · subst e;simp
    · rw[if_neg e,if_neg fun h=>e h.2]
  · show CX AL=if 0<=(f:Int)/\t<n then CX AL++[((f:Int).toNat,t)]else CX AL
    rw[if_neg fun h=>ht h.2]
theorem Aku (u:Nat->AE) (AL:List AG) {n t:Nat} {B0:Int} (hf:¬0<=B0) (ht:t<n) (a b:Int):FZ (Kb u t (a+1)) AL=En n (FZ u AL) (B0,t) a b:=by
  refine XS (fun i=>?_) (fun i=>?_) ?_
  · show(Kb u t (a+1) i).AK=if t<n/\i=t then(if a+1>(u i).AK then a+1 else(u i).AK)else(u i).AK
    rw[gB]
    by_cases e:i=t
    · subst e;simp[ht]
    · rw[if_neg e,if_neg fun h=>e h.2]
  · show(Kb u t (a+1) i).A0=if 0<=B0/\i=B0.toNat then(if b<(u i).A0 then b else(u i).A0)else(u i).A0
    rw[gA,if_neg fun h=>hf h.1]
  · show CX AL=if 0<=B0/\t<n then CX AL++[(B0.toNat,t)]else CX AL
    rw[if_neg fun h=>hf h.1]
theorem Akv (u:Nat->AE) (AL:List AG) {n t:Nat} {B0:Int} (hf:¬0<=B0) (ht:¬t<n) (a b:Int):FZ u AL=En n (FZ u AL) (B0,t) a b:=by
  refine XS (fun i=>?_) (fun i=>?_) ?_
  · show(u i).AK=if t<n/\i=t then(if a+1>(u i).AK then a+1 else(u i).AK)else(u i).AK
    rw[if_neg fun h=>ht h.1]
  · show(u i).A0=if 0<=B0/\i=B0.toNat then(if b<(u i).A0 then b else(u i).A0)else(u i).A0
    rw[if_neg fun h=>hf h.1]
  · show CX AL=if 0<=B0/\t<n then CX AL++[(B0.toNat,t)]else CX AL
    rw[if_neg fun h=>hf h.1]
def L0 (n:Nat) (dev st:Int) (E:List AN) (i:Nat) (d B0:Int):List Wo:=if i<=n then J3 dev st (E.drop i) i d B0 else []
theorem fX (n:Nat) (dev st:Int) (E:List AN) (d B0:Int):L0 n dev st E (n+1) d B0=[]:=if_neg (by omega)
theorem AjM {n:Nat} {E:List AN} (hE:E.length=n) (dev st:Int) {i:Nat} (AA:i<n+1) (e B0:Int) {X:AN} (hX:(E++[AN.mk dev (-1) (AE.mk 0 0)]).getD i (AN.mk 0 0 (AE.mk 0 0))=X) :
    L0 n dev st E i e B0=if X.Device=dev then(if e=st then [⟨B0,i⟩]else [])++L0 n dev st E (i+1) X.State i else L0 n dev st E (i+1) e B0:=by
  by_cases h:i<n
  · have b:X=E[i]:=by
      rw[<-hX,Dt _ _ _ (by rw[List.length_append,List.length_singleton];omega),List.getElem_append_left (by omega)]
    have d:i<=n:=by omega
    have c:i+1<=n:=by omega
    simp only[L0,d,c,if_true];rw[HO (by omega),T5,<-b]
  · have a:i=n:=by omega
    subst a;have b:X=AN.mk dev (-1) (AE.mk 0 0):=by
      rw[<-hX,Dt _ _ _ (by rw[List.length_append,List.length_singleton];omega),List.getElem_append_right (by omega)]
      simp
    rw[fX,fX,b,if_pos rfl];unfold L0;rw[if_pos (Nat.le_refl _),G9 (by omega),T6,jp]
def Ke (q:AF) (L:List Da):(Bool×AF×Bool×AF×AF)⊕(Bool×AF×Bool×AF×AF) :=
  if L.isEmpty then .inl (true,q,false,q,q)else .inr (false,q,true,q,q)
theorem Aj4 (n:Nat) (c:Da):Ef n [] c=if HQ n c then [gO n c]else []:=rfl
theorem Ajf (n:Nat) (w:MH) (d:List MH) (c:Da):Ef n (w::d) c=if HQ n c then w.strs.flatMap fun s=>Ef n d (En n c s w.a w.b)else []:=rfl
theorem fG (q:AF) (n:Nat) (hn:q.AQ.Entries.length=n) (a1:n<=10) (h8:q.seen.length<=8) (hs:∀x∈q.seen,NP q.AQ x)
    (W:((Nat->AE)×Int×(List AG)×AF×Bool×AF×AF)->Option ((Bool×AF×Bool×AF×AF)⊕(Bool×AF×Bool×AF×AF))) (l:List Aa) (k:Nat) (hk:k+l.length=q.seen.length) (hd:q.seen.drop k=l)
    (ih:∀x l',l=x::l'->k+1+l'.length=q.seen.length->q.seen.drop (k+1)=l'->∀(u:Nat->AE) (AL:List AG),JY u->JX n (k+1) AL->∀c,FZ u AL=c->W (u,((k+1:Nat):Int),AL,q,false,q,q)=some (Ke q (Ef n (l'.map (Fm q.AQ)) c)))
    (u:Nat->AE) (AL:List AG) (p:JY u) (a:JX n k AL) (c:Da) (hc:FZ u AL=c) :
    Qw W u (k:Int) AL q false q q=some (Ke q (Ef n (l.map (Fm q.AQ)) c)):=by
  cases l with
  | nil =>
    have h:=vQ q u AL p (hn▸a) (by omega) (by omega)
    rw[hn,hc]at h;unfold Qw;simp only[h,B7,List.map_nil,Aj4];have Aw:((k:Int)==(q.seen.length:Int))=true:=by simp only[List.length_nil,Nat.add_zero]at hk;simp[hk]
    cases HQ n c with
    | false=>rfl
    | true=>simp only[Bool.not_true,Ac,Aw,AY];rfl
  | cons x l =>
    simp only[List.length_cons]at hk;have h:=vQ q u AL p (hn▸a) (by omega) (by omega)
    rw[hn,hc]at h;have o:k<q.seen.length:=by omega
    have d:q.seen.drop k=q.seen[k]::q.seen.drop (k+1):=HO o;rw[hd]at d;injection d with hx hl
    have g:NP q.AQ x:=hs x (hx▸Fx o);have z:q.seen.getD k (Aa.mk 0 0 (AE.mk 0 0))=x:=by rw[Dt _ _ _ o,<-hx]
    have j:=ih x l rfl (by omega) hl.symm
    unfold Qw;simp only[h,B7,DU];show _=some (Ke q (Ef n (Fm q.AQ x::l.map (Fm q.AQ)) c));rw[Ajf];cases a3:HQ n c with
    | false=>rfl
    | true =>
      have Aw:((k:Int)==(q.seen.length:Int))=false:=GG (by omega)
      have BS:decide ((k:Int)<(q.seen.length:Int))=true:=by simp;omega
      have CK:decide (0<=x.Device)=true:=by simp[g.dev.1]
      have Df:decide (x.Device<(q.AQ.Au.length:Int))=true:=by simp[g.dev.2]
      have El:Nat.ble (n*(32+1)) 100000000000000=true:=by rw[Nat.ble_eq];omega
      have c6:Nat.ble ((n+1)*(32+1)) 200000000000000=true:=by rw[Nat.ble_eq];omega
      have c7:Nat.blt 0 4=true:=rfl;have r:(q.AQ.Entries++[AN.mk x.Device (-1) (AE.mk 0 0)]).length=n+1:=by rw[List.length_append,List.length_singleton,hn]
      simp only[Bool.not_true,Ac,Aw,BS,CK,Df,hn,El,List.length_singleton,c6,c7,ES,CD,AY,Cd,z,if_true,r];unfold XV;refine Eq.trans (Is _ _ (n+1) (fun i (b:Int×AG)=>((i:Int),b.1,b.2,q,false,q,q)) (fun i b => -1<=b.2.from_/\b.2.from_<i)
        (fun i b=>some (Ke q ((L0 n x.Device x.State q.AQ.Entries i b.1 b.2.from_).flatMap fun s=>Ef n (l.map (Fm q.AQ)) (En n c (H9 s) x.At.AK x.At.A0)))) ?_ ?_ 0
        ((q.AQ.Au.getD x.Device.toNat ⟨ByteArray.empty,0,0⟩).FB,⟨-1,0⟩) (by omega) ⟨by simp,by simp⟩) ?_
      · intro b hP R
        have AS:decide (((n+1:Nat):Int)<((n+1:Nat):Int))=false:=by simp
        simp only[Qr,NH,AS,Ac,fX];rfl
      · intro i b AA hP R hR
        obtain⟨J,s⟩:=b;obtain⟨t,a0⟩:=hP;simp only at t a0;generalize hX:(q.AQ.Entries++[AN.mk x.Device (-1) (AE.mk 0 0)]).getD i (AN.mk 0 0 (AE.mk 0 0))=X;simp only;rw[AjM hn x.Device x.State AA J s.from_ hX];have AS:decide ((i:Int)<((n+1:Nat):Int))=true:=by simp;omega
        have e3:Nat.blt i (n+1)=true:=by rw[Nat.blt_eq];exact AA
        have w1:=EH i (by omega)
        have w2:=EH k (by omega)
        have w3:IntKind.wrap .i64 (x.At.AK+1)=x.At.AK+1:=by have:=g.A1;rw[Bv]<;>omega
        have a4:=a.1;have b1:Nat.ble (AL.length*(16+1)) 100000000000000=true:=by rw[Nat.ble_eq];omega
        have b2:Nat.ble ((AL.length+1)*(16+1)) 200000000000000=true:=by rw[Nat.ble_eq];omega
        have b3:Nat.blt 0 2=true:=rfl;have a2:=g.A1;have v:=g.AA;simp only[Qr,NH,r,AS,e3,ES,CD,AY,Cd,w1,w2,w3,hX,hn,b1,b2,b3,List.length_singleton]
        by_cases K:X.Device=x.Device
        · have d1:(X.Device != x.Device)=false:=by simp[K]
          simp only[d1,Ac];rw[if_pos K]
          by_cases C:J=x.State
          · have d2:(J==x.State)=true:=by simp[C]
            simp only[d2,AY];rw[if_pos C,List.singleton_append,List.flatMap_cons];generalize O:((L0 n x.Device x.State q.AQ.Entries (i+1) X.State (i:Int)).flatMap fun s=>Ef n (l.map (Fm q.AQ)) (En n c (H9 s) x.At.AK x.At.A0))=M;have m:R (((i+1:Nat):Int),X.State,AG.mk (i:Int) (i:Int),q,false,q,q)=some (Ke q M):=by
              rw[<-O];exact hR (X.State,⟨(i:Int),(i:Int)⟩) ⟨by simp only;omega,by simp only;omega⟩
            show _=some (Ke q (Ef n (l.map (Fm q.AQ)) (En n c (s.from_,(i:Int).toNat) x.At.AK x.At.A0)++M));rw[Cd]
            by_cases hf:0<=s.from_
            · obtain⟨f,w⟩:=Int.eq_ofNat_of_zero_le hf
              have Z:decide ((f:Int)>=0)=true:=by simp
              have f2:decide ((f:Int)<(10:Int))=true:=by simp;omega
              have f3:Nat.blt f 10=true:=by rw[Nat.blt_eq];omega
              by_cases I:i<n
              · have U:decide ((i:Int)<(n:Int))=true:=by simp;omega
                have g2:decide ((i:Int)<(10:Int))=true:=by simp;omega
                have g3:Nat.blt i 10=true:=by rw[Nat.blt_eq];omega
                simp only[w,Z,f2,f3,U,g2,g3,ES,Cd,CD,AY];rw[j _ _ ?b1h1 ?b1h2 (En n c ((f:Int),i) x.At.AK x.At.A0) ?b1h3]
                case b1h1=>exact(p.AA f v).A1 i (by omega)
                case b1h2=>exact a.add (by omega) I
                case b1h3=>rw[<-hc];exact Ajw u AL I x.At.AK x.At.A0
                generalize Ef n (l.map (Fm q.AQ)) (En n c ((f:Int),i) x.At.AK x.At.A0)=Q;cases Q with
                | nil=>exact m
                | cons y ys=>rfl
              · have U:decide ((i:Int)<(n:Int))=false:=by simp;omega
                simp only[w,Z,f2,f3,U,ES,Cd,CD,AY,Ac];rw[j _ _ ?b2h1 ?b2h2 (En n c ((f:Int),i) x.At.AK x.At.A0) ?b2h3]
                case b2h1=>exact p.AA f v
                case b2h2=>exact a.Cs
                case b2h3=>rw[<-hc];exact Akt u AL I x.At.AK x.At.A0
                generalize Ef n (l.map (Fm q.AQ)) (En n c ((f:Int),i) x.At.AK x.At.A0)=Q;cases Q with
                | nil=>exact m
                | cons y ys=>rfl
            · have Z:decide (s.from_>=0)=false:=by simp;omega
              by_cases I:i<n
              · have U:decide ((i:Int)<(n:Int))=true:=by simp;omega
                have g2:decide ((i:Int)<(10:Int))=true:=by simp;omega
                have g3:Nat.blt i 10=true:=by rw[Nat.blt_eq];omega
                simp only[Z,U,g2,g3,ES,Cd,CD,AY,Ac];rw[j _ _ ?b3h1 ?b3h2 (En n c (s.from_,i) x.At.AK x.At.A0) ?b3h3]
                case b3h1=>exact p.A1 i (by omega)
                case b3h2=>exact a.Cs
                case b3h3=>rw[<-hc];exact Aku u AL hf I x.At.AK x.At.A0
                generalize Ef n (l.map (Fm q.AQ)) (En n c (s.from_,i) x.At.AK x.At.A0)=Q;cases Q with
                | nil=>exact m
                | cons y ys=>rfl
              · have U:decide ((i:Int)<(n:Int))=false:=by simp;omega
                simp only[Z,U,ES,Cd,CD,AY,Ac];rw[j _ _ ?b4h1 ?b4h2 (En n c (s.from_,i) x.At.AK x.At.A0) ?b4h3]
                case b4h1=>exact p
                case b4h2=>exact a.Cs
                case b4h3=>rw[<-hc];exact Akv u AL hf I x.At.AK x.At.A0
                generalize Ef n (l.map (Fm q.AQ)) (En n c (s.from_,i) x.At.AK x.At.A0)=Q;cases Q with
                | nil=>exact m
                | cons y ys=>rfl
          · have d2:(J==x.State)=false:=GG C
            simp only[d2,Ac];rw[if_neg C,List.nil_append];exact hR (X.State,⟨(i:Int),(i:Int)⟩) ⟨by simp only;omega,by simp only;omega⟩
        · have d1:(X.Device != x.Device)=true:=HH K
          simp only[d1,AY];rw[if_neg K];exact hR (J,s) ⟨t,by simp only;omega⟩
      · simp only[if_true]
        show some (Ke q ((L0 n x.Device x.State q.AQ.Entries 0 (q.AQ.Au.getD x.Device.toNat ⟨ByteArray.empty,0,0⟩).FB (-1)).flatMap fun s=>Ef n (l.map (Fm q.AQ)) (En n c (H9 s) x.At.AK x.At.A0)))=_;have e:L0 n x.Device x.State q.AQ.Entries 0 (q.AQ.Au.getD x.Device.toNat ⟨ByteArray.empty,0,0⟩).FB (-1)=Qs q.AQ x:=if_pos (Nat.zero_le _);rw[e];show _=some (Ke q (((Qs q.AQ x).map H9).flatMap fun s=>Ef n (l.map (Fm q.AQ)) (En n c s x.At.AK x.At.A0)));rw[List.flatMap_map]
theorem uZ (q:AF) (n:Nat) (hn:q.AQ.Entries.length=n) (a:n<=10) (b:q.seen.length<=8) (hs:∀x∈q.seen,NP q.AQ x) :
    ∀(l:List Aa) (k:Nat),k+l.length=q.seen.length->q.seen.drop k=l->∀(u:Nat->AE) (AL:List AG),JY u->JX n k AL->∀c,FZ u AL=c →
      IA NL (l.length+1) (u,(k:Int),AL,q,false,q,q)=some (Ke q (Ef n (l.map (Fm q.AQ)) c))
  | [],k,j,C,u,AL,z,i,c,hc=>fG q n hn a b hs (IA NL 0) [] k j C (fun _ _ h=>by cases h) u AL z i c hc
  | x::l,k,j,C,u,AL,z,i,c,hc=>fG q n hn a b hs (IA NL (l.length+1)) (x::l) k j C (fun J I h e d=>by
      injection h with _ h
      subst h;exact uZ q n hn a b hs l (k+1) e d) u AL z i c hc
theorem AiS (q:AF) (n:Nat) (hn:q.AQ.Entries.length=n) (a:n<=10) (c:q.seen.length<=8) (hs:∀x∈q.seen,NP q.AQ x) (k:Nat) (e:k<=q.seen.length) (u:Nat->AE) (AL:List AG) (d:JY u) (b:JX n k AL) :
    Sn (u,(k:Int),AL,q,false,q,q)=some (Ke q (Ef n ((q.seen.drop k).map (Fm q.AQ)) (FZ u AL))) :=
  wA (fun f g h x r AH=>AiM f g h x r AH) (uZ q n hn a c hs (q.seen.drop k) k (by rw[List.length_drop];omega) rfl u AL d b _ rfl)
end Nore
open Go Go.Ab
namespace Nore
theorem AiR (q:AF) (n:Nat) (hn:q.AQ.Entries.length=n) (a:n<=10) (e:q.seen.length<=8) (hs:∀x∈q.seen,NP q.AQ x) (u:Nat->AE) (b:JY u) :
    Sm (u,0,q,false,q,q)=some (Ke q (Ef n (q.seen.map (Fm q.AQ)) (FZ u []))):=by
  rw[sM];exact fG q n hn a e hs Sn q.seen 0 (by omega) rfl (fun x i h g f u AL b d c hc=>by
    rw[AiS q n hn a e hs 1 (by omega) u AL b d,hc,f]) u [] b ⟨Nat.le_refl _,fun s hs=>by cases hs⟩ _ rfl
def H7 (r:AQ):Nat->AE:=fun j=>(r.Entries.getD j (AN.mk 0 0 (AE.mk 0 0))).At
theorem Ak3 {r:AQ} (h:XW r):JY (H7 r):=fun i=>by
  unfold H7
  by_cases AA:i<r.Entries.length
  · rw[Dt _ _ _ AA]
    exact h.2 _ (Fx AA)
  · have:r.Entries.getD i (AN.mk 0 0 (AE.mk 0 0))=AN.mk 0 0 (AE.mk 0 0):=by simp[List.getD,List.getElem?_eq_none (by omega:r.Entries.length<=i)]
    rw[this];simp
theorem Ak1 (r:AQ) (hn:r.Entries.length<=10) (u l:AF) (z:Bool) (q:AF) :
    W3 r.Entries (r.Entries.length:Int) u l z q (0,fun _=>AE.mk 0 0)=some (H7 r):=by
  obtain⟨w,d,c⟩:=Eo (Qx r.Entries (r.Entries.length:Int) u l z q) r.Entries.length (fun i (b:Nat->AE)=>((i:Int),b))
    (fun i b=>∀j,b j=if j<i then H7 r j else AE.mk 0 0) (fun w=>w=H7 r)
    (fun b hb=>⟨b,by simp[Qx,Tu],funext fun j=>by
      rw[hb j];split
      · rfl
      · rename_i h
        unfold H7;rw[show r.Entries.getD j (AN.mk 0 0 (AE.mk 0 0))=AN.mk 0 0 (AE.mk 0 0) by simp[List.getD,List.getElem?_eq_none (by omega:r.Entries.length<=j)]]⟩)
    (fun i b AA hb=>by
      right;have AS:decide ((i:Int)<(r.Entries.length:Int))=true:=by simp;omega
      have BG:decide ((i:Int)<(10:Int))=true:=by simp;omega
      have I:Nat.blt i 10=true:=by rw[Nat.blt_eq];omega
      have C:=EH i (by omega)
      simp only[Qx,Tu,AS,BG,I,ES,Cd,CD,AY,C];refine⟨_,rfl,fun j=>?_⟩;cases e:Nat.beq j i with
      | true =>
        have:=Al e;subst this;rw[if_pos (by omega)];rfl
      | false =>
        have:=Nat.ne_of_beq_eq_false e;simp only[Ac];rw[hb j]
        by_cases h:j<i
        · rw[if_pos h,if_pos (by omega)]
        · rw[if_neg h,if_neg (by omega)]) 0 (fun _=>AE.mk 0 0) (Nat.zero_le _) (fun j=>by simp)
  have a:W3 r.Entries (r.Entries.length:Int) u l z q (0,fun _=>AE.mk 0 0)=some w:=d;rw[a,c]
theorem AiJ (q:AF) (h:XW q.AQ) (a:q.seen.length<=8) (hs:∀x∈q.seen,NP q.AQ x) :
    MN q=some (!(Ef q.AQ.Entries.length (q.seen.map (Fm q.AQ)) (FZ (H7 q.AQ) [])).isEmpty):=by
  rw[s8];unfold bK;rw[sO];unfold gI;simp only[Ak1 q.AQ h.1,B7];rw[AiR q _ rfl h.1 a hs _ (Ak3 h)];simp only[B7];generalize Ef q.AQ.Entries.length (q.seen.map (Fm q.AQ)) (FZ (H7 q.AQ) [])=L;cases L with
  | nil=>rfl
  | cons y ys=>rfl
end Nore
open Go Go.Ab
namespace Nore
end Nore
open Go Go.Ab
namespace Nore
end Nore
open Go Go.Ab
namespace Nore
end Nore
open Go Go.Ab
namespace Nore
structure Qh (r:AQ) (l:List Aa):Prop where
  Pe:XW r
  many:l.length<=8
  seen:∀x∈l,NP r x
theorem xP (r:AQ) (l:List Aa):∀w∈l.map (Fm r),XX r.Entries.length w:=fun w a=>by
  obtain⟨x,_,rfl⟩:=List.mem_map.1 a;intro s hs;obtain⟨t,ht,rfl⟩:=List.mem_map.1 hs;exact((Ako x rfl).2 t ht).2
def Qv (r:AQ) (l:List Aa):List Da:=Ef r.Entries.length (l.map (Fm r)) (FZ (H7 r) [])
theorem e0 {r:AQ} {l:List Aa} (h:Qh r l):MN ⟨r,l⟩=some (!(Qv r l).isEmpty):=AiJ ⟨r,l⟩ h.Pe h.many h.seen
end Nore
open Go Go.Ab
namespace Nore
theorem OT (A1 up:Int) (l:List Int) (hl:l.length<1000000):K5 A1 up l=some (Cx A1 up l):=by
  rw[eR];unfold cU;have key:=Is (QH (↑l.length) l up A1) (fun DL=>Sum.elim (fun u:Int=>some (decide (u>=0))) (fun _=>some (decide ((-1:Int)>=0))) DL) l.length (fun i (_:Unit)=>(i:Int)) (fun _ _=>True) (fun i _=>some (Cx A1 up (l.drop i)))
    (by
      intro b _ R;simp[QH,Sw,MM,K8])
    (by
      intro i b AA _ R e;have a:=e () trivial;simp only[QH,Sw,MM];rw[HO AA];simp only[Cd,Dt _ _ _ AA,K7];have c:=EH i (by omega)
      rw[c];have f:decide ((i:Int)<↑l.length)=true:=by simp[AA]
      have d:=ES i;simp only[f,d,CD,AY]
      by_cases j:l[i]<A1
      · simp[j]
      · by_cases q:l[i]>up
        · simp[j,q]
        · simp[j,q];exact a)
  exact(key 0 () (by omega) trivial).trans (by simp)
theorem TU (n A1 AA:Int):NO n A1 AA=some (GJ n A1 AA):=by
  rw[fN];unfold eN GJ
  by_cases h:A1<=n<;>simp[h]
def EK (r:AQ) (dev st:Int) (s:AE):Int :=
  if Cx 0 ((r.Au.length:Int)-1) [dev]then 4 else
  if Cx 0 (IntKind.wrap .i64 ((r.Au.getD dev.toNat (A9.mk ByteArray.empty 0 0)).Dk-1)) [st]then 7 else
  if Cx 0 9999 [s.AK,s.A0]then 7 else if s.AK>s.A0 then 2 else 0
theorem MJ {A1 AA n:Int} (h:Cx A1 AA [n]=false):A1<=n/\n<=AA:=by
  simp only[K7,K8,Bool.or_false,Bool.or_eq_false_iff,decide_eq_false_iff_not]at h;omega
theorem v8 {A1 AA n m:Int} (h:Cx A1 AA [n,m]=false):A1<=n/\n<=AA/\A1<=m/\m<=AA:=by
  simp only[K7,K8,Bool.or_false,Bool.or_eq_false_iff,decide_eq_false_iff_not]at h;omega
theorem eZ (r:AQ) (x:Aa) (AH:r.Au.length<=1000000):QZ r x=some (EK r x.Device x.State x.At):=by
  rw[uN];unfold dU;have e:IntKind.wrap .i64 ((r.Au.length:Int)-1)=(r.Au.length:Int)-1:=by rw[Bv]<;>omega
  rw[e,OT _ _ _ (by simp)]
  simp only[B7];unfold EK;cases d:Cx 0 ((r.Au.length:Int)-1) [x.Device]with
  | true=>rfl
  | false =>
    have h:=MJ d;have Aw:decide (0<=x.Device)=true:=by simp[h.1]
    have BS:decide (x.Device<(r.Au.length:Int))=true:=by simp;omega
    simp only[Ac,Aw,BS,CD,AY];rw[OT _ _ _ (by simp)]
    simp only[B7];cases j:Cx 0 (IntKind.wrap .i64 ((r.Au.getD x.Device.toNat (A9.mk ByteArray.empty 0 0)).Dk-1)) [x.State]with
    | true=>rfl
    | false =>
      simp only[Ac];rw[OT _ _ _ (by simp)]
      simp only[B7];cases l:Cx 0 9999 [x.At.AK,x.At.A0]with
      | true=>rfl
      | false=>by_cases i:x.At.AK>x.At.A0<;>simp[i]
theorem AiY (r:AQ) (dev st:Int) (s:AE) (AH:r.Au.length<=1000000):XG r dev st s=some (EK r dev st s):=by
  rw[uU];unfold eF;have e:IntKind.wrap .i64 ((r.Au.length:Int)-1)=(r.Au.length:Int)-1:=by rw[Bv]<;>omega
  rw[e,TU,Q8];simp only[B7];unfold EK;cases d:Cx 0 ((r.Au.length:Int)-1) [dev]with
  | true=>rfl
  | false =>
    have h:=MJ d;have Aw:decide (0<=dev)=true:=by simp[h.1]
    have BS:decide (dev<(r.Au.length:Int))=true:=by simp;omega
    simp only[Bool.not_false,Bool.not_true,Ac,Aw,BS,CD,AY];rw[TU,Q8];simp only[B7];cases j:Cx 0 (IntKind.wrap .i64 ((r.Au.getD dev.toNat (A9.mk ByteArray.empty 0 0)).Dk-1)) [st]with
    | true=>rfl
    | false =>
      simp only[Bool.not_false,Bool.not_true,Ac];unfold MI;rw[tX _ _ _ (by simp)]
      simp only[B7,Qa];cases l:Cx 0 9999 [s.AK,s.A0]with
      | true=>rfl
      | false=>by_cases i:s.AK>s.A0<;>simp[i]
def GW {α:Type} (f:Nat->α->Int):Nat->List α->Int×Int
  | _,[]=>(0,0)
  | i,x::xs=>if f i x≠0 then((i:Int),f i x)else GW f (i+1) xs
theorem O1 {α:Type} (f:Nat->α->Int) (i:Nat) (x:α) (xs:List α):GW f i (x::xs)=if f i x≠0 then((i:Int),f i x)else GW f (i+1) xs:=rfl
def Ds:Int->Nat->List AN->Int×Int
  | _,_,[]=>(0,0)
  | least,i,x::xs=>if(if x.At.AK>least then x.At.AK else least)>x.At.A0 then((i:Int),9)else Ds (if x.At.AK>least then x.At.AK else least) (i+1) xs
theorem XA (least:Int) (i:Nat) (x:AN) (xs:List AN):Ds least i (x::xs)=if(if x.At.AK>least then x.At.AK else least)>x.At.A0 then((i:Int),9)else Ds (if x.At.AK>least then x.At.AK else least) (i+1) xs:=rfl
def LX (e:List ByteArray) (d:A9):Int :=
  if JZ d.Name e≠0 then JZ d.Name e else if Cx 2 4 [d.Dk]||Cx 0 (IntKind.wrap .i64 (d.Dk-1)) [d.FB]then 7 else 0
def Hm (r:AQ):Int×Int:=GW (fun i d=>LX ((r.Au.take i).map (·.Name)) d) 0 r.Au
def GX (r:AQ):Int×Int:=GW (fun _ x=>EK r x.Device x.State x.At) 0 r.Entries
def H8 (r:AQ):Int×Int×Int :=
  if Cx 1 4 [(r.Au.length:Int)]||decide ((r.Entries.length:Int)>10)then(1,0,3)else
  if(Hm r).2≠0 then(2,(Hm r).1,(Hm r).2)else
  if(GX r).2≠0 then(3,(GX r).1,(GX r).2)else
  if(Ds 0 0 r.Entries).2≠0 then(3,(Ds 0 0 r.Entries).1,(Ds 0 0 r.Entries).2)else(0,0,0)
def Fl (r:AQ) (l:List Aa):Int×Int :=
  if(H8 r).2.2≠0 then(0,(H8 r).2.2)else if(l.length:Int)>4 then(0,3)else GW (fun _ x=>EK r x.Device x.State x.At) 0 l
theorem Aiz (r:AQ) (d:r.Au.length<=1000000) (f:r.Entries.length<=1000000):Sq (r.Entries,r)=some ((GX r).1,(GX r).2,r):=by
  rw[sH];unfold gF WP;refine Eq.trans (Is _ _ r.Entries.length (fun i (_:Unit)=>(i:Int)) (fun _ _=>True) (fun i _=>some ((GW (fun _ x=>EK r x.Device x.State x.At) i (r.Entries.drop i)).1,(GW (fun _ x=>EK r x.Device x.State x.At) i (r.Entries.drop i)).2,r)) ?_ ?_ 0 () (Nat.zero_le _) trivial) rfl
  · intro b _ R
    have AS:decide ((r.Entries.length:Int)<(r.Entries.length:Int))=false:=by simp
    simp only[Tv,To,AS,Ac,List.drop_length];rfl
  · intro i b AA _ R c
    have a:=c () trivial;have AS:decide ((i:Int)<(r.Entries.length:Int))=true:=by simp[AA]
    have l:=EH i (by omega)
    rw[HO AA,O1];simp only[Tv,To,AS,ES,Cd,CD,AY,Dt _ _ _ AA,eZ r _ d,B7,l];generalize EK r r.Entries[i].Device r.Entries[i].State r.Entries[i].At=e
    by_cases j:e=0
    · have Aw:(e != 0)=false:=by simp[j]
      simp only[Aw,Ac,if_neg (fun h:e≠0=>h j)];exact a
    · have Aw:(e != 0)=true:=HH j
      simp only[Aw,AY,if_pos j];rfl
theorem AiA (r:AQ) (l:List Aa) (d:r.Au.length<=1000000) (f:l.length<=1000000):Ss (l,r)=some ((GW (fun _ (x:Aa)=>EK r x.Device x.State x.At) 0 l).1,(GW (fun _ (x:Aa)=>EK r x.Device x.State x.At) 0 l).2,r):=by
  rw[sN];unfold gH bP;refine Eq.trans (Is _ _ l.length (fun i (_:Unit)=>(i:Int)) (fun _ _=>True) (fun i _=>some ((GW (fun _ (x:Aa)=>EK r x.Device x.State x.At) i (l.drop i)).1,(GW (fun _ (x:Aa)=>EK r x.Device x.State x.At) i (l.drop i)).2,r)) ?_ ?_ 0 () (Nat.zero_le _) trivial) rfl
  · intro b _ R
    have AS:decide ((l.length:Int)<(l.length:Int))=false:=by simp
    simp only[Te,Tt,AS,Ac,List.drop_length];rfl
  · intro i b AA _ R c
    have a:=c () trivial;have AS:decide ((i:Int)<(l.length:Int))=true:=by simp[AA]
    have q:=EH i (by omega)
    rw[HO AA,O1];simp only[Te,Tt,AS,ES,Cd,CD,AY,Dt _ _ _ AA,eZ r _ d,B7,q];generalize EK r l[i].Device l[i].State l[i].At=e
    by_cases j:e=0
    · have Aw:(e != 0)=false:=by simp[j]
      simp only[Aw,Ac,if_neg (fun h:e≠0=>h j)];exact a
    · have Aw:(e != 0)=true:=HH j
      simp only[Aw,AY,if_pos j];rfl
theorem AiC (l:List AN) (f:l.length<=1000000):∃q,Sr (l,0)=some ((Ds 0 0 l).1,(Ds 0 0 l).2,q):=by
  rw[sI];unfold gG bM;simp only
  let k:((Int×Int×Int×AN×AN)⊕Int)->Option (Int×Int×Int):=fun u=>Sum.elim (fun j=>some (j.snd.fst,j.fst,j.snd.snd.fst)) (fun z=>some (0,0,z)) u
  obtain⟨w,d,c⟩:=Eo (Oa l (l.length:Int)) l.length (fun i (b:Int)=>((i:Int),b)) (fun i b=>Ds b i (l.drop i)=Ds 0 0 l) (fun w=>∃q,k w=some ((Ds 0 0 l).1,(Ds 0 0 l).2,q))
    (fun b hb=>by
      have AS:decide ((l.length:Int)<(l.length:Int))=false:=by simp
      simp only[Oa,Tp,AS,Ac];refine⟨_,rfl,b,?_⟩;rw[List.drop_length]at hb;rw[<-hb];rfl)
    (fun i b AA hb=>by
      have AS:decide ((i:Int)<(l.length:Int))=true:=by simp[AA]
      have C:=EH i (by omega)
      rw[HO AA,XA]at hb;have e:(bif decide (l[i].At.AK>b)then l[i].At.AK else b)=(if l[i].At.AK>b then l[i].At.AK else b):=by by_cases h:l[i].At.AK>b<;>simp[h]
      simp only[Oa,Tp,AS,ES,Cd,CD,AY,Dt _ _ _ AA,C,e]
      by_cases hc:(if l[i].At.AK>b then l[i].At.AK else b)>l[i].At.A0
      · left
        rw[if_pos hc]at hb;simp only[hc,decide_true,AY];refine⟨_,rfl,(if l[i].At.AK>b then l[i].At.AK else b),?_⟩;rw[<-hb];rfl
      · right
        rw[if_neg hc]at hb;simp only[hc,decide_false,Ac];exact⟨_,rfl,hb⟩) 0 0 (Nat.zero_le _) rfl
  have a:CC (Oa l (l.length:Int)) (0,0)=some w:=d;rw[a];exact c
theorem AiT (l:List A9) (hl:l.length<=1000000) (d:A9) :
    (∃(i:Nat) (y:A9),Tn (l.length:Int) l d 0=some (.inl ((i:Int),y))/\d.Name∈l.map (·.Name))\/(Tn (l.length:Int) l d 0=some (.inr ())/\¬d.Name∈l.map (·.Name)):=by
  obtain⟨w,e,c⟩:=Eo (Qg (l.length:Int) l d) l.length (fun i (_:Unit)=>(i:Int)) (fun i _=>∀x∈l.take i,x.Name≠d.Name)
    (fun w=>(∃(i:Nat) (y:A9),w=.inl ((i:Int),y)/\d.Name∈l.map (·.Name))\/(w=.inr ()/\¬d.Name∈l.map (·.Name)))
    (fun _ hb=>by
      have AS:decide ((l.length:Int)<(l.length:Int))=false:=by simp
      simp only[Qg,Tm,AS,Ac];refine⟨_,rfl,.inr ⟨rfl,fun h=>?_⟩⟩;obtain⟨x,a,f⟩:=List.mem_map.1 h;rw[List.take_length]at hb;exact hb x a f)
    (fun i _ AA hb=>by
      have AS:decide ((i:Int)<(l.length:Int))=true:=by simp[AA]
      have j:=EH i (by omega)
      simp only[Qg,Tm,AS,ES,Cd,CD,AY,Dt _ _ _ AA,j]
      by_cases hn:l[i].Name=d.Name
      · left
        have Aw:(l[i].Name.toList==d.Name.toList)=true:=by rw[hn];simp
        simp only[Aw,AY];exact⟨_,rfl,.inl ⟨i,_,rfl,List.mem_map.2 ⟨l[i],Fx AA,hn⟩⟩⟩
      · right
        have Aw:(l[i].Name.toList==d.Name.toList)=false:=beq_eq_false_iff_ne.2 fun h=>hn (fL h);simp only[Aw,Ac];refine⟨(),by first|rfl|trivial,fun x a=>?_⟩
        rw[List.take_succ_eq_append_getElem AA]at a;rcases List.mem_append.1 a with q|q
        · exact hb x q
        · rw[List.mem_singleton.1 q];exact hn) 0 () (Nat.zero_le _) (fun x a=>by simp at a)
  have b:Tn (l.length:Int) l d 0=some w:=e;rcases c with⟨i,y,rfl,h⟩|⟨rfl,h⟩
  · exact .inl ⟨i,y,b,h⟩
  · exact .inr ⟨b,h⟩
theorem Aiy (r:AQ) (k:r.Au.length<=1000000):Sl (r.Au,r)=some ((Hm r).1,(Hm r).2,r):=by
  rw[sL];unfold gE bJ;refine Eq.trans (Is _ _ r.Au.length (fun i (_:Unit)=>(i:Int)) (fun _ _=>True) (fun i _=>some ((GW (fun i d=>LX ((r.Au.take i).map (·.Name)) d) i (r.Au.drop i)).1,(GW (fun i d=>LX ((r.Au.take i).map (·.Name)) d) i (r.Au.drop i)).2,r)) ?_ ?_ 0 () (Nat.zero_le _) trivial) rfl
  · intro b _ R
    have AS:decide ((r.Au.length:Int)<(r.Au.length:Int))=false:=by simp
    simp only[Tq,Tl,AS,Ac,List.drop_length];rfl
  · intro i b AA _ R h
    have g:=h () trivial;have AS:decide ((i:Int)<(r.Au.length:Int))=true:=by simp[AA]
    have BG:decide ((i:Int)<=(r.Au.length:Int))=true:=by simp;omega
    have q:=EH i (by omega)
    rw[HO AA,O1];simp only[Tq,Tl,AS,BG,ES,Cd,CD,AY,Dt _ _ _ AA,u2,B7,q,List.drop_zero];generalize r.Au[i]=d;have c:LX ((r.Au.take i).map (·.Name)) d=if J1 d.Name then(if d.Name∈(r.Au.take i).map (·.Name)then 5 else if Cx 2 4 [d.Dk]||Cx 0 (IntKind.wrap .i64 (d.Dk-1)) [d.FB]then 7 else 0)else 6:=by
      unfold LX JZ;generalize (r.Au.take i).map (·.Name)=l;cases BI:J1 d.Name with
      | false=>rfl
      | true =>
        by_cases BD:d.Name∈l
        · simp only[BD,if_true];rfl
        · simp only[BD,if_true,if_false];rfl
    rw[c];cases hn:J1 d.Name with
    | false=>rfl
    | true =>
      simp only[Bool.not_true,Ac,if_true];have a:(r.Au.take i).length<=1000000:=by rw[List.length_take];omega
      rcases AiT (r.Au.take i) a d with⟨j,y,f,e⟩|⟨f,e⟩
      · have Aw:decide ((j:Int)>=0)=true:=by simp
        simp only[f,B7,LF,Aw,AY,if_pos e];rfl
      · simp only[f,B7,IC,if_neg e]
        rw[OT _ _ _ (by simp),OT _ _ _ (by simp)]
        simp only[B7];cases BI:Cx 2 4 [d.Dk]with
        | true=>rfl
        | false =>
          cases BD:Cx 0 (IntKind.wrap .i64 (d.Dk-1)) [d.FB]with
          | true=>rfl
          | false=>exact g
theorem AiI (r:AQ):Wy r=some (H8 r):=by
  rw[uI];unfold c2;rw[OT _ _ _ (by simp)]
  simp only[B7];unfold H8;cases BI:Cx 1 4 [(r.Au.length:Int)]with
  | true=>rfl
  | false =>
    have d:=MJ BI;have b:r.Au.length<=1000000:=by omega
    by_cases BD:(r.Entries.length:Int)>10
    · simp only[Ac,BD,decide_true,AY,Bool.false_or,if_true]
    · have a:r.Entries.length<=1000000:=by omega
      simp only[Ac,BD,decide_false,Bool.false_or,Aiy r b,B7];simp only[CI,if_false]
      by_cases B9:(Hm r).2=0
      · have CK:((Hm r).2 != 0)=false:=by simp[B9]
        simp only[CK,Ac,Aiz r b a,B7,if_neg (fun h:(Hm r).2≠0=>h B9)]
        by_cases DM:(GX r).2=0
        · have Df:((GX r).2 != 0)=false:=by simp[DM]
          obtain⟨q,c⟩:=AiC r.Entries a;simp only[Df,Ac,c,B7,if_neg (fun h:(GX r).2≠0=>h DM)]
          by_cases Em:(Ds 0 0 r.Entries).2=0
          · have El:((Ds 0 0 r.Entries).2 != 0)=false:=by simp[Em]
            simp only[El,Ac,if_neg (fun h:(Ds 0 0 r.Entries).2≠0=>h Em)]
          · have El:((Ds 0 0 r.Entries).2 != 0)=true:=HH Em
            simp only[El,AY,if_pos Em]
        · have Df:((GX r).2 != 0)=true:=HH DM
          simp only[Df,AY,if_pos DM]
      · have CK:((Hm r).2 != 0)=true:=HH B9
        simp only[CK,AY,if_pos B9]
end Nore
open Go Go.Ab
namespace Nore
theorem AiL (r:AQ):XF r=some (H8 r):=by
  rw[uY];unfold dJ;rw[TU,Q8];simp only[B7];unfold H8;cases BI:Cx 1 4 [(r.Au.length:Int)]with
  | true=>rfl
  | false =>
    have m:=MJ BI;have p:r.Au.length<=4:=by omega
    by_cases BD:(r.Entries.length:Int)>10
    · simp only[Bool.not_false,Bool.not_true,Ac,BD,decide_true,AY,Bool.false_or,if_true]
    · have o:r.Entries.length<=10:=by omega
      simp only[Bool.not_false,Bool.not_true,Ac,BD,decide_false,Bool.false_or,CI,if_false];unfold eM;refine Eq.trans (Is _ _ r.Au.length (fun i (b:List ByteArray)=>((i:Int),b)) (fun i b=>b=(r.Au.take i).map (·.Name))
        (fun i _=>if(GW (fun i d=>LX ((r.Au.take i).map (·.Name)) d) i (r.Au.drop i)).2≠0 then some (2,(GW (fun i d=>LX ((r.Au.take i).map (·.Name)) d) i (r.Au.drop i)).1,(GW (fun i d=>LX ((r.Au.take i).map (·.Name)) d) i (r.Au.drop i)).2)else
          some (if(GX r).2≠0 then(3,(GX r).1,(GX r).2)else if(Ds 0 0 r.Entries).2≠0 then(3,(Ds 0 0 r.Entries).1,(Ds 0 0 r.Entries).2)else(0,0,0))) ?_ ?_ 0 [] (Nat.zero_le _) rfl) ?_
      · intro b _ R
        have AS:decide ((r.Au.length:Int)<(r.Au.length:Int))=false:=by simp
        simp only[TO,TA,AS,Ac,List.drop_length];show Option.bind (We r 0) _=some (if(GX r).2≠0 then(3,(GX r).1,(GX r).2)else if(Ds 0 0 r.Entries).2≠0 then(3,(Ds 0 0 r.Entries).1,(Ds 0 0 r.Entries).2)else(0,0,0));unfold We;refine Eq.trans (Is _ _ r.Entries.length (fun i (_:Unit)=>(i:Int)) (fun _ _=>True)
          (fun i _=>some (if(GW (fun _ (x:AN)=>EK r x.Device x.State x.At) i (r.Entries.drop i)).2≠0 then(3,(GW (fun _ (x:AN)=>EK r x.Device x.State x.At) i (r.Entries.drop i)).1,(GW (fun _ (x:AN)=>EK r x.Device x.State x.At) i (r.Entries.drop i)).2)else if(Ds 0 0 r.Entries).2≠0 then(3,(Ds 0 0 r.Entries).1,(Ds 0 0 r.Entries).2)else(0,0,0))) ?_ ?_ 0 () (Nat.zero_le _) trivial) rfl
        · intro b _ R
          have AS:decide ((r.Entries.length:Int)<(r.Entries.length:Int))=false:=by simp
          simp only[TP,TB,AS,Ac,List.drop_length];show Option.bind (Wf r (0,0)) _=some (if(Ds 0 0 r.Entries).2≠0 then(3,(Ds 0 0 r.Entries).1,(Ds 0 0 r.Entries).2)else(0,0,0));unfold Wf;refine Eq.trans (Is _ _ r.Entries.length (fun i (b:Int)=>((i:Int),b)) (fun _ _=>True)
            (fun i b=>some (if(Ds b i (r.Entries.drop i)).2≠0 then(3,(Ds b i (r.Entries.drop i)).1,(Ds b i (r.Entries.drop i)).2)else(0,0,0))) ?_ ?_ 0 0 (Nat.zero_le _) trivial) rfl
          · intro b _ R
            simp only[TQ,TC,AS,Ac,List.drop_length];rfl
          · intro i b AA _ R c
            have AS:decide ((i:Int)<(r.Entries.length:Int))=true:=by simp[AA]
            have u:=EH i (by omega)
            have n:(bif decide (r.Entries[i].At.AK>b)then r.Entries[i].At.AK else b)=(if r.Entries[i].At.AK>b then r.Entries[i].At.AK else b):=by by_cases h:r.Entries[i].At.AK>b<;>simp[h]
            rw[HO AA,XA];simp only[TQ,TC,AS,ES,Cd,CD,AY,Dt _ _ _ AA,u,n]
            by_cases hc:(if r.Entries[i].At.AK>b then r.Entries[i].At.AK else b)>r.Entries[i].At.A0
            · rw[if_pos hc]
              simp only[hc,decide_true,AY];rfl
            · rw[if_neg hc]
              simp only[hc,decide_false,Ac];exact c _ trivial
        · intro i b AA _ R c
          have l:=c () trivial;have AS:decide ((i:Int)<(r.Entries.length:Int))=true:=by simp[AA]
          have u:=EH i (by omega)
          rw[HO AA,O1];simp only[TP,TB,AS,ES,Cd,CD,AY,Dt _ _ _ AA,AiY r _ _ _ (by omega:r.Au.length<=1000000),B7,u]
          generalize EK r r.Entries[i].Device r.Entries[i].State r.Entries[i].At=e
          by_cases q:e=0
          · have Aw:(e != 0)=false:=by simp[q]
            simp only[Aw,Ac,if_neg (fun h:e≠0=>h q)];exact l
          · have Aw:(e != 0)=true:=HH q
            simp only[Aw,AY,if_pos q];rfl
      · intro i b AA hb R c
        have AS:decide ((i:Int)<(r.Au.length:Int))=true:=by simp[AA]
        have u:=EH i (by omega)
        have f:b.length=i:=by rw[hb,List.length_map,List.length_take];omega
        have z:Nat.ble ((i+1)*(16+1)) 200000000000000=true:=by rw[Nat.ble_eq];omega
        have g:=uV r.Au[i].Name b (by omega)
        have a:=c ((r.Au.take (i+1)).map (·.Name)) rfl;rw[HO AA,O1];simp only[TO,TA,AS,ES,Cd,CD,AY,Dt _ _ _ AA,g,B7,u,f,List.length_singleton,z];have j:b++[r.Au[i].Name]=(r.Au.take (i+1)).map (·.Name):=by rw[hb,List.take_succ_eq_append_getElem AA,List.map_append];rfl
        rw[<-hb];have k:LX b r.Au[i]=if JZ r.Au[i].Name b≠0 then JZ r.Au[i].Name b else if Cx 2 4 [r.Au[i].Dk]||Cx 0 (IntKind.wrap .i64 (r.Au[i].Dk-1)) [r.Au[i].FB]then 7 else 0:=rfl;rw[k];generalize JZ r.Au[i].Name b=e
        by_cases q:e=0
        · have Aw:(e==0)=true:=by simp[q]
          have BS:(e != 0)=false:=by simp[q]
          simp only[Aw,BS,AY,Ac,if_neg (fun h:e≠0=>h q),TU,Q8,B7,Bool.not_not];cases Em:Cx 2 4 [r.Au[i].Dk]with
          | true=>rfl
          | false =>
            simp only[Ac,Bool.false_or];cases OJ:Cx 0 (IntKind.wrap .i64 (r.Au[i].Dk-1)) [r.Au[i].FB]with
            | true=>rfl
            | false =>
              simp only[Ac];rw[j];exact a
        · have Aw:(e==0)=false:=GG q
          have BS:(e != 0)=true:=HH q;simp only[Aw,BS,AY,Ac,if_pos q];rfl
      · simp only[List.drop_zero]
        show(if(Hm r).2≠0 then some (2,(Hm r).1,(Hm r).2)else some (if(GX r).2≠0 then(3,(GX r).1,(GX r).2)else if(Ds 0 0 r.Entries).2≠0 then(3,(Ds 0 0 r.Entries).1,(Ds 0 0 r.Entries).2)else(0,0,0)))=some (if(Hm r).2≠0 then(2,(Hm r).1,(Hm r).2)else if(GX r).2≠0 then(3,(GX r).1,(GX r).2)else if(Ds 0 0 r.Entries).2≠0 then(3,(Ds 0 0 r.Entries).1,(Ds 0 0 r.Entries).2)else(0,0,0))
        by_cases B9:(Hm r).2=0
        · simp only[ne_eq,B9,not_true_eq_false,if_false]
        · simp only[ne_eq,B9,not_false_eq_true,if_true]
structure J0 (r:AQ):Prop where
  VO:1<=r.Au.length/\r.Au.length<=4
  many:r.Entries.length<=10
  dev:∀d∈r.Au,(2<=d.Dk/\d.Dk<=4)/\0<=d.FB/\d.FB<d.Dk
  Pe:∀x∈r.Entries,EK r x.Device x.State x.At=0
  order:Ds 0 0 r.Entries=(0,0)
theorem XO {α:Type} (f:Nat->α->Int):∀(l:List α) (i:Nat),(GW f i l).2=0->∀(j:Nat) (h:j<l.length),f (i+j) l[j]=0
  | x::xs,i,h,j,e=>by
    rw[O1]at h
    by_cases d:f i x=0
    · rw[if_neg (fun q=>q d)]at h
      cases j with
      | zero=>exact d
      | succ j =>
        have:=XO f xs (i+1) h j (by simpa using e)
        rw[show i+(j+1)=i+1+j by omega]
        exact this
    · rw[if_pos d]at h
      exact absurd h d
theorem wD:∀(l:List AN) (a:Int) (i:Nat),(Ds a i l).2=0->Ds a i l=(0,0)
  | [],_,_,_=>rfl
  | x::xs,a,i,h=>by
    rw[XA]at h⊢
    by_cases hc:(if x.At.AK>a then x.At.AK else a)>x.At.A0
    · rw[if_pos hc]at h
      exact absurd h (by simp)
    · rw[if_neg hc]at h⊢
      exact wD xs _ _ h
theorem gC {r:AQ} (h:(H8 r).2.2=0):J0 r:=by
  unfold H8 at h;cases BI:Cx 1 4 [(r.Au.length:Int)]with
  | true=>rw[BI]at h;exact absurd h (by simp)
  | false =>
    have b:=MJ BI
    by_cases BD:(r.Entries.length:Int)>10
    · simp only[BI,BD,decide_true,Bool.or_true,if_true]at h;exact absurd h (by simp)
    · simp only[BI,BD,decide_false,Bool.or_self,CI,if_false]at h
      by_cases B9:(Hm r).2=0
      · rw[if_neg (fun k=>k B9)]at h
        by_cases DM:(GX r).2=0
        · rw[if_neg (fun k=>k DM)]at h
          by_cases Em:(Ds 0 0 r.Entries).2=0
          · refine⟨by omega,by omega,fun d b=>?_,fun x c=>?_,wD _ _ _ Em⟩
            · obtain⟨j,a,rfl⟩:=List.getElem_of_mem b
              have:=XO _ _ 0 B9 j a;simp only[LX]at this;split at this
              · rename_i k;exact absurd this k
              · split at this
                · exact absurd this (by simp)
                · rename_i k
                  simp only[Bool.or_eq_true,not_or,Bool.not_eq_true]at k;have k1:=MJ k.1;have k2:=MJ k.2;rw[Bv (by omega) (by omega)]at k2
                  omega
            · obtain⟨j,a,rfl⟩:=List.getElem_of_mem c
              exact XO _ _ 0 DM j a
          · rw[if_pos Em]at h;exact absurd h Em
        · rw[if_pos DM]at h;exact absurd h DM
      · rw[if_pos B9]at h;exact absurd h B9
theorem XT {r:AQ} {x:Aa} (h:EK r x.Device x.State x.At=0):NP r x/\0<=x.At.AK/\x.At.AK<=x.At.A0/\x.At.A0<=9999:=by
  unfold EK at h;cases BI:Cx 0 ((r.Au.length:Int)-1) [x.Device]with
  | true=>rw[BI]at h;exact absurd h (by simp)
  | false =>
    rw[BI]at h;have k1:=MJ BI;cases BD:Cx 0 (IntKind.wrap .i64 ((r.Au.getD x.Device.toNat (A9.mk ByteArray.empty 0 0)).Dk-1)) [x.State]with
    | true=>rw[BD]at h;exact absurd h (by simp)
    | false =>
      rw[BD]at h;cases B9:Cx 0 9999 [x.At.AK,x.At.A0]with
      | true=>rw[B9]at h;exact absurd h (by simp)
      | false =>
        rw[B9]at h;have d:=v8 B9
        by_cases DM:x.At.AK>x.At.A0
        · simp only[CI,if_false,DM,if_true]at h;exact absurd h (by simp)
        · exact⟨⟨by omega,by omega,by omega⟩,by omega,by omega,by omega⟩
theorem Akb {r:AQ} (h:J0 r):XW r:=⟨h.many,fun x a=>by
  have:=(XT (x:=⟨x.Device,x.State,x.At⟩) (h.Pe x a)).2;simp only at this;omega⟩
theorem gP {r:AQ} {l:List Aa} (h:(Fl r l).2=0):J0 r/\l.length<=4/\∀x∈l,EK r x.Device x.State x.At=0:=by
  unfold Fl at h
  by_cases BI:(H8 r).2.2=0
  · rw[if_neg (fun k=>k BI)]at h
    by_cases BD:(l.length:Int)>4
    · rw[if_pos BD]at h;exact absurd h (by simp)
    · rw[if_neg BD]at h
      refine⟨gC BI,by omega,fun x b=>?_⟩
      obtain⟨j,a,rfl⟩:=List.getElem_of_mem b;exact XO _ _ 0 h j a
  · rw[if_pos BI]at h;exact absurd h BI
theorem gU {r:AQ} {l:List Aa} (h:(Fl r l).2=0):Qh r l:=by
  obtain⟨a,d,b⟩:=gP h;exact⟨Akb a,by omega,fun x c=>(XT (b x c)).1⟩
theorem Aiu (r:AQ) (l:List Aa):Wm r l=some (Fl r l):=by
  rw[tE];unfold cS;rw[AiI r];simp only[B7];unfold Fl
  by_cases BI:(H8 r).2.2=0
  · have Aw:((H8 r).2.2 != 0)=false:=by simp[BI]
    have AH:=(gC BI).VO;simp only[Aw,Ac,if_neg (fun h:(H8 r).2.2≠0=>h BI)]
    by_cases BD:(l.length:Int)>4
    · simp only[BD,decide_true,AY,if_true]
    · simp only[BD,decide_false,Ac,if_false,AiA r l (by omega) (by omega),B7]
  · have Aw:((H8 r).2.2 != 0)=true:=HH BI
    simp only[Aw,AY,if_pos BI]
theorem tW (r:AQ) (l:List Aa):T0 r l=some (⟨r,l⟩,(Fl r l).2):=by
  rw[X72];unfold c3;rw[Aiu r l];rfl
end Nore
open Go Go.Ab
namespace Nore
def gQ (r:AQ) (l:List Aa):Bool×Int:=if(Fl r l).2≠0 then(false,(Fl r l).2)else(!(Qv r l).isEmpty,0)
theorem AiH (r:AQ) (l:List Aa):TZ r l=some (gQ r l):=by
  rw[uC];unfold c1;rw[tW r l];simp only[B7];unfold gQ
  by_cases q:(Fl r l).2=0
  · have c:((Fl r l).2 != 0)=false:=by simp[q]
    simp only[c,Ac,if_neg (fun h:(Fl r l).2≠0=>h q),e0 (gU q),B7]
  · have c:((Fl r l).2 != 0)=true:=HH q
    simp only[c,AY,if_pos q]
end Nore
open Go Go.Ab
namespace Nore
end Nore
namespace Nore
def HG (r:AQ) (l:List Aa):Bool := !(Qv r l).isEmpty
end Nore
open Go Go.Ab
namespace Nore
def Tb {α:Type} (m:Nat):Nat->List α->List α
  | _,[]=>[]
  | i,x::xs=>if m.testBit i then Tb m (i+1) xs else x::Tb m (i+1) xs
def X0 {α:Type} (m:Nat):Nat->List α->List Int
  | _,[]=>[]
  | i,x::xs=>if m.testBit i then(i:Int)::X0 m (i+1) xs else X0 m (i+1) xs
def xJ:List Int->List Int->Int
  | [],[]=>0
  | [],_::_ => -1
  | _::_,[]=>1
  | a::s,b::t=>if a<b then -1 else if a>b then 1 else xJ s t
def GB (a b:List Int):Prop:=a.length<b.length\/(a.length=b.length/\xJ a b<=0)
structure AAQ (r:AQ) (l:List Aa) (k:Nat) (fd:Bool) (best:List Int):Prop where
  yes:fd=true->∃m,m<k/\best=X0 m 0 l/\HG r (Tb m 0 l)=true
  least:fd=true->∀m,m<k->HG r (Tb m 0 l)=true->GB best (X0 m 0 l)
  no:fd=false->best=[]/\∀m,m<k->HG r (Tb m 0 l)=false
end Nore
open Go Go.Ab
namespace Nore
theorem wE:∀(l:List AN) (a:Int) (i:Nat),Ds a i l=(0,0)->∃x:Nat->Int,(∀j (h:j<l.length),l[j].At.AK<=x j/\x j<=l[j].At.A0/\a<=x j)/\∀j,j+1<l.length->x j<=x (j+1)
  | [],_,_,_=>⟨fun _=>0,fun j h=>by simp at h,fun j h=>by simp at h⟩
  | e::l,a,i,h=>by
    rw[XA]at h
    by_cases hc:(if e.At.AK>a then e.At.AK else a)>e.At.A0
    · rw[if_pos hc]at h
      have:=congrArg Prod.snd h;simp at this
    · rw[if_neg hc]at h
      obtain⟨x,d,f⟩:=wE l _ _ h;generalize q:(if e.At.AK>a then e.At.AK else a)=m at hc d;have b:e.At.AK<=m/\a<=m:=by rw[<-q];split<;>omega
      refine⟨fun j=>if j=0 then m else x (j-1),fun j c=>?_,fun j c=>?_⟩
      · cases j with
        | zero=>exact⟨b.1,by simp only[if_true];show m<=e.At.A0;omega,b.2⟩
        | succ j =>
          have:=d j (by simpa using c)
          simp only[Nat.add_one_ne_zero,if_false,Nat.add_sub_cancel,List.getElem_cons_succ];omega
      · cases j with
        | zero =>
          have:=d 0 (by simpa using c)
          simp only[if_true,Nat.add_one_ne_zero,if_false];exact this.2.2
        | succ j =>
          have:=f j (by simpa using c)
          simp only[Nat.add_one_ne_zero,if_false,Nat.add_sub_cancel];exact this
theorem vA {α:Type} (f:Nat->α->Int):∀(l:List α) (i:Nat),(∀x∈l,∀j,f j x=0)->GW f i l=(0,0)
  | [],_,_=>rfl
  | x::l,i,h=>by
    rw[O1,if_neg (fun q=>q (h x (by simp) i))]
    exact vA f l (i+1) fun y hy=>h y (by simp[hy])
theorem w8 {r:AQ} {l:List Aa} (a:(H8 r).2.2=0) (d:l.length<=4) (b:∀x∈l,EK r x.Device x.State x.At=0):Fl r l=(0,0):=by
  unfold Fl;rw[if_neg (fun q=>q a),if_neg (by omega)]
  exact vA _ l 0 fun x c _=>b x c
end Nore
open Go Go.Ab
namespace Nore
def II (l:List Aa) (dev s t:Int):List Aa:=l++[⟨dev,s,⟨t,t⟩⟩]
def Gi (r:AQ) (l:List Aa) (dev t:Int) (k:Nat):List Int:=((List.range k).filter fun s:Nat=>HG r (II l dev (s:Int) t)).map fun s:Nat=>(s:Int)
theorem fF (r:AQ) (l:List Aa) (dev t:Int) (k:Nat):Gi r l dev t (k+1)=Gi r l dev t k++if HG r (II l dev (k:Int) t)then [(k:Int)]else []:=by
  unfold Gi;rw[List.range_succ,List.filter_append,List.map_append];congr 1;cases h:HG r (II l dev (k:Int) t)<;>simp[h]
theorem fP (r:AQ) (l:List Aa) (dev t:Int) (k:Nat):∀v∈Gi r l dev t k,0<=v/\v<(k:Int):=fun v hv=>by
  obtain⟨s,hs,rfl⟩:=List.mem_map.1 hv;have:=List.mem_range.1 (List.mem_filter.1 hs).1;omega
theorem fH (r:AQ) (l:List Aa) (dev t:Int) (k:Nat):(Gi r l dev t k).length<=k:=by
  unfold Gi;rw[List.length_map];exact Nat.le_trans (List.length_filter_le _ _) (by simp)
theorem vN (r:AQ) (l:List Aa) (dev t:Int):∀k,(Gi r l dev t k).Pairwise (· < ·)
  | 0=>List.Pairwise.nil
  | k+1=>by
    rw[fF];refine List.pairwise_append.2 ⟨vN r l dev t k,?_,fun a c b hb=>?_⟩
    · split
      · exact List.pairwise_singleton _ _
      · exact List.Pairwise.nil
    · have:=fP r l dev t k a c
      split at hb
      · rw[List.mem_singleton.1 hb];exact this.2
      · cases hb
theorem Ajt (n:Int):∀(l:List Int),(∀v∈l,n<v)->Lx n l=n::l
  | [],_=>rfl
  | v::l,h=>by
    have:=h v (by simp)
    unfold Lx;simp[Int.le_of_lt this]
theorem wI:∀(l:List Int),l.Pairwise (· < ·)->He l=l
  | [],_=>rfl
  | n::l,h=>by
    obtain⟨a,b⟩:=List.pairwise_cons.1 h;show Lx n (He l)=n::l;rw[wI l b];exact Ajt n l a
theorem v7 (k:Int):∀(m:List (Int×Int)),(∀v∈m.map Prod.fst,v≠k)->KR (fun a b=>a==b) k m=none
  | [],_=>rfl
  | (a,b)::m,h=>by
    have c:(k==a)=false:=GG fun e=>h a (by simp) e.symm
    unfold KR;simp only[c,Ac];exact v7 k m fun v hv=>h v (by simp only[DU,DK];exact .inr hv)
theorem wM (k v:Int):∀(m:List (Int×Int)),(∀w∈m.map Prod.fst,w≠k)->Mp (fun a b=>a==b) k v m=m++[(k,v)]
  | [],_=>rfl
  | (a,b)::m,h=>by
    have d:(k==a)=false:=GG fun e=>h a (by simp) e.symm
    unfold Mp;simp only[d,Ac];rw[wM k v m fun w c=>h w (by simp only[DU,DK];exact .inr c)]
    rfl
theorem Ak8 {r:AQ} {l:List Aa} (h:Qh r l) (hl:l.length<=4) {dev t s:Int} (a:0<=dev/\dev<r.Au.length) (ht:0<=t/\t<=9999):Qh r (II l dev s t) :=
  ⟨h.Pe,by unfold II;rw[List.length_append,List.length_singleton];omega,fun x b=>by
    rcases List.mem_append.1 b with q|q
    · exact h.seen x q
    · rw[List.mem_singleton.1 q]
      exact⟨a,by simp only;omega,by simp only;omega⟩⟩
theorem AiB {r:AQ} {l:List Aa} (h:Qh r l) (hl:l.length<=4) {dev t:Int} (f:0<=dev/\dev<r.Au.length) (ht:0<=t/\t<=9999) {S:Nat} (q:(r.Au.getD dev.toNat (A9.mk ByteArray.empty 0 0)).Dk=(S:Int)) (k:S<=1000) :
    Wc ⟨r,l⟩ dev t=some (Gi r l dev t S):=by
  rw[s5];unfold bX;have Aw:decide (0<=dev)=true:=by simp[f.1]
  have BS:decide (dev<(r.Au.length:Int))=true:=by simp[f.2]
  simp only[Aw,BS,CD,AY,q];obtain⟨w,n,e⟩:=Eo (Qp dev (S:Int) t ⟨r,l⟩) S (fun i (b:List (Int×Int))=>((i:Int),b)) (fun i b=>b.map Prod.fst=Gi r l dev t i) (fun w=>w.map Prod.fst=Gi r l dev t S)
    (fun b hb=>⟨b,by simp[Qp,Sj],hb⟩)
    (fun i b AA hb=>by
      right;have AS:decide ((i:Int)<(S:Int))=true:=by simp;omega
      have W:=EH i (by omega)
      have I:Nat.ble (l.length*(32+1)) 100000000000000=true:=by rw[Nat.ble_eq];omega
      have J:Nat.ble ((l.length+1)*(32+1)) 200000000000000=true:=by rw[Nat.ble_eq];omega
      have Q:Nat.blt 0 4=true:=rfl;have d:Wd ⟨r,l⟩ [⟨dev,(i:Int),⟨t,t⟩⟩]=some ⟨r,II l dev (i:Int) t⟩:=by
        rw[sY];unfold bQ;simp only[I,Q,CD,AY,List.length_singleton,J];rfl
      have o:MN ⟨r,II l dev (i:Int) t⟩=some (HG r (II l dev (i:Int) t)):=e0 (Ak8 h hl f ht);have a:∀v∈b.map Prod.fst,v≠(i:Int):=fun v hv=>by
        rw[hb]at hv;have:=fP r l dev t i v hv;omega
      simp only[Qp,Sj,AS,AY,d,o,B7,W,v7 _ b a,wM _ _ b a];cases u:HG r (II l dev (i:Int) t)with
      | true=>exact⟨_,rfl,by rw[List.map_append,hb,fF,u];rfl⟩
      | false=>exact⟨b,rfl,by rw[hb,fF,u];simp⟩) 0 [] (Nat.zero_le _) rfl
  have j:cD dev (S:Int) t ⟨r,l⟩ (0,[])=some w:=n;have m:w.length<=S:=by
    have:=fH r l dev t S;rw[<-e,List.length_map]at this;exact this
  have I:Nat.ble w.length 100000=true:=by rw[Nat.ble_eq];omega
  have J:Nat.ble (w.map fun p=>p.fst).length 1000000=true:=by rw[Nat.ble_eq,List.length_map];omega
  have z:Nat.ble (Gi r l dev t S).length 1000000=true:=by have:=fH r l dev t S;rw[Nat.ble_eq];omega
  have M:Nat.beq w.length w.length=true:=Nat.beq_refl _;have Z:(Nat.beq 3 3&&Nat.beq 2 2)=true:=rfl;have U:(Nat.beq 3 3&&Nat.beq 0 0)=true:=rfl;have g:(w.map fun p=>p.fst)=Gi r l dev t S:=e;rw[j];simp only[B7,Z,M,I,CD,Bool.true_and,AY];cases d:w with
  | nil =>
    rw[d]at e;rw[<-e];rfl
  | cons p AP =>
    rw[<-d];have c:Nat.beq w.length 0=false:=by rw[d];rfl
    have b7:(Nat.beq 3 3&&Nat.beq 0 0&&Nat.ble (w.map fun p=>p.fst).length 1000000)=true:=by rw[J];rfl
    have b8:(Nat.beq 1 1&&Nat.ble 8 1000&&Nat.testBit 688269427663 6)=true:=by decide +kernel
    simp only[c,Ac,z,U,CD,Bool.true_and,AY,g,wI _ (vN r l dev t S)]
    first
    | rfl
    | (have O:Nat.testBit 688269427663 6=true:=by decide +kernel
       have C:Nat.beq 1 1=true:=rfl;have K:Nat.ble 8 1000=true:=rfl;simp only[O,C,K,z,CD,AY])
theorem Q0 {r:AQ} (h:J0 r) {dev:Int} (a:0<=dev/\dev<r.Au.length):∃S:Nat,(r.Au.getD dev.toNat (A9.mk ByteArray.empty 0 0)).Dk=(S:Int)/\2<=S/\S<=4:=by
  rw[Dt _ _ _ (by omega)]
  have:=(h.dev _ (Fx (by omega:dev.toNat<r.Au.length))).1
  exact⟨r.Au[dev.toNat].Dk.toNat,by omega,by omega,by omega⟩
end Nore
open Go Go.Ab
namespace Nore
def Jx (dev t:Int) (e:Nat->Int):List AN->Nat->Int->Int
  | [],_,d=>d
  | x::xs,i,d=>Jx dev t e xs (i+1) (if x.Device=dev/\e i<=t then x.State else d)
theorem T1 (dev t:Int) (e:Nat->Int) (x:AN) (xs:List AN) (i:Nat) (d:Int):Jx dev t e (x::xs) i d=Jx dev t e xs (i+1) (if x.Device=dev/\e i<=t then x.State else d):=rfl
theorem fO (dev t:Int) (l:Nat->Int):∀(e:List AN) (i:Nat) (d:Int),(∀j,i<=j->j<i+e.length->t<l j)->Jx dev t l e i d=d
  | [],_,_,_=>rfl
  | x::e,i,d,h=>by
    have c:=h i (Nat.le_refl _) (by simp only[List.length_cons];omega)
    rw[T1,if_neg (fun q=>by omega)]
    exact fO dev t l e (i+1) d fun j b a=>h j (by omega) (by simp only[List.length_cons];omega)
theorem T9 {n:Nat} {e:Nat->Int} (h:Qi n e):∀(d i:Nat),i+d<n->e i<=e (i+d)
  | 0,_,_=>Int.le_refl _
  | d+1,i,AA=>Int.le_trans (T9 h d i (by omega)) (h (i+d) (by omega))
theorem T7 {n:Nat} {l:Nat->Int} (c:Qi n l) (dev t st A1 AA:Int) (b:A1<=t) (a:t<=AA):∀(e:List AN) (i:Nat) (d B0:Int),i+e.length=n -> -1<=B0->B0<i->(0<=B0->l B0.toNat<=t)->Jx dev t l e i d=st →
    ∃s∈J3 dev st e i d B0,Qj n l (H9 s) A1 AA
  | [],i,d,B0,hn,C,I,u,hs=>by
    simp only[List.length_nil,Nat.add_zero]at hn;have hs:d=st:=hs;rw[T6,if_pos hs];refine⟨_,List.mem_singleton.2 rfl,fun h=>?_,fun h=>?_,fun _ h=>?_⟩
    · exact Int.le_trans (u h) a
    · simp only[H9,Cd]at h;omega
    · simp only[H9,Cd]at h;omega
  | x::e,i,d,B0,hn,C,I,u,hs=>by
    simp only[List.length_cons]at hn;rw[T1]at hs;rw[T5]
    by_cases z:x.Device=dev
    · rw[if_pos z]
      by_cases hit:l i<=t
      · rw[if_pos ⟨z,hit⟩]at hs
        obtain⟨s,K,J⟩:=T7 c dev t st A1 AA b a e (i+1) x.State i (by omega) (by omega) (by omega) (fun _=>by rw[Cd];exact hit) hs
        exact⟨s,List.mem_append.2 (.inr K),J⟩
      · rw[if_neg (fun q=>hit q.2)]at hs
        have hl:Jx dev t l e (i+1) d=d:=fO dev t l e (i+1) d fun j M O=>by
          have:=T9 c (j-i) i (by omega)
          rw[show i+(j-i)=j by omega]at this
          omega
        rw[hl]at hs;refine⟨⟨B0,i⟩,List.mem_append.2 (.inl ?_),fun h=>?_,fun h=>?_,fun h h'=>?_⟩
        · rw[if_pos hs];exact List.mem_singleton.2 rfl
        · exact Int.le_trans (u h) a
        · simp only[H9,Cd]at h⊢;omega
        · have:=u h
          simp only[H9,Cd]at h'⊢;omega
    · rw[if_neg z]
      rw[if_neg (fun q=>z q.1)]at hs;exact T7 c dev t st A1 AA b a e (i+1) d B0 (by omega) C (by omega) u hs
def Qb (r:AQ) (dev:Int):Int:=(r.Au.getD dev.toNat ⟨ByteArray.empty,0,0⟩).FB
def Qf (r:AQ) (d:Nat->Int):Prop:=ND r.Entries.length (FZ (H7 r) []) d
def T8 (r:AQ) (d:Nat->Int) (x:Aa):Prop:=∃t,x.At.AK<=t/\t<=x.At.A0/\Jx x.Device t d r.Entries 0 (Qb r x.Device)=x.State
theorem Ajk {r:AQ} {l:List Aa} {j:Nat->Int} (b:Qf r j) (hl:∀x∈l,T8 r j x):HG r l=true:=by
  have a:Ef r.Entries.length (l.map (Fm r)) (FZ (H7 r) [])≠[]:=by
    rw[vE (xP r l) (fun p c=>by cases c)]
    refine⟨j,b,fun w d=>?_⟩;obtain⟨x,g,rfl⟩:=List.mem_map.1 d;obtain⟨t,i,e,f⟩:=hl x g;obtain⟨s,u,q⟩:=T7 b.1.2.1 x.Device t x.State x.At.AK x.At.A0 i e r.Entries 0 (Qb r x.Device) (-1) (by omega) (by omega) (by omega) (fun h=>by omega) f
    exact⟨H9 s,List.mem_map.2 ⟨s,u,rfl⟩,q⟩
  unfold HG Qv;cases z:Ef r.Entries.length (l.map (Fm r)) (FZ (H7 r) [])with
  | nil=>exact absurd z a
  | cons=>rfl
end Nore
open Go Go.Ab
namespace Nore
def gX (r:AQ) (d:Nat->Int) (x:Aa):Prop:=∃s∈Qs r x,Qj r.Entries.length d (H9 s) x.At.AK x.At.A0
def NF (r:AQ) (l:List Aa) (d:Nat->Int):Prop:=Qf r d/\∀x∈l,gX r d x
theorem xN {r:AQ} {l:List Aa} {i:Nat->Int}:Tk r.Entries.length (FZ (H7 r) []) (l.map (Fm r)) i↔NF r l i:=by
  constructor
  · rintro⟨c,b⟩
    refine⟨c,fun x d=>?_⟩;obtain⟨s,hs,a⟩:=b (Fm r x) (List.mem_map.2 ⟨x,d,rfl⟩);obtain⟨t,ht,rfl⟩:=List.mem_map.1 hs;exact⟨t,ht,a⟩
  · rintro⟨c,b⟩
    refine⟨c,fun w e=>?_⟩;obtain⟨x,d,rfl⟩:=List.mem_map.1 e;obtain⟨s,hs,a⟩:=b x d;exact⟨H9 s,List.mem_map.2 ⟨s,hs,rfl⟩,a⟩
theorem Ak2 (r:AQ):Iu r.Entries.length (FZ (H7 r) []).AL:=fun p a=>by cases a
theorem Ajr {r:AQ} {l:List Aa}:HG r l=true↔∃d,NF r l d:=by
  have h:=vE (xP r l) (Ak2 r);unfold HG Qv;constructor
  · intro b
    have:Ef r.Entries.length (l.map (Fm r)) (FZ (H7 r) [])≠[]:=fun e=>by rw[e]at b;cases b
    obtain⟨d,a⟩:=h.1 this;exact⟨d,xN.1 a⟩
  · rintro⟨d,a⟩
    have:=h.2 ⟨d,xN.2 a⟩;cases b:Ef r.Entries.length (l.map (Fm r)) (FZ (H7 r) [])with
    | nil=>exact absurd b this
    | cons=>rfl
structure AAS (r:AQ) (l:List Aa) (j:Nat) (s:AE):Prop where
  A1:∃ms,NF r l ms/\ms j=s.AK
  AA:∃ms,NF r l ms/\ms j=s.A0
  all:∀ms,NF r l ms->s.AK<=ms j/\ms j<=s.A0
theorem fY {n:Nat} {C:Nat->Int} (d:Qi n C) (dev t st A1 AA:Int) (c:A1=t) (a:AA=t):∀(e:List AN) (i:Nat) (u B0:Int),i+e.length=n -> -1<=B0->B0<i →
    (∃s∈J3 dev st e i u B0,Qj n C (H9 s) A1 AA)->Jx dev t C e i u=st
  | [],i,u,B0,hn,J,K,⟨s,hs,z⟩=>by
    rw[T6]at hs;split at hs
    · rename_i h;exact h
    · cases hs
  | x::e,i,u,B0,hn,J,K,⟨s,hs,z⟩=>by
    simp only[List.length_cons]at hn;rw[T1];rw[T5]at hs
    by_cases I:x.Device=dev
    · rw[if_pos I]at hs
      rcases List.mem_append.1 hs with q|q
      · split at q
        · rename_i b
          rw[List.mem_singleton.1 q]at z;have m:=z.2.1 (by simp only[H9,Cd];omega)
          simp only[H9,Cd]at m;rw[if_neg (fun k=>by have:=k.2;omega)]
          rw[fO dev t C e (i+1) u fun j M O=>by
            have:=T9 d (j-i) i (by omega)
            rw[show i+(j-i)=j by omega]at this
            omega]
          exact b
        · cases q
      · have f:∀(e:List AN) (k:Nat) (u:Int) (B0:Int),0<=B0->B0<k->∀s∈J3 dev st e k u B0,B0<=s.from_:=by
          intro e
          induction e with
          | nil =>
            intro k u B0 l _ s hs;rw[T6]at hs;split at hs
            · rw[List.mem_singleton.1 hs];exact Int.le_refl _
            · cases hs
          | cons y e ih =>
            intro k u B0 l p s hs;rw[T5]at hs;split at hs
            · rcases List.mem_append.1 hs with w|w
              · split at w
                · rw[List.mem_singleton.1 w];exact Int.le_refl _
                · cases w
              · have:=ih (k+1) y.State k (by omega) (by omega) s w
                omega
            · exact ih (k+1) u B0 l (by omega) s hs
        have hf:=f e (i+1) x.State i (by omega) (by omega) s q
        have o:=(XU dev st n e (i+1) x.State i (by omega) (by omega) (by omega)).2 s q
        have m:C s.from_.toNat<=AA:=z.1 (by show 0<=s.from_;omega)
        have g:=T9 d (s.from_.toNat-i) i (by omega)
        rw[show i+(s.from_.toNat-i)=s.from_.toNat by omega]at g
        rw[if_pos ⟨I,by omega⟩]
        exact fY d dev t st A1 AA c a e (i+1) x.State i (by omega) (by omega) (by omega) ⟨s,q,z⟩
    · rw[if_neg I]at hs
      rw[if_neg (fun k=>I k.1)];exact fY d dev t st A1 AA c a e (i+1) u B0 (by omega) J (by omega) ⟨s,hs,z⟩
def LU (r:AQ) (d:Nat->Int) (dev t:Int):Int:=Jx dev t d r.Entries 0 (Qb r dev)
theorem w7 {r:AQ} {d:Nat->Int} (h:Qf r d) (dev st t:Int):gX r d ⟨dev,st,⟨t,t⟩⟩↔LU r d dev t=st:=by
  constructor
  · intro a
    exact fY h.1.2.1 dev t st t t rfl rfl r.Entries 0 (Qb r dev) (-1) (by omega) (by omega) (by omega) a
  · intro a
    exact T7 h.1.2.1 dev t st t t (Int.le_refl _) (Int.le_refl _) r.Entries 0 (Qb r dev) (-1) (by omega) (by omega) (by omega) (fun h=>by omega) a
end Nore
open Go Go.Ab
namespace Nore
def Tj (l:List Int) (n:Nat):Int:=if l.length=0 then 0 else l.getD (n % l.length) 0
theorem AjN (l:List Int) (h:∀v∈l,0<=v/\v<=65535) (n:Nat):XK l (n:Int)=some (Tj l n)/\0<=Tj l n/\Tj l n<=65535:=by
  rw[uR];unfold eB Tj
  by_cases d:l.length=0
  · simp[d]
  · have a:n % l.length<l.length:=Nat.mod_lt _ (by omega)
    have Cu:((l.length:Int)==0)=false:=GG (by omega)
    have AS:Int.tmod (n:Int) (l.length:Int)=((n % l.length:Nat):Int):=by
      rw[Int.tmod_eq_emod_of_nonneg (by omega)];rfl
    have Aw:decide ((0:Int)<=((n % l.length:Nat):Int))=true:=by rw[Ew];omega
    have BS:decide (((n % l.length:Nat):Int)<(l.length:Int))=true:=by rw[Ew];omega
    have hv:=h _ (Fx a);have w:IntKind.wrap .i64 l[n % l.length]=l[n % l.length]:=by rw[Bv]<;>omega
    simp only[Cu,Ac,AS,Aw,BS,CD,AY,Cd,Dt _ _ _ a,w,if_neg d];exact⟨by first|rfl|trivial,hv⟩
theorem vV (A1 AA v:Int) (d:0<=A1) (b:A1<=AA) (e:AA<=1000000) (hv:0<=v/\v<=65535):∃m,Wz ⟨A1,AA⟩ v=some m/\A1<=m/\m<=AA:=by
  rw[e1];unfold dG;have l:IntKind.wrap .i64 (AA-A1)=AA-A1:=by rw[Bv]<;>omega
  have i:IntKind.wrap .i64 (AA-A1+1)=AA-A1+1:=by rw[Bv]<;>omega
  have c:(AA-A1+1==0)=false:=GG (by omega)
  have a:Int.tmod v (AA-A1+1)=v % (AA-A1+1):=Int.tmod_eq_emod_of_nonneg hv.1;have u:=Int.emod_nonneg v (by omega:AA-A1+1≠0)
  have q:=Int.emod_lt_of_pos v (by omega:0<AA-A1+1)
  have j:IntKind.wrap .i64 (A1+v % (AA-A1+1))=A1+v % (AA-A1+1):=by rw[Bv]<;>omega
  simp only[l,i,c,Ac,a,j];exact⟨_,rfl,by omega,by omega⟩
theorem gT {r:AQ} (h:J0 r) (i:Nat) (AA:i<r.Entries.length):0<=r.Entries[i].At.AK/\r.Entries[i].At.AK<=r.Entries[i].At.A0/\r.Entries[i].At.A0<=9999:=by
  have:=(XT (x:=⟨r.Entries[i].Device,r.Entries[i].State,r.Entries[i].At⟩) (h.Pe _ (Fx AA))).2;simpa using this
theorem AjI {r:AQ} (h:J0 r) (i k:Nat) (f:i<=k) (c:k<r.Entries.length):(r.Entries[i]'(by omega)).At.AK<=r.Entries[k].At.A0:=by
  obtain⟨x,a,e⟩:=wE r.Entries 0 0 h.order;have b:Qi r.Entries.length x:=fun j d=>e j d;have q:=(a i (by omega)).1
  have l:=(a k c).2.1;have g3:=T9 b (k-i) i (by omega)
  rw[show i+(k-i)=k by omega]at g3
  omega
theorem Akl {r:AQ} (h:J0 r) (i:Nat) (AA:i<r.Entries.length):∃m,dZ r (((i+1:Nat):Int),r.Entries[i].At.A0)=some m/\(∀k (a:k<r.Entries.length),i<=k->m<=r.Entries[k].At.A0)/\∃k,∃a:k<r.Entries.length,i<=k/\m=r.Entries[k].At.A0:=by
  obtain⟨w,g,f⟩:=Eo (QJ r) r.Entries.length (fun k (b:Int)=>((k:Int),b))
    (fun k b=>i<k/\(∀j (c:j<r.Entries.length),i<=j->j<k->b<=r.Entries[j].At.A0)/\∃j,∃c:j<r.Entries.length,i<=j/\b=r.Entries[j].At.A0)
    (fun w=>(∀k (a:k<r.Entries.length),i<=k->w<=r.Entries[k].At.A0)/\∃k,∃a:k<r.Entries.length,i<=k/\w=r.Entries[k].At.A0)
    (fun b hb=>⟨b,by simp[QJ,TG],fun k a d=>hb.2.1 k a d a,hb.2.2⟩)
    (fun k b a hb=>by
      right;obtain⟨z,BI,BD⟩:=hb;have AS:decide ((k:Int)<(r.Entries.length:Int))=true:=by simp;omega
      have u:=EH k (by have:=h.many;omega)
      simp only[QJ,TG,AS,ES,Cd,CD,AY,Dt _ _ _ a,u]
      by_cases hc:r.Entries[k].At.A0<b
      · simp only[hc,decide_true,AY]
        refine⟨_,rfl,by omega,fun j c l q=>?_,k,a,by omega,rfl⟩
        by_cases e:j=k
        · subst e;exact Int.le_refl _
        · have:=BI j c l (by omega);omega
      · simp only[hc,decide_false,Ac]
        refine⟨_,rfl,by omega,fun j c l q=>?_,BD⟩
        by_cases e:j=k
        · subst e;omega
        · exact BI j c l (by omega)) (i+1) r.Entries[i].At.A0 (by omega) ⟨by omega,fun j c l q=>by
      have:j=i:=by omega
      subst this;exact Int.le_refl _,i,AA,Nat.le_refl _,rfl⟩
  exact⟨w,g,f⟩
theorem Aja {r:AQ} (h:J0 r) (x:Bx) (Z:∀v∈x.Jv,0<=v/\v<=65535) :
    ∃out,O0 r x=some out/\out.length=r.Entries.length/\Qf r (fun j=>out.getD j 0)/\∀v∈out,0<=v/\v<=9999:=by
  rw[uF];unfold c4;obtain⟨w,h1,h2⟩:=Eo (QI x r) r.Entries.length (fun i (b:Int×List Int)=>((i:Int),b.1,b.2))
    (fun i b=>b.2.length=i/\(∀v∈b.2,0<=v/\v<=9999)/\0<=b.1/\(∀k (z:k<r.Entries.length),i<=k->b.1<=r.Entries[k].At.A0)/\(∀j (a:j<i) (y:j<r.Entries.length),r.Entries[j].At.AK<=b.2.getD j 0/\b.2.getD j 0<=r.Entries[j].At.A0/\b.2.getD j 0<=b.1)/\∀j,j+1<i->b.2.getD j 0<=b.2.getD (j+1) 0)
    (fun w=>w.length=r.Entries.length/\(∀v∈w,0<=v/\v<=9999)/\(∀j (a:j<r.Entries.length),r.Entries[j].At.AK<=w.getD j 0/\w.getD j 0<=r.Entries[j].At.A0)/\∀j,j+1<r.Entries.length->w.getD j 0<=w.getD (j+1) 0)
    (fun b hb=>⟨b.2,by simp[QI,Sx],hb.1,hb.2.1,fun j a=>⟨(hb.2.2.2.2.1 j a a).1,(hb.2.2.2.2.1 j a a).2.1⟩,hb.2.2.2.2.2⟩)
    (fun i b AA hb=>by
      right;obtain⟨C,out⟩:=b;obtain⟨BI,BD,B9,DM,Em,OJ⟩:=hb;simp only at BI BD B9 DM Em OJ;have hn:=h.many;have AS:decide ((i:Int)<(r.Entries.length:Int))=true:=by simp;omega
      have w1:=EH i (by omega)
      obtain⟨m,U,s,K,l,f,O⟩:=Akl h i AA;have a0:=gT h i AA;have M:=gT h K l;have ha:=AjI h i K f l;have a2:=DM K l f;have hf:(bif decide (r.Entries[i].At.AK>C)then r.Entries[i].At.AK else C)=(if r.Entries[i].At.AK>C then r.Entries[i].At.AK else C):=by by_cases q:r.Entries[i].At.AK>C<;>simp[q]
      have d:r.Entries[i].At.AK<=(if r.Entries[i].At.AK>C then r.Entries[i].At.AK else C)/\C<=(if r.Entries[i].At.AK>C then r.Entries[i].At.AK else C)/\(if r.Entries[i].At.AK>C then r.Entries[i].At.AK else C)<=m:=by
        split<;>omega
      generalize hF:(if r.Entries[i].At.AK>C then r.Entries[i].At.AK else C)=first at hf d
      obtain⟨t1,t2,t3⟩:=AjN x.Jv Z i;have g:(bif decide (m>first)then m else first)=m:=by
        by_cases q:m>first
        · simp[q]
        · simp[q];omega
      have n:O3 first m=some ⟨first,m⟩:=by rw[Ws];rfl
      obtain⟨v,hv,W,Q⟩:=vV first m (Tj x.Jv i) (by omega) (by omega) (by omega) ⟨t2,t3⟩
      have b1:Nat.ble ((i+1)*(8+1)) 200000000000000=true:=by rw[Nat.ble_eq];omega
      simp only[QI,Sx,AS,ES,Cd,CD,AY,Dt _ _ _ AA,w1,U,B7,hf,g,n,t1,hv,BI,List.length_singleton,b1];have a1:=s i AA (Nat.le_refl _);have c:∀j,j<i->(out++[v]).getD j 0=out.getD j 0:=fun j a=>by
        simp only[List.getD_eq_getElem?_getD,List.getElem?_append_left (by omega:j<out.length)]
      have o:(out++[v]).getD i 0=v:=by
        simp only[List.getD_eq_getElem?_getD,<-BI];simp
      refine⟨(v,out++[v]),rfl,by simp[BI],fun u t=>?_,by show 0<=v;omega,fun k z a3=>?_,fun j a y=>?_,fun j a=>?_⟩
      · rcases List.mem_append.1 t with t|t
        · exact BD u t
        · rw[List.mem_singleton.1 t];omega
      · have:=s k z (by omega)
        show v<=r.Entries[k].At.A0;omega
      · show r.Entries[j].At.AK<=(out++[v]).getD j 0/\(out++[v]).getD j 0<=r.Entries[j].At.A0/\(out++[v]).getD j 0<=v
        by_cases e:j=i
        · subst e
          rw[o];omega
        · rw[c j (by omega)]
          have:=Em j (by omega) y
          omega
      · show(out++[v]).getD j 0<=(out++[v]).getD (j+1) 0
        by_cases e:j+1=i
        · subst e
          rw[o,c j (by omega)]
          have:=(Em j (by omega) (by omega)).2.2
          omega
        · rw[c j (by omega),c (j+1) (by omega)]
          exact OJ j (by omega)) 0 (0,[]) (Nat.zero_le _) ⟨rfl,(fun v hv=>by cases hv),Int.le_refl _,(fun k z _=>by have:=gT h k z;omega),(fun j a=>by omega),(fun j a=>by omega)⟩
  have J:dY x r (0,0,[])=some w:=h1;obtain⟨g1,g2,g3,g4⟩:=h2;refine⟨w,by rw[J];rfl,g1,?_,g2⟩
  have hb:∀i (AA:i<r.Entries.length),(FZ (H7 r) []).A1 i=r.Entries[i].At.AK/\(FZ (H7 r) []).AA i=r.Entries[i].At.A0:=fun i AA=>by
    show((r.Entries.getD i (AN.mk 0 0 (AE.mk 0 0))).At).AK=_/\((r.Entries.getD i (AN.mk 0 0 (AE.mk 0 0))).At).A0=_;rw[Dt _ _ _ AA];exact⟨rfl,rfl⟩
  exact⟨⟨fun i AA=>by rw[(hb i AA).1];exact(g3 i AA).1,fun i AA=>g4 i AA,fun p I=>by cases I⟩,⟨fun i AA=>by rw[(hb i AA).2];exact(g3 i AA).2,fun i AA=>g4 i AA,fun p I=>by cases I⟩⟩
theorem vU {r:AQ} (hn:r.Entries.length<=10) (u:List Int) (hl:u.length=r.Entries.length) {dev:Int} (c:0<=dev/\dev<r.Au.length) (t:Int) :
    Q4 r u dev t=some (LU r (fun j=>u.getD j 0) dev t):=by
  rw[uL];unfold dF;have Aw:decide (0<=dev)=true:=by simp[c.1]
  have BS:decide (dev<(r.Au.length:Int))=true:=by simp[c.2]
  simp only[Aw,BS,CD,AY];obtain⟨w,e,d⟩:=Eo (QQ t u dev r) r.Entries.length (fun i (b:Int)=>(b,(i:Int)))
    (fun i b=>Jx dev t (fun j=>u.getD j 0) (r.Entries.drop i) i b=LU r (fun j=>u.getD j 0) dev t) (fun w=>w=LU r (fun j=>u.getD j 0) dev t)
    (fun b hb=>⟨b,by simp[QQ,TJ,hl],by rw[List.drop_length]at hb;exact hb⟩)
    (fun i b AA hb=>by
      right;have AS:decide ((i:Int)<(r.Entries.length:Int))=true:=by simp;omega
      have C:=EH i (by omega)
      rw[HO AA,T1]at hb;simp only[QQ,TJ,hl,AS,ES,Cd,CD,AY,Dt _ _ _ AA,C]
      by_cases l:r.Entries[i].Device=dev
      · have z:(r.Entries[i].Device==dev)=true:=by simp[l]
        simp only[z,AY]
        by_cases ht:u.getD i 0<=t
        · simp only[ht,decide_true,AY]
          rw[if_pos ⟨l,ht⟩]at hb;exact⟨_,rfl,hb⟩
        · simp only[ht,decide_false,Ac]
          rw[if_neg (fun q=>ht q.2)]at hb;exact⟨_,rfl,hb⟩
      · have z:(r.Entries[i].Device==dev)=false:=GG l
        simp only[z,Ac];rw[if_neg (fun q=>l q.1)]at hb;exact⟨_,rfl,hb⟩) 0 (r.Au.getD dev.toNat (A9.mk ByteArray.empty 0 0)).FB (Nat.zero_le _) rfl
  have a:eJ t u dev r ((r.Au.getD dev.toNat (A9.mk ByteArray.empty 0 0)).FB,0)=some w:=e;rw[a,d];rfl
end Nore
open Go Go.Ab
namespace Nore
theorem O6 (v k:Int) (hv:0<=v) (a:0<k):0<=Int.tmod v k/\Int.tmod v k<k:=⟨Int.tmod_nonneg k hv,Int.tmod_lt_of_pos v a⟩
theorem wT {r:AQ} (h:J0 r) (z:Nat->Int) {dev:Int} (f:0<=dev/\dev<r.Au.length) (t:Int) {S:Nat} (c:(r.Au.getD dev.toNat (A9.mk ByteArray.empty 0 0)).Dk=(S:Int)) :
    0<=LU r z dev t/\LU r z dev t<(S:Int):=by
  have a:∀(e:List AN) (i:Nat) (u:Int),(∀x∈e,x∈r.Entries)->0<=u/\u<(S:Int)->0<=Jx dev t z e i u/\Jx dev t z e i u<(S:Int):=by
    intro e
    induction e with
    | nil=>intro i u _ hn;exact hn
    | cons x e ih =>
      intro i u b hn;rw[T1];refine ih (i+1) _ (fun y hy=>b y (by simp[hy])) ?_
      split
      · rename_i hc
        have hE:=h.Pe x (b x (by simp))
        unfold EK at hE;have g:=h.VO;have BI:Cx 0 ((r.Au.length:Int)-1) [x.Device]=false:=by
          cases q:Cx 0 ((r.Au.length:Int)-1) [x.Device]with
          | false=>rfl
          | true=>rw[q]at hE;exact absurd hE (by simp)
        rw[BI,hc.1,c]at hE;have k:2<=S/\S<=4:=by
          obtain⟨I,j,l,m⟩:=Q0 h f;rw[c]at j;omega
        have C:IntKind.wrap .i64 ((S:Int)-1)=(S:Int)-1:=by rw[Bv]<;>omega
        rw[C]at hE;have BD:Cx 0 ((S:Int)-1) [x.State]=false:=by
          cases q:Cx 0 ((S:Int)-1) [x.State]with
          | false=>rfl
          | true=>rw[q]at hE;exact absurd hE (by simp)
        have:=MJ BD;omega
      · exact hn
  refine a r.Entries 0 _ (fun x b=>b) ?_;have d:r.Au.getD dev.toNat (A9.mk ByteArray.empty 0 0)=r.Au[dev.toNat]'(by omega):=Dt _ _ _ (by omega)
  have hf:=(h.dev _ (Fx (by omega:dev.toNat<r.Au.length))).2
  rw[d]at c;rw[c]at hf;show 0<=(r.Au.getD dev.toNat ⟨ByteArray.empty,0,0⟩).FB/\(r.Au.getD dev.toNat ⟨ByteArray.empty,0,0⟩).FB<(S:Int);rw[d];exact hf
theorem wQ {r:AQ} (h:J0 r) {dev st A1 AA:Int} (b:0<=dev/\dev<r.Au.length) {S:Nat} (a:(r.Au.getD dev.toNat (A9.mk ByteArray.empty 0 0)).Dk=(S:Int)) (d:0<=st/\st<(S:Int)) (e:0<=A1) (g:A1<=AA) (c:AA<=9999):EK r dev st ⟨A1,AA⟩=0:=by
  unfold EK;have BI:Cx 0 ((r.Au.length:Int)-1) [dev]=false:=by
    simp only[K7,K8,Bool.or_false,Bool.or_eq_false_iff,decide_eq_false_iff_not];omega
  have i:2<=S/\S<=4:=by
    obtain⟨q,f,j,k⟩:=Q0 h b;rw[a]at f;omega
  have l:IntKind.wrap .i64 ((S:Int)-1)=(S:Int)-1:=by rw[Bv]<;>omega
  have BD:Cx 0 ((S:Int)-1) [st]=false:=by
    simp only[K7,K8,Bool.or_false,Bool.or_eq_false_iff,decide_eq_false_iff_not];omega
  have B9:Cx 0 9999 [A1,AA]=false:=by
    simp only[K7,K8,Bool.or_false,Bool.or_eq_false_iff,decide_eq_false_iff_not];omega
  rw[BI,a,l,BD,B9];simp only[CI,if_false];rw[if_neg (by omega)]
set_option maxHeartbeats 1000000 in
theorem Akr {r:AQ} (h:J0 r) (x:Bx) (Z:∀v∈x.Jv,0<=v/\v<=65535) (hy:∀v∈x.Bh,0<=v/\v<=65535) :
    ∃C out,O0 r x=some C/\C.length=r.Entries.length/\Qf r (fun j=>C.getD j 0)/\(∀v∈C,0<=v/\v<=9999)/\QX (x,r)=some out/\out.length<=4/\∀w∈out,EK r w.Device w.State w.At=0/\T8 r (fun j=>C.getD j 0) w:=by
  obtain⟨C,K,I,m3,m4⟩:=Aja h x Z;obtain⟨w,y,o⟩:=Eo (OV C x r) 4 (fun i (b:List Aa)=>(((4*i:Nat):Int),b))
    (fun i b=>b.length=i/\∀w∈b,EK r w.Device w.State w.At=0/\T8 r (fun j=>C.getD j 0) w) (fun b=>b.length<=4/\∀w∈b,EK r w.Device w.State w.At=0/\T8 r (fun j=>C.getD j 0) w)
    (fun b hb=>⟨b,by
      have AS:decide (((b.length:Int))<4)=false:=by rw[hb.1];rfl
      simp only[OV,QG,AS,Ac,Bool.cond_self],by omega,hb.2⟩)
    (fun i b AA hb=>by
      obtain⟨BI,BD⟩:=hb;have J:IntKind.wrap .i64 (((4*i:Nat):Int)+3)=((4*i+3:Nat):Int):=by rw[Bv]<;>omega
      by_cases hc:4*i+3<x.Bh.length
      · right
        have w1:IntKind.wrap .i64 (((4*i:Nat):Int)+1)=((4*i+1:Nat):Int):=by rw[Bv]<;>omega
        have w2:IntKind.wrap .i64 (((4*i:Nat):Int)+2)=((4*i+2:Nat):Int):=by rw[Bv]<;>omega
        have w4:IntKind.wrap .i64 (((4*i:Nat):Int)+4)=((4*(i+1):Nat):Int):=by rw[Bv]<;>omega
        have k0:decide (((4*i:Nat):Int)<(x.Bh.length:Int))=true:=by rw[Ew];omega
        have k1:decide (((4*i+1:Nat):Int)<(x.Bh.length:Int))=true:=by rw[Ew];omega
        have k2:decide (((4*i+2:Nat):Int)<(x.Bh.length:Int))=true:=by rw[Ew];omega
        have O:decide (((4*i+3:Nat):Int)<(x.Bh.length:Int))=true:=by rw[Ew];omega
        have U:decide ((b.length:Int)<4)=true:=by rw[Ew];omega
        have a0:=h.VO;have kd:((r.Au.length:Int)==0)=false:=GG (by omega)
        have v0:=hy _ (Fx (by omega:4*i<x.Bh.length))
        have v1:=hy _ (Fx (by omega:4*i+1<x.Bh.length))
        have v2:=hy _ (Fx (by omega:4*i+2<x.Bh.length))
        have v3:=hy _ (Fx (by omega:4*i+3<x.Bh.length))
        have u0:IntKind.wrap .i64 x.Bh[4*i]=x.Bh[4*i]:=by rw[Bv]<;>omega
        have u1:IntKind.wrap .i64 x.Bh[4*i+1]=x.Bh[4*i+1]:=by rw[Bv]<;>omega
        have AV:IntKind.wrap .i64 x.Bh[4*i+2]=x.Bh[4*i+2]:=by rw[Bv]<;>omega
        have A4:IntKind.wrap .i64 x.Bh[4*i+3]=x.Bh[4*i+3]:=by rw[Bv]<;>omega
        have d:=O6 x.Bh[4*i] (r.Au.length:Int) v0.1 (by omega)
        have ht:=O6 x.Bh[4*i+1] 10000 v1.1 (by omega)
        have z:=O6 x.Bh[4*i+2] 30 v2.1 (by omega)
        have hB:=O6 x.Bh[4*i+3] 30 v3.1 (by omega)
        have g:=vU h.many C I (dev:=Int.tmod x.Bh[4*i] (r.Au.length:Int)) d (Int.tmod x.Bh[4*i+1] 10000);have n:Nat.ble ((b.length+1)*(32+1)) 200000000000000=true:=by rw[Nat.ble_eq];omega
        simp only[OV,QG,w1,w2,J,w4,k0,k1,k2,O,U,kd,ES,Cd,CD,AY,Ac,Dt _ _ _ (by omega:4*i<x.Bh.length),Dt _ _ _ (by omega:4*i+1<x.Bh.length),Dt _ _ _ (by omega:4*i+2<x.Bh.length),Dt _ _ _ (by omega:4*i+3<x.Bh.length),u0,u1,AV,A4,g,B7,List.length_singleton,n]
        generalize a2:Int.tmod x.Bh[4*i] (r.Au.length:Int)=dev at d;generalize Q:Int.tmod x.Bh[4*i+1] 10000=t at ht;generalize M:Int.tmod x.Bh[4*i+2] 30=a at z;generalize a1:Int.tmod x.Bh[4*i+3] 30=c at hB;have wa:IntKind.wrap .i64 (t-a)=t-a:=by rw[Bv]<;>omega
        have W:IntKind.wrap .i64 (t+c)=t+c:=by rw[Bv]<;>omega
        have m:(bif decide (t-a>0)then t-a else 0)=(if t-a>0 then t-a else 0):=by by_cases q:t-a>0<;>simp[q]
        have k:(bif decide (t+c<9999)then t+c else 9999)=(if t+c<9999 then t+c else 9999):=by by_cases q:t+c<9999<;>simp[q]
        have f:∀u v,O3 u v=some ⟨u,v⟩:=fun u v=>by rw[Ws];rfl
        simp only[wa,W,m,k,f,B7];obtain⟨S,p,_,s⟩:=Q0 h d;refine⟨_,rfl,by simp[BI],fun w e=>?_⟩
        rcases List.mem_append.1 e with e|e
        · exact BD w e
        · rw[List.mem_singleton.1 e]
          refine⟨wQ h d p (wT h _ d t p) ?_ ?_ ?_,t,?_,?_,rfl⟩
          · split<;>omega
          · split<;>split<;>omega
          · split<;>omega
          · show(if t-a>0 then t-a else 0)<=t
            split<;>omega
          · show t<=(if t+c<9999 then t+c else 9999)
            split<;>omega
      · left
        have AS:decide (((4*i+3:Nat):Int)<(x.Bh.length:Int))=false:=by rw[decide_eq_false_iff_not];omega
        exact⟨b,by simp only[OV,QG,J,AS,Ac],by omega,BD⟩) 0 [] (Nat.zero_le _) ⟨rfl,fun w e=>by cases e⟩
  have l:eA C x r (0,[])=some w:=y;refine⟨C,w,K,I,m3,m4,?_,o.1,o.2⟩;rw[uG];unfold c5;simp only[K,B7,l]
end Nore
open Go Go.Ab
namespace Nore
theorem AjC (l:List Int) (hl:l.length<=1000000) (v:Int):∃k,Wh l v=some k/\(decide (k>=0)=decide (v∈l)):=by
  rw[s6];unfold bZ;obtain⟨w,d,b⟩:=Eo (Qq (l.length:Int) v l) l.length (fun i (_:Unit)=>(i:Int)) (fun i _=>¬v∈l.take i)
    (fun w=>(∃i:Nat,w=.inl (i:Int)/\v∈l)\/(w=.inr ()/\¬v∈l))
    (fun _ hb=>⟨.inr (),by simp[Qq,Sk],.inr ⟨rfl,by rwa [List.take_length]at hb⟩⟩)
    (fun i _ AA hb=>by
      have AS:decide ((i:Int)<(l.length:Int))=true:=by simp;omega
      have j:=EH i (by omega)
      simp only[Qq,Sk,AS,ES,Cd,CD,AY,Dt _ _ _ AA,j]
      by_cases e:v=l[i]
      · left
        have c:(v==l[i])=true:=by simp[e]
        simp only[c,AY];exact⟨_,rfl,.inl ⟨i,rfl,e▸Fx AA⟩⟩
      · right
        have c:(v==l[i])=false:=GG e;simp only[c,Ac];refine⟨(),by first|rfl|trivial,fun h=>?_⟩
        rw[List.take_succ_eq_append_getElem AA]at h;rcases List.mem_append.1 h with h|h
        · exact hb h
        · exact e (List.mem_singleton.1 h)) 0 () (Nat.zero_le _) (by simp)
  have a:cE (l.length:Int) v l 0=some w:=d;rw[a];rcases b with⟨i,rfl,h⟩|⟨rfl,h⟩
  · exact⟨(i:Int),rfl,by simp[h]⟩
  · exact⟨-1,rfl,by simp[h]⟩
theorem Ajd (l:List Int) (hl:l.length<=1000000) (v:Int):Wa l v=some (decide (v∈l)):=by
  rw[sW];unfold bR;obtain⟨k,a,b⟩:=AjC l hl v;simp only[a,B7,b]
def H6 (r:AQ) (l:List Aa) (dev t:Int):List Int:=Gi r l dev t (r.Au.getD dev.toNat (A9.mk ByteArray.empty 0 0)).Dk.toNat
def LS (L:List Int) (st:Int):Int:=if st∈L then(if L.length=1 then 2 else 1)else 0
def J2 (r:AQ) (l:List Aa) (x:Aa):Int :=
  if(Fl r l).2≠0 then(Fl r l).2 else if EK r x.Device x.State x.At≠0 then EK r x.Device x.State x.At else if x.At.AK≠x.At.A0 then 2 else if HG r l then 0 else 9
theorem AiU (r:AQ) (l:List Aa) (x:Aa):XH r l x=some (⟨r,l⟩,J2 r l x):=by
  rw[uM];unfold dT;rw[tW r l];simp only[B7];unfold J2
  by_cases q:(Fl r l).2=0
  · obtain⟨AH,hl,_⟩:=gP q
    have a:=AH.VO;have c:((Fl r l).2==0)=true:=by simp[q]
    simp only[c,AY,if_neg (fun h:(Fl r l).2≠0=>h q),eZ r x (by omega:r.Au.length<=1000000),B7,e0 (gU q)]
    by_cases BI:EK r x.Device x.State x.At=0
    · have Aw:(EK r x.Device x.State x.At != 0)=false:=by simp[BI]
      simp only[Aw,Ac,if_neg (fun h:EK r x.Device x.State x.At≠0=>h BI)]
      by_cases BD:x.At.AK=x.At.A0
      · have BS:(x.At.AK != x.At.A0)=false:=by simp[BD]
        simp only[BS,Ac,if_neg (fun h:x.At.AK≠x.At.A0=>h BD)];unfold HG;cases(Qv r l).isEmpty<;>rfl
      · have BS:(x.At.AK != x.At.A0)=true:=HH BD
        simp only[BS,AY,if_pos BD]
    · have Aw:(EK r x.Device x.State x.At != 0)=true:=HH BI
      simp only[Aw,AY,if_pos BI]
  · have c:((Fl r l).2==0)=false:=GG q
    have c':((Fl r l).2 != 0)=true:=HH q;simp only[c,c',AY,Ac,if_pos q]
theorem Aix {r:AQ} {l:List Aa} (h:Qh r l) (AH:J0 r) (hl:l.length<=4) {x:Aa} (g:EK r x.Device x.State x.At=0) :
    Wb ⟨r,l⟩ x=some (LS (H6 r l x.Device x.At.AK) x.State):=by
  rw[sZ];unfold bV;obtain⟨hs,a,j,k⟩:=XT g;obtain⟨S,d,_,f⟩:=Q0 AH hs.dev;have b:=AiB h hl hs.dev ⟨a,by omega⟩ d (by omega)
  have i:H6 r l x.Device x.At.AK=Gi r l x.Device x.At.AK S:=by unfold H6;rw[d,Cd]
  rw[i];have e:=fH r l x.Device x.At.AK S;simp only[b,B7,Ajd _ (by omega:(Gi r l x.Device x.At.AK S).length<=1000000)]
  unfold LS
  by_cases q:x.State∈Gi r l x.Device x.At.AK S
  · simp only[q,decide_true,Bool.not_true,Ac,if_true]
    by_cases a:(Gi r l x.Device x.At.AK S).length=1
    · have c:(((Gi r l x.Device x.At.AK S).length:Int)==1)=true:=by simp[a]
      simp only[c,AY,if_pos a]
    · have c:(((Gi r l x.Device x.At.AK S).length:Int)==1)=false:=GG (by omega)
      simp only[c,Ac,if_neg a]
  · simp only[q,decide_false,Bool.not_false,AY,if_false]
theorem Ak9 {r:AQ} {l:List Aa} {x:Aa} (h:J2 r l x=0):(Fl r l).2=0/\EK r x.Device x.State x.At=0/\x.At.AK=x.At.A0/\HG r l=true:=by
  unfold J2 at h
  by_cases q:(Fl r l).2=0
  · rw[if_neg (fun k=>k q)]at h
    by_cases BI:EK r x.Device x.State x.At=0
    · rw[if_neg (fun k=>k BI)]at h
      by_cases BD:x.At.AK=x.At.A0
      · rw[if_neg (fun k=>k BD)]at h
        cases B9:HG r l with
        | true=>exact⟨q,BI,BD,rfl⟩
        | false=>rw[B9]at h;exact absurd h (by simp)
      · rw[if_pos BD]at h;exact absurd h (by simp)
    · rw[if_pos BI]at h;exact absurd h BI
  · rw[if_pos q]at h;exact absurd h q
theorem Aiw (r:AQ) (l:List Aa) (x:Aa):TX r l x=some (if J2 r l x≠0 then(0,J2 r l x)else(LS (H6 r l x.Device x.At.AK) x.State,0)):=by
  rw[tV];unfold dD;rw[AiU];simp only[B7]
  by_cases q:J2 r l x=0
  · obtain⟨a,b,_,_⟩:=Ak9 q
    obtain⟨AH,hl,_⟩:=gP a;have c:(J2 r l x != 0)=false:=by simp[q]
    simp only[c,Ac,if_neg (fun k:J2 r l x≠0=>k q),Aix (gU a) AH hl b,B7]
  · have c:(J2 r l x != 0)=true:=HH q
    simp only[c,AY,if_pos q]
theorem AjW {r:AQ} {l:List Aa} (AH:J0 r) {dev:Int} (e:0<=dev/\dev<r.Au.length) (t st:Int):st∈H6 r l dev t↔∃i,NF r l i/\LU r i dev t=st:=by
  obtain⟨S,f,_,_⟩:=Q0 AH e;have d:∀s,HG r (II l dev s t)=true↔∃i,NF r l i/\LU r i dev t=s:=fun s=>by
    rw[Ajr];constructor
    · rintro⟨i,c,a⟩
      exact⟨i,⟨c,fun x b=>a x (List.mem_append.2 (.inl b))⟩,(w7 c dev s t).1 (a _ (List.mem_append.2 (.inr (List.mem_singleton.2 rfl))))⟩
    · rintro⟨i,⟨c,a⟩,g⟩
      refine⟨i,c,fun x b=>?_⟩;rcases List.mem_append.1 b with b|b
      · exact a x b
      · rw[List.mem_singleton.1 b]
        exact(w7 c dev s t).2 g
  unfold H6 Gi;rw[f,Cd];constructor
  · intro h
    obtain⟨s,hs,rfl⟩:=List.mem_map.1 h;exact(d _).1 (List.mem_filter.1 hs).2
  · rintro⟨i,c,a⟩
    have hb:=wT AH i e t f;rw[a]at hb;refine List.mem_map.2 ⟨st.toNat,List.mem_filter.2 ⟨List.mem_range.2 (by omega),?_⟩,by omega⟩
    rw[show((st.toNat:Nat):Int)=st by omega]
    exact(d st).2 ⟨i,c,a⟩
end Nore
namespace Nore.Geo
def AAJ:List Int:=[0,195,383,556,707,831,924,981,1000,981,924,831,707,556,383,195,0,-195,-383,-556,-707,-831,-924,-981,-1000,-981,-924,-831,-707,-556,-383,-195]
def AAK:List Int:=[1000,981,924,831,707,556,383,195,0,-195,-383,-556,-707,-831,-924,-981,-1000,-981,-924,-831,-707,-556,-383,-195,0,195,383,556,707,831,924,981]
def CZ (p:Nat):Int:=AAJ.getD p 0
def D2 (p:Nat):Int:=AAK.getD p 0
def Fw (p:Nat) (X Y:Int):Int:=CZ p*Y-D2 p*X
def sB (t:Nat) (X Y:Int):Prop:=Fw t X Y<=0/\Fw ((t+1) % 32) X Y>0
theorem AsL:∀p,p<16->CZ (p+16) = - CZ p/\D2 (p+16) = - D2 p:=by decide
theorem AAF {X Y:Int} (h:X≠0\/Y≠0):∃t,t<32/\sB t X Y:=by
  by_cases d:∃t,t<32/\sB t X Y
  · exact d
  · exfalso
    have hn:∀t,t<32->Fw t X Y<=0->Fw ((t+1) % 32) X Y<=0:=fun t ht a=>by
      apply Int.not_lt.1;intro b;exact d ⟨t,ht,a,b⟩
    have all:∀t,t<32->Fw t X Y<=0->∀j,Fw ((t+j) % 32) X Y<=0:=fun t ht a j=>by
      induction j with
      | zero=>rw[show(t+0) % 32=t by omega];exact a
      | succ j ih =>
        have:=hn ((t+j) % 32) (by omega) ih
        rw[show((t+j) % 32+1) % 32=(t+(j+1)) % 32 by omega]at this
        exact this
    have o:=AsL;have J:Fw 0 X Y = - (1000*X):=by unfold Fw;simp only[show CZ 0=0 from rfl,show D2 0=1000 from rfl];omega
    have I:Fw 8 X Y=1000*Y:=by unfold Fw;simp only[show CZ 8=1000 from rfl,show D2 8=0 from rfl];omega
    have q:Fw 16 X Y=1000*X:=by unfold Fw;simp only[show CZ 16=0 from rfl,show D2 16 = -1000 from rfl];omega
    have l:Fw 24 X Y = - (1000*Y):=by unfold Fw;simp only[show CZ 24 = -1000 from rfl,show D2 24=0 from rfl];omega
    have z:∃t,t<32/\Fw t X Y<=0:=by
      by_cases i:Fw 0 X Y<=0
      · exact⟨0,by omega,i⟩
      · exact⟨16,by omega,by omega⟩
    obtain⟨t,ht,a⟩:=z;have r:∀p,p<32->Fw p X Y<=0:=fun p c=>by
      have:=all t ht a (p+32-t);rw[show(t+(p+32-t)) % 32=p by omega]at this
      exact this
    have K:=r 0 (by omega)
    have C:=r 8 (by omega)
    have u:=r 16 (by omega)
    have e:=r 24 (by omega)
    omega
end Nore.Geo
open Go Go.Ab
namespace Nore
def LV (far k:Int):Nat->Int->Int->Int
  | 0,c,_=>c
  | f+1,c,n=>if 0<c/\n*k*(n*k)<=far then LV far k f (c / 2) (n+1)else c
def Qt (o far:Int):Bool:=decide (o*1000000>=far)
def LY (far c k:Int):Bool:=Qt (LV far (k*100) 13 c 1) far
def Io (v:A6):Int:=v.X*v.X+v.Y*v.Y
theorem hJ {a b:Int} (d : -b<=a) (c:a<=b):0<=a*a/\a*a<=b*b:=by
  rcases Int.le_total 0 a with h|h
  · exact⟨Int.mul_nonneg h h,Int.mul_le_mul c c h (by omega)⟩
  · have:=Int.mul_le_mul (show -a<=b by omega) (show -a<=b by omega) (by omega) (by omega)
    rw[Int.neg_mul_neg]at this;exact⟨Int.mul_nonneg_of_nonpos_of_nonpos h h,this⟩
def K1 (v:A6):Prop := -60000<=v.X/\v.X<=60000 /\ -60000<=v.Y/\v.Y<=60000
theorem xL {v:A6} (h:K1 v):IntKind.wrap .i64 (IntKind.wrap .i64 (v.X*v.X)+IntKind.wrap .i64 (v.Y*v.Y))=Io v/\0<=Io v/\Io v<=7200000000:=by
  obtain⟨i,e,d,j⟩:=h;have x:=hJ i e;have y:=hJ d j;have AS:IntKind.wrap .i64 (v.X*v.X)=v.X*v.X:=by rw[Bv]<;>omega
  have BG:IntKind.wrap .i64 (v.Y*v.Y)=v.Y*v.Y:=by rw[Bv]<;>omega
  unfold Io;rw[AS,BG,Bv]<;>omega
theorem xF {n k:Int} (hn:1<=n/\n<=14) (c:1<=k/\k<=300):IntKind.wrap .i64 (IntKind.wrap .i64 (IntKind.wrap .i64 (IntKind.wrap .i64 (n*n)*k)*k)*10000)=n*(k*100)*(n*(k*100))/\IntKind.wrap .i64 (n*(k*100)*(n*(k*100)))=n*(k*100)*(n*(k*100)):=by
  have d:=hJ (a:=n) (b:=14) (by omega) (by omega)
  have i:0<=n*n*k/\n*n*k<=196*300:=⟨Int.mul_nonneg d.1 (by omega),Int.mul_le_mul d.2 c.2 (by omega) (by omega)⟩
  have q:0<=n*n*k*k/\n*n*k*k<=196*300*300:=⟨Int.mul_nonneg i.1 (by omega),Int.mul_le_mul i.2 c.2 (by omega) (by omega)⟩
  have e:n*(k*100)*(n*(k*100))=n*n*k*k*10000:=by
    rw[show(10000:Int)=100*100 from rfl];ac_rfl
  have AS:IntKind.wrap .i64 (n*n)=n*n:=by rw[Bv]<;>omega
  have BG:IntKind.wrap .i64 (n*n*k)=n*n*k:=by rw[Bv]<;>omega
  have j:IntKind.wrap .i64 (n*n*k*k)=n*n*k*k:=by rw[Bv]<;>omega
  have l:IntKind.wrap .i64 (n*n*k*k*10000)=n*n*k*k*10000:=by rw[Bv]<;>omega
  rw[e,AS,BG,j,l];exact⟨rfl,rfl⟩
theorem xE {c:Int} {i:Nat} (AA:i<13) (h:0<=c/\c<2 ^ (13-i)):0<=c / 2/\c / 2<2 ^ (13-(i+1)):=by
  have e:13-i=13-(i+1)+1:=by omega
  rw[e,Int.pow_succ]at h;omega
theorem AiX {v:A6} (hv:K1 v) {c k:Int} (hc:0<=c/\c<=5000) (g:1<=k/\k<=300):XL v c k=some (LY (Io v) c k):=by
  rw[uS];unfold eD;rw[fC];unfold cV;obtain⟨u,q,l⟩:=xL hv;rw[u];simp only[B7];generalize Io v=far at q l;have key:=Is (QN far k) (fun o=>some (decide (IntKind.wrap .i64 (o*1000000)>=far))) 13 (fun i (c:Int)=>(c,((i+1:Nat):Int))) (fun i c=>(0<=c/\c<2 ^ (13-i))/\c<=5000)
    (fun i c=>some (Qt (LV far (k*100) (13-i) c ((i+1:Nat):Int)) far))
    (by
      intro b hb R;have:b=0:=by have:=hb.1;simp at this;omega
      subst this;simp[QN,TF,LV,Qt,show IntKind.wrap .i64 0=0 from rfl])
    (by
      intro i b AA hb R h;have j:=xE AA hb.1;have a:=h (b / 2) ⟨j,by omega⟩
      have e:IntKind.wrap .i64 ((((i+1:Nat):Int))+1)=((i+1+1:Nat):Int):=by rw[Bv]<;>omega
      have f:IntKind.wrap .i64 (Int.tdiv b 2)=b / 2:=by rw[Int.tdiv_eq_ediv_of_nonneg hb.1.1,Bv]<;>omega
      have hl:=(xF (n:=((i+1:Nat):Int)) (k:=k) (by omega) g).1
      have d:IntKind.wrap .i64 (b*1000000)=b*1000000:=by rw[Bv]<;>omega
      simp only[QN,TF,hl,e,f];rw[show 13-i=13-(i+1)+1 by omega]
      simp only[LV]
      by_cases Aw:0<b
      · by_cases BS:((i+1:Nat):Int)*(k*100)*(((i+1:Nat):Int)*(k*100))<=far
        · rw[if_pos ⟨Aw,BS⟩]
          simp only[Aw,BS,decide_true,AY,B7,LF,gt_iff_lt];exact a
        · rw[if_neg (fun k=>BS k.2)]
          simp only[Aw,BS,decide_true,decide_false,AY,Ac,B7,IC,gt_iff_lt,d];rfl
      · rw[if_neg (fun k=>Aw k.1)]
        simp only[Aw,decide_false,Ac,B7,IC,gt_iff_lt,d];rfl)
  exact key 0 c (by omega) ⟨⟨hc.1,by simp;omega⟩,hc.2⟩
theorem Wt {v:A6} (hv:K1 v) {c k:Int} (hc:0<=c/\c<=5000) (g:1<=k/\k<=300):OZ ⟨c,k⟩ v=some (LY (Io v) c k):=by
  rw[uD];unfold cT;obtain⟨z,q,l⟩:=xL hv;have u:IntKind.wrap .i64 (k*100)=k*100:=by rw[Bv]<;>omega
  simp only[z,u];generalize Io v=far at q l;have key:=Is (QC far (k*100)) (fun o=>some (decide (IntKind.wrap .i64 (o*1000000)>=far))) 13 (fun i (c:Int)=>(c,((i+1:Nat):Int)*(k*100))) (fun i c=>(0<=c/\c<2 ^ (13-i))/\c<=5000)
    (fun i c=>some (Qt (LV far (k*100) (13-i) c ((i+1:Nat):Int)) far))
    (by
      intro b hb R;have:b=0:=by have:=hb.1;simp at this;omega
      subst this;simp[QC,Sv,LV,Qt,show IntKind.wrap .i64 0=0 from rfl])
    (by
      intro i b AA hb R h;have j:=xE AA hb.1;have a:=h (b / 2) ⟨j,by omega⟩
      have e:IntKind.wrap .i64 (((i+1:Nat):Int)*(k*100)+k*100)=((i+1+1:Nat):Int)*(k*100):=by
        rw[Bv]
        · rw[Int.natCast_add (i+1) 1,Int.add_mul,Int.natCast_one,Int.one_mul]
        · have:=Int.mul_nonneg (show 0<=((i+1:Nat):Int) by omega) (show 0<=k*100 by omega);omega
        · have:=Int.mul_le_mul (show((i+1:Nat):Int)<=13 by omega) (show k*100<=30000 by omega) (by omega) (by omega);omega
      have f:Int.fdiv b (2 ^ min (Int.toNat 1) (IntKind.bits .i64))=b / 2:=by
        show Int.fdiv b 2=b / 2;exact Int.fdiv_eq_ediv_of_nonneg b (by omega)
      have hl:=(xF (n:=((i+1:Nat):Int)) (k:=k) (by omega) g).2
      have d:IntKind.wrap .i64 (b*1000000)=b*1000000:=by rw[Bv]<;>omega
      simp only[QC,Sv,hl,e,f];rw[show 13-i=13-(i+1)+1 by omega]
      simp only[LV]
      by_cases Aw:0<b
      · by_cases BS:((i+1:Nat):Int)*(k*100)*(((i+1:Nat):Int)*(k*100))<=far
        · rw[if_pos ⟨Aw,BS⟩]
          simp only[Aw,BS,decide_true,AY,B7,LF,gt_iff_lt];exact a
        · rw[if_neg (fun k=>BS k.2)]
          simp only[Aw,BS,decide_true,decide_false,AY,Ac,B7,IC,gt_iff_lt,d];rfl
      · rw[if_neg (fun k=>Aw k.1)]
        simp only[Aw,decide_false,Ac,B7,IC,gt_iff_lt,d];rfl)
  have:=key 0 c (by omega) ⟨⟨hc.1,by simp;omega⟩,hc.2⟩
  simp only[Nat.zero_add,Int.natCast_one,Int.one_mul]at this;exact this
def Hn (n:Ah) (p:A6):A6:=⟨p.X-n.At.X,p.Y-n.At.Y⟩
def Ix (n:Ah) (p:A6) (c k:Int):Bool:=LY (Io (Hn n p)) c k
def DW (p:A6):Prop := -30000<=p.X/\p.X<=30000 /\ -30000<=p.Y/\p.Y<=30000
theorem NS {n:Ah} {p:A6} (hn:DW n.At) (a:DW p):(⟨IntKind.wrap .i64 (p.X-n.At.X),IntKind.wrap .i64 (p.Y-n.At.Y)⟩:A6)=Hn n p/\K1 (Hn n p):=by
  unfold DW at hn a;unfold Hn K1;have AS:IntKind.wrap .i64 (p.X-n.At.X)=p.X-n.At.X:=by rw[Bv]<;>omega
  have BG:IntKind.wrap .i64 (p.Y-n.At.Y)=p.Y-n.At.Y:=by rw[Bv]<;>omega
  rw[AS,BG];exact⟨rfl,by simp only;omega⟩
end Nore
open Go Go.Ab
namespace Nore
theorem Jy (A1 up:Int) (l:List Int) (hl:l.length<1000000):Ha A1 up l=some (Cx A1 up l):=by
  rw[uB,<-OT A1 up l hl,eR];rfl
theorem fJ (n A1 AA:Int):LR n A1 AA=some (GJ n A1 AA):=by
  rw[vF,<-TU,fN];rfl
theorem O8 {n A1 AA:Int}:GJ n A1 AA=true↔A1<=n/\n<=AA:=by simp[GJ]
def HF (A1 AA:Int) (s:AE):Int:=if Cx A1 AA [s.AK,s.A0]then 7 else if s.AK>s.A0 then 2 else 0
theorem wF (s:AE) (A1 AA:Int):MI s A1 AA=some (HF A1 AA s):=by
  unfold MI;rw[tX _ _ _ (by simp)];rfl
def EM (A1 AA:Int) (s:AE):Prop:=A1<=s.AK/\s.AK<=s.A0/\s.A0<=AA
theorem gD {A1 AA:Int} {s:AE} (h:HF A1 AA s=0):EM A1 AA s:=by
  unfold HF at h;cases A5:Cx A1 AA [s.AK,s.A0]with
  | true=>rw[A5]at h;simp at h
  | false =>
    have:=v8 A5;rw[A5]at h
    by_cases hl:s.AK>s.A0
    · simp[hl]at h
    · unfold EM;omega
theorem gV {A1 AA:Int} {s:AE} (h:EM A1 AA s):Cx A1 AA [s.AK,s.A0]=false:=by
  unfold EM at h;simp only[K7,K8,Bool.or_false,Bool.or_eq_false_iff,decide_eq_false_iff_not];omega
theorem Q9 {A1 AA n:Int} (h:A1<=n/\n<=AA):Cx A1 AA [n]=false:=by
  simp only[K7,K8,Bool.or_false,Bool.or_eq_false_iff,decide_eq_false_iff_not];omega
def Qu (d:List ByteArray) (g:A7):Prop:=J1 g.Name=true/\g.Name∉d/\(0<=g.IH/\g.IH<=1000)/\EM 1 5000 g.CF/\g.CF.A0<=g.CF.AK+40
def Gj (s:BC) (i:Nat):List ByteArray:=(s.BJ.take i).map (·.Name)
structure X1 (s:BC):Prop where
  len:1<=s.BJ.length/\s.BJ.length<=4
  KU:EM 1 200 s.HD
  clear:EM 1 300 s.Clear
  Adl:∀i (h:i<s.BJ.length),Qu (Gj s i) s.BJ[i]
structure Iv (s:BC) (n:Ah):Prop extends X1 s where
  o3:0<=n.FJ/\n.FJ<s.BJ.length
  at_:DW n.At
  F9:0<=n.IW/\n.IW<=31
  Aie:1<=n.H4/\n.H4<=32
theorem Aju (s:BC) (i:Nat) (h:i<s.BJ.length):Gj s (i+1)=Gj s i++[s.BJ[i].Name]:=by
  unfold Gj;rw[List.take_succ_eq_append_getElem h,List.map_append];rfl
abbrev WY (β:Type):Type:=Int×Int×Int×List ByteArray×List ByteArray×β
def gY (w:WY A7⊕WY A7⊕WY A7⊕WY A7⊕List ByteArray):Int:=Sum.elim (·.2.1) (Sum.elim (·.2.1) (Sum.elim (·.2.1) (Sum.elim (·.2.1) fun _=>0))) w
theorem AiZ (s:BC) (hl:s.BJ.length<=4):∃w,eL s (0,[])=some w/\(gY w=0->∀i (h:i<s.BJ.length),Qu (Gj s i) s.BJ[i]):=by
  obtain⟨w,n,k⟩:=Eo (QR s) s.BJ.length (fun i (b:List ByteArray)=>((i:Int),b)) (fun i b=>b=Gj s i/\∀j (c:j<s.BJ.length),j<i->Qu (Gj s j) s.BJ[j])
    (fun w=>gY w=0->∀i (h:i<s.BJ.length),Qu (Gj s i) s.BJ[i])
    (fun b hb=>⟨.inr (.inr (.inr (.inr b))),by simp only[QR,Sz,Int.lt_irrefl,decide_false,Ac],fun _ j c=>hb.2 j c c⟩)
    (fun i b AA hb=>by
      obtain⟨rfl,l⟩:=hb;have f:(Gj s i).length<=4:=by unfold Gj;simp;omega
      have AS:decide ((i:Int)<(s.BJ.length:Int))=true:=by simp;omega
      have z:=EH i (by omega)
      have k1:Nat.ble (((Gj s i).length+1)*(16+1)) 200000000000000=true:=by rw[Nat.ble_eq];omega
      simp only[QR,Sz,AS,ES,Cd,CD,AY,Dt _ _ _ AA,z,List.length_singleton,k1,uV _ _ (by omega:(Gj s i).length<1000000),fJ,wF,B7]
      have a:=Aju s i AA;generalize q:s.BJ[i]=g at *
      by_cases hf:JZ g.Name (Gj s i)=0
      · have Aw:(JZ g.Name (Gj s i)==0)=true:=by simp[hf]
        simp only[Aw,AY];cases A5:GJ g.IH 0 1000 with
        | false=>left;refine⟨_,rfl,fun h=>?_⟩;cases h
        | true =>
          simp only[Bool.not_true,Ac]
          by_cases AH:HF 1 5000 g.CF=0
          · have BS:(HF 1 5000 g.CF==0)=true:=by simp[AH]
            have d:=gD AH;have u:IntKind.wrap .i64 (g.CF.AK+40)=g.CF.AK+40:=by unfold EM at d;rw[Bv]<;>omega
            simp only[BS,AY,u]
            by_cases hh:g.CF.A0>g.CF.AK+40
            · have CK:decide (g.CF.A0>g.CF.AK+40)=true:=by simp[hh]
              simp only[CK,AY];left;refine⟨_,rfl,fun h=>?_⟩;cases h
            · have CK:decide (g.CF.A0>g.CF.AK+40)=false:=by simp;omega
              have Df:(HF 1 5000 g.CF != 0)=false:=by simp[AH]
              simp only[CK,Df,Ac];right;refine⟨_,rfl,a.symm,fun j c o=>?_⟩
              by_cases e:j=i
              · subst e
                rw[q];have hn:J1 g.Name=true/\g.Name∉Gj s j:=by
                  unfold JZ at hf;cases hn:J1 g.Name with
                  | false=>rw[hn]at hf;simp at hf
                  | true=>rw[hn]at hf;refine⟨rfl,fun m=>?_⟩;simp[m]at hf
                exact⟨hn.1,hn.2,O8.1 A5,d,by omega⟩
              · exact l j c (by omega)
          · have BS:(HF 1 5000 g.CF==0)=false:=GG AH
            have CK:(HF 1 5000 g.CF != 0)=true:=HH AH;simp only[BS,CK,AY,Ac];left;exact⟨_,rfl,fun h=>absurd h AH⟩
      · have Aw:(JZ g.Name (Gj s i)==0)=false:=GG hf
        have BS:(JZ g.Name (Gj s i) != 0)=true:=HH hf;simp only[Aw,BS,AY,Ac];left;exact⟨_,rfl,fun h=>absurd h hf⟩) 0 [] (Nat.zero_le _) ⟨rfl,fun j _ h=>by omega⟩
  exact⟨w,n,k⟩
theorem AiK (s:BC):∃a b e,XD s=some (a,b,e)/\(e=0->X1 s):=by
  rw[uW];unfold dH;simp only[fJ,wF,B7];cases hl:GJ (↑s.BJ.length) 1 4 with
  | false=>exact⟨_,_,_,rfl,fun h=>by cases h⟩
  | true =>
    have g:=O8.1 hl;simp only[Bool.not_true,Ac]
    by_cases l:HF 1 200 s.HD=7
    · have c:(HF 1 200 s.HD==7)=true:=by simp[l]
      simp only[c,AY];exact⟨_,_,_,rfl,fun h=>by cases h⟩
    have Aw:(HF 1 200 s.HD==7)=false:=GG l
    by_cases q:HF 1 300 s.Clear=7
    · have c:(HF 1 300 s.Clear==7)=true:=by simp[q]
      simp only[c,Aw,AY,Ac];exact⟨_,_,_,rfl,fun h=>by cases h⟩
    have BS:(HF 1 300 s.Clear==7)=false:=GG q
    by_cases j:HF 1 200 s.HD=0
    · have CK:(HF 1 200 s.HD != 0)=false:=by simp[j]
      by_cases i:HF 1 300 s.Clear=0
      · have Df:(HF 1 300 s.Clear != 0)=false:=by simp[i]
        obtain⟨w,d,f⟩:=AiZ s (by omega)
        simp only[Aw,BS,CK,Df,Ac,d,B7];have key:gY w=0->X1 s:=fun h=>⟨by omega,gD j,gD i,f h⟩
        rcases w with y|y|y|y|y
        · exact⟨_,_,_,rfl,key⟩
        · exact⟨_,_,_,rfl,key⟩
        · exact⟨_,_,_,rfl,key⟩
        · exact⟨_,_,_,rfl,key⟩
        · exact⟨_,_,_,rfl,key⟩
      · have Df:(HF 1 300 s.Clear != 0)=true:=HH i
        simp only[Aw,BS,CK,Df,AY,Ac];exact⟨_,_,_,rfl,fun h=>by cases h⟩
    · have CK:(HF 1 200 s.HD != 0)=true:=HH j
      simp only[Aw,BS,CK,AY,Ac];exact⟨_,_,_,rfl,fun h=>by cases h⟩
theorem Ajq (p:A6):QU p 30000=some (GJ p.X (-30000) 30000&&GJ p.Y (-30000) 30000):=by
  unfold QU;simp only[XC];show Option.bind (some (GJ p.X (-30000) 30000)) _=_;rw[B7];cases GJ p.X (-30000) 30000<;>rfl
theorem AjT (x:Int):Iq [] x 0=some (.inr ()):=by
  unfold Iq;rw[SG];rfl
theorem Ak0 (x:Int):K9 [] x 0=some (.inr ()):=by
  unfold K9;rw[SG];rfl
theorem Ait (s:BC) (n:Ah):∃a e,Wk s n []=some (a,e)/\(e=0->Iv s n):=by
  obtain⟨a,b,e,hc,hs⟩:=AiK s;rw[tS];unfold cL;simp only[hc,B7,AjT,Ak0,IC,fJ,Ajq]
  by_cases d:e=0
  · subst d
    have hs:=hs rfl;have c:=hs.len;have z:IntKind.wrap .i64 ((s.BJ.length:Int)-1)=(s.BJ.length:Int)-1:=by rw[Bv]<;>omega
    have j:((0:Int)==0)=true:=rfl;have El:decide ((([]:List Ak).length:Int)>8)=false:=rfl;simp only[j,El,AY,z];cases u:GJ n.FJ 0 ((s.BJ.length:Int)-1)with
    | false=>exact⟨_,_,rfl,fun h=>by cases h⟩
    | true =>
      cases i:(GJ n.At.X (-30000) 30000&&GJ n.At.Y (-30000) 30000)with
      | false=>exact⟨_,_,rfl,fun h=>by cases h⟩
      | true =>
        cases I:GJ n.IW 0 31 with
        | false=>exact⟨_,_,rfl,fun h=>by cases h⟩
        | true =>
          cases C:GJ n.H4 1 32 with
          | false=>exact⟨_,_,rfl,fun h=>by cases h⟩
          | true =>
            simp only[Ar]at i;have J:=O8.1 u;have q:=O8.1 i.1;have l:=O8.1 i.2;exact⟨_,_,rfl,fun _=>⟨hs,by omega,⟨q.1,q.2,l.1,l.2⟩,O8.1 I,O8.1 C⟩⟩
  · have j:(e==0)=false:=GG d
    simp only[j,Ac];exact⟨_,_,rfl,fun h=>absurd h d⟩
end Nore
open Go Go.Ab
namespace Nore
theorem Aj7 (l:List A7) (hl:l.length<=1000) (g:A7) (h:∀x∈l,x.Name≠g.Name):Wj (↑l.length) l g 0=some (.inr ()):=by
  obtain⟨y,j,q⟩:=Eo (QT (↑l.length) l g) l.length (fun i (_:Unit)=>(i:Int)) (fun _ _=>True) (fun y=>y=.inr ())
    (fun _ _=>⟨.inr (),by simp only[QT,TL,Int.lt_irrefl,decide_false,Ac],rfl⟩)
    (fun i _ AA _=>by
      right;refine⟨(),?_,trivial⟩;have AS:decide ((i:Int)<(l.length:Int))=true:=by simp;omega
      have a:(l[i].Name.toList==g.Name.toList)=false:=by
        rw[beq_eq_false_iff_ne];exact fun e=>h _ (Fx AA) (fL e)
      simp only[QT,TL,AS,ES,Cd,CD,AY,Dt _ _ _ AA,EH i (by omega),a,Ac]) 0 () (Nat.zero_le _) trivial
  have d:Wj (↑l.length) l g 0=some y:=j;rw[d,q]
theorem Aj0 {s:BC} (h:X1 s):XN s=some (0,0,0):=by
  have d:=h.len;obtain⟨y,z,q⟩:=Eo (QS (↑s.BJ.length) s.BJ s) s.BJ.length (fun i (_:Unit)=>(i:Int)) (fun _ _=>True) (fun y=>y=.inr (.inr (.inr (.inr (.inr (.inr (.inr (.inr ()))))))))
    (fun _ _=>⟨_,by simp only[QS,TK,Int.lt_irrefl,decide_false,Ac],rfl⟩)
    (fun i _ AA _=>by
      right;refine⟨(),?_,trivial⟩;obtain⟨BI,BD,B9,DM,Em⟩:=h.Adl i AA;have j:=DM;unfold EM at j;have AS:decide ((i:Int)<(s.BJ.length:Int))=true:=by simp;omega
      have BG:decide ((i:Int)<=(s.BJ.length:Int))=true:=by simp;omega
      have Bn:=Aj7 (s.BJ.take i) (by simp;omega) s.BJ[i] (fun x g e=>BD (by unfold Gj;rw[<-e];exact List.mem_map.2 ⟨x,g,rfl⟩))
      have u:IntKind.wrap .i64 (s.BJ[i].CF.AK+40)=s.BJ[i].CF.AK+40:=by rw[Bv]<;>omega
      simp only[QS,TK,AS,BG,ES,Cd,CD,AY,Dt _ _ _ AA,EH i (by omega),u2,BI,B7,Bool.not_true,Ac,List.drop_zero,Bn,IC,
        Jy _ _ [s.BJ[i].CF.AK,s.BJ[i].CF.A0] (by simp),Jy _ _ [s.BJ[i].IH] (by simp),Jy _ _ [s.BJ[i].CF.A0] (by simp),gV DM,Q9 B9,u,Q9 (show s.BJ[i].CF.AK<=s.BJ[i].CF.A0/\s.BJ[i].CF.A0<=s.BJ[i].CF.AK+40 from⟨j.2.1,Em⟩)]) 0 () (Nat.zero_le _) trivial
  have l:eO (↑s.BJ.length) s.BJ s 0=some y:=z;have f:=h.KU;have c:=h.clear;have b:=f;have a:=c;unfold EM at b a;have Aw:decide (s.HD.AK>s.HD.A0)=false:=by simp;omega
  have BS:decide (s.Clear.AK>s.Clear.A0)=false:=by simp;omega
  rw[u3];unfold dL;simp only[Jy _ _ [(s.BJ.length:Int)] (by simp),Jy _ _ [s.HD.AK,s.HD.A0] (by simp),Jy _ _ [s.Clear.AK,s.Clear.A0] (by simp),gV f,gV c,Q9 (show(1:Int)<=s.BJ.length/\(s.BJ.length:Int)<=4 by omega),B7,Ac,Aw,BS,l,q,IC]
theorem Aiv {s:BC} {n:Ah} (h:Iv s n) {l:List Ak} (hl:l.length<=8) (hb:∀r∈l,DW r.At):Wu s n l=some (0,0):=by
  have b:=h.len;have a:∀p:A6,DW p->Cx (-30000) 30000 [p.X,p.Y]=false:=fun p a=>by
    unfold DW at a;simp only[K7,K8,Bool.or_false,Bool.or_eq_false_iff,decide_eq_false_iff_not];omega
  obtain⟨y,q,j⟩:=Eo (WF (↑l.length) l) l.length (fun i (_:Unit)=>(i:Int)) (fun _ _=>True) (fun y=>y=.inr ())
    (fun _ _=>⟨_,by simp only[WF,Sp,Int.lt_irrefl,decide_false,Ac],rfl⟩)
    (fun i _ AA _=>by
      right;refine⟨(),?_,trivial⟩;have AS:decide ((i:Int)<(l.length:Int))=true:=by simp;omega
      have AH:Wi l[i]=some false:=by
        rw[tM];unfold cJ;rw[Jy _ _ _ (by simp),a _ (hb _ (Fx AA))];rfl
      simp only[WF,Sp,AS,ES,Cd,CD,AY,Dt _ _ _ AA,EH i (by omega),AH,B7,Ac]) 0 () (Nat.zero_le _) trivial
  have d:dQ (↑l.length) l 0=some y:=q;have u:IntKind.wrap .i64 ((s.BJ.length:Int)-1)=(s.BJ.length:Int)-1:=by rw[Bv]<;>omega
  have c:=h.o3;have Aw:decide ((l.length:Int)>8)=false:=by simp;omega
  have e:((0:Int) != 0)=false:=rfl;rw[tF];unfold cF;simp only[Aj0 { h with },B7,e,Ac,u,Jy _ _ [n.FJ] (by simp),Jy _ _ [n.At.X,n.At.Y] (by simp),Jy _ _ [n.IW] (by simp),Jy _ _ [n.H4] (by simp),a _ h.at_,Q9 h.F9,Q9 h.Aie,Q9 (show 0<=n.FJ/\n.FJ<=(s.BJ.length:Int)-1 by omega),Aw,d,j,IC]
theorem vH {s:BC} {n:Ah} (h:Iv s n) {l:List Ak} (hl:l.length<=8) (hb:∀r∈l,DW r.At):T4 s n l=some (⟨s,n,l⟩,0):=by
  rw[vG];unfold dO;rw[Aiv h hl hb];rfl
theorem fQ {x:BK} {p:A6} (hn:DW x.Ah.At) (a:DW p):OW x p=some (Hn x.Ah p):=by
  rw[tO];unfold cK;rw[(NS hn a).1]
def FC (n:Ah) (c k:Int) (r:Ak):Bool:=r.MG||Ix n r.At c k==r.MT
def D4 (n:Ah) (l:List Ak) (c k:Int):Bool:=l.all (FC n c k)
theorem wY {x:BK} (hn:DW x.Ah.At) {l:List Ak} (hl:l.length<=8) (hb:∀r∈l,DW r.At) {c k:Int} (hc:0<=c/\c<=5000) (g:1<=k/\k<=300) :
    ∃w,cN l (↑l.length) false x ⟨c,k⟩ 0=some w/\((w=.inr ()/\D4 x.Ah l c k=true)\/((∃r,w=.inl r)/\D4 x.Ah l c k=false)):=by
  obtain⟨w,u,q⟩:=Eo (RE l (↑l.length) false x ⟨c,k⟩) l.length (fun i (_:Unit)=>(i:Int)) (fun i _=>(l.take i).all (FC x.Ah c k)=true)
    (fun w=>(w=.inr ()/\D4 x.Ah l c k=true)\/((∃r,w=.inl r)/\D4 x.Ah l c k=false))
    (fun _ f=>⟨.inr (),by simp only[RE,Od,Int.lt_irrefl,decide_false,Ac],.inl ⟨rfl,by rw[List.take_length]at f;exact f⟩⟩)
    (fun i _ AA f=>by
      have AS:decide ((i:Int)<(l.length:Int))=true:=by simp;omega
      have d:=Fx AA;have e:=hb _ d;simp only[RE,Od,AS,ES,Cd,CD,AY,Dt _ _ _ AA,EH i (by omega),fQ hn e,Wt (NS hn e).2 hc g,B7]
      have a:FC x.Ah c k l[i]=true->(l.take (i+1)).all (FC x.Ah c k)=true:=fun h=>by
        rw[List.take_succ_eq_append_getElem AA,List.all_append,f];simp[h]
      have b:FC x.Ah c k l[i]=false->D4 x.Ah l c k=false:=fun h=>by
        unfold D4;rw[List.all_eq_false];exact⟨_,d,by simp[h]⟩
      unfold FC Ix at a b;generalize l[i]=r at *;cases AH:r.MG with
      | true=>right;exact⟨(),rfl,a (by rw[AH];rfl)⟩
      | false =>
        rw[AH]at a b;simp only[Bool.false_or]at a b;cases j:(LY (Io (Hn x.Ah r.At)) c k==r.MT)with
        | true=>right;exact⟨(),rfl,a j⟩
        | false=>left;exact⟨_,rfl,.inr ⟨⟨_,rfl⟩,b j⟩⟩) 0 () (Nat.zero_le _) rfl
  exact⟨w,u,q⟩
theorem gS (p:Prop) [Decidable p] {α:Type} (a b:α):(bif decide p then a else b)=if p then a else b:=by by_cases h:p<;>simp[h]
def NR (ok:Bool) (v:Int) (b:AE×Bool):AE×Bool:=bif ok then(bif b.2 then(⟨if v<b.1.AK then v else b.1.AK,if v>b.1.A0 then v else b.1.A0⟩,true)else(⟨v,v⟩,true))else b
def HS (ok:Int->Int->Bool) (f:Int->Int->Int) (c k:Int) (m:Nat) (b:AE×Bool):AE×Bool:=(List.range m).foldl (fun b (i:Nat)=>NR (ok c (k+(i:Int))) (f c (k+(i:Int))) b) b
def FY (ok:Int->Int->Bool) (f:Int->Int->Int) (c:Int) (n:Nat) (k:Int) (m:Nat):AE×Bool:=(List.range n).foldl (fun b (j:Nat)=>HS ok f (c+(j:Int)) k m b) (⟨0,0⟩,false)
theorem Q7 (ok:Int->Int->Bool) (f:Int->Int->Int) (c k:Int) (m:Nat) (b:AE×Bool):HS ok f c k (m+1) b=NR (ok c (k+(m:Int))) (f c (k+(m:Int))) (HS ok f c k m b):=by
  unfold HS;rw[List.range_succ,List.foldl_append];rfl
theorem Q6 (ok:Int->Int->Bool) (f:Int->Int->Int) (c:Int) (n:Nat) (k:Int) (m:Nat):FY ok f c (n+1) k m=HS ok f (c+(n:Int)) k m (FY ok f c n k m):=by
  unfold FY;rw[List.range_succ,List.foldl_append];rfl
def HP (n:Ah) (p:A6) (c k:Int):Int:=if Ix n p c k then 1 else 0
section
variable {x:BK} (hn:DW x.Ah.At) (hl:x.C0.length<=8) (hb:∀ r∈x.C0,DW r.At) {s:AE} (hs:EM 1 300 s)
include hn hl hb hs
theorem Akx {c:Int} (hc:0<=c/\c<=5000) {F:BQ->Option Int} {f:Int->Int->Int} (n:∀k,s.AK<=k->k<=s.A0->F ⟨c,k⟩=some (f c k)) (b:AE×Bool) :
    Wl F (s.A0-s.AK+1) s x false c (0,b.1,b.2)=some (HS (D4 x.Ah x.C0) f c s.AK (s.A0-s.AK+1).toNat b):=by
  unfold EM at hs;obtain⟨N,m⟩:=Int.eq_ofNat_of_zero_le (show 0<=s.A0-s.AK+1 by omega)
  rw[m];obtain⟨w,C,z⟩:=Eo (QW F (N:Int) s x false c) N (fun i (b:AE×Bool)=>((i:Int),b.1,b.2)) (fun i q=>q=HS (D4 x.Ah x.C0) f c s.AK i b) (fun w=>w=HS (D4 x.Ah x.C0) f c s.AK N b)
    (fun q e=>⟨q,by simp only[QW,TS,Int.lt_irrefl,decide_false,Ac],e⟩)
    (fun i q AA j=>by
      right;have AS:decide ((i:Int)<(N:Int))=true:=by simp;omega
      have I:IntKind.wrap .i64 (s.AK+(i:Int))=s.AK+(i:Int):=by rw[Bv]<;>omega
      have d:NG c (s.AK+(i:Int))=some ⟨c,s.AK+(i:Int)⟩:=by rw[W8];rfl
      obtain⟨w,h,l⟩:=wY hn hl hb hc (k:=s.AK+(i:Int)) (by omega)
      have a:fA x.C0 (↑x.C0.length) x ⟨c,s.AK+(i:Int)⟩ false 0=some w:=h;simp only[QW,TS,AS,AY,I,d,B7,a,EH i (by omega),n (s.AK+(i:Int)) (by omega) (by omega)]
      refine⟨NR (D4 x.Ah x.C0 c (s.AK+(i:Int))) (f c (s.AK+(i:Int))) q,?_,by rw[Q7,j]⟩
      rcases l with⟨rfl,g⟩|⟨⟨r,rfl⟩,g⟩
      · rw[g]
        simp only[IC,gS,NR,AY];cases q.2<;>simp
      · rw[g];rfl) 0 b (Nat.zero_le _) rfl
  have u:Wl F (N:Int) s x false c (0,b.1,b.2)=some w:=C;rw[u,z,Cd]
theorem XR {g:AE} (j:EM 1 5000 g) {F:BQ->Option Int} {f:Int->Int->Int} (n:∀c k,g.AK<=c->c<=g.A0->s.AK<=k->k<=s.A0->F ⟨c,k⟩=some (f c k)) :
    IX F (s,x,g,false)=some ((FY (D4 x.Ah x.C0) f g.AK (g.A0-g.AK+1).toNat s.AK (s.A0-s.AK+1).toNat).1,(FY (D4 x.Ah x.C0) f g.AK (g.A0-g.AK+1).toNat s.AK (s.A0-s.AK+1).toNat).2,s,x,g,false):=by
  have d:=j;have a:=hs;unfold EM at d a;obtain⟨N,m⟩:=Int.eq_ofNat_of_zero_le (show 0<=g.A0-g.AK+1 by omega)
  have O:IntKind.wrap .i64 (s.A0-s.AK)=s.A0-s.AK:=by rw[Bv]<;>omega
  have I:IntKind.wrap .i64 (s.A0-s.AK+1)=s.A0-s.AK+1:=by rw[Bv]<;>omega
  have J:IntKind.wrap .i64 (g.A0-g.AK)=g.A0-g.AK:=by rw[Bv]<;>omega
  have C:IntKind.wrap .i64 (g.A0-g.AK+1)=(N:Int):=by rw[Bv]<;>omega
  rw[u7];unfold TW;rw[J,C,m,Cd];generalize u:(s.A0-s.AK+1).toNat=M;obtain⟨w,K,z⟩:=Eo (QV F (N:Int) s x g false) N (fun i (b:AE×Bool)=>((i:Int),b.1,b.2)) (fun i b=>b=FY (D4 x.Ah x.C0) f g.AK i s.AK M) (fun w=>w=FY (D4 x.Ah x.C0) f g.AK N s.AK M)
    (fun b hb=>⟨b,by simp only[QV,TR,Int.lt_irrefl,decide_false,Ac],hb⟩)
    (fun i b AA e=>by
      right;have AS:decide ((i:Int)<(N:Int))=true:=by simp;omega
      have Q:IntKind.wrap .i64 (g.AK+(i:Int))=g.AK+(i:Int):=by rw[Bv]<;>omega
      refine⟨HS (D4 x.Ah x.C0) f (g.AK+(i:Int)) s.AK M b,?_,by rw[Q6,e]⟩
      have AH:=Akx hn hl hb hs (c:=g.AK+(i:Int)) (by omega) (F:=F) (f:=f) (fun k l h=>n _ k (by omega) (by omega) l h) b
      rw[u]at AH;simp only[QV,TR,AS,AY,Q,O,I,AH,B7,EH i (by omega)]) 0 (⟨0,0⟩,false) (Nat.zero_le _) rfl
  have q:e2 F (N:Int) s x g false (0,⟨0,0⟩,false)=some w:=K;rw[q,z];rfl
theorem Ak4 {p:A6} (j:DW p) {c:Int} (hc:0<=c/\c<=5000) (b:AE×Bool) :
    WX (s.A0-s.AK+1) false c (Hn x.Ah p) s x (0,b.2,b.1)=some ((HS (D4 x.Ah x.C0) (HP x.Ah p) c s.AK (s.A0-s.AK+1).toNat b).2,(HS (D4 x.Ah x.C0) (HP x.Ah p) c s.AK (s.A0-s.AK+1).toNat b).1):=by
  unfold EM at hs;obtain⟨N,n⟩:=Int.eq_ofNat_of_zero_le (show 0<=s.A0-s.AK+1 by omega)
  rw[n,Cd];obtain⟨w,C,z⟩:=Eo (RD (N:Int) false c (Hn x.Ah p) s x) N (fun i (b:AE×Bool)=>((i:Int),b.2,b.1)) (fun i q=>q=HS (D4 x.Ah x.C0) (HP x.Ah p) c s.AK i b) (fun w=>w=((HS (D4 x.Ah x.C0) (HP x.Ah p) c s.AK N b).2,(HS (D4 x.Ah x.C0) (HP x.Ah p) c s.AK N b).1))
    (fun q e=>⟨(q.2,q.1),by simp only[RD,Th,Int.lt_irrefl,decide_false,Ac],by rw[e]⟩)
    (fun i q AA k=>by
      right;have AS:decide ((i:Int)<(N:Int))=true:=by simp;omega
      have I:IntKind.wrap .i64 (s.AK+(i:Int))=s.AK+(i:Int):=by rw[Bv]<;>omega
      have g:1<=s.AK+(i:Int)/\s.AK+(i:Int)<=300:=by omega
      have d:NG c (s.AK+(i:Int))=some ⟨c,s.AK+(i:Int)⟩:=by rw[W8];rfl
      obtain⟨w,h,m⟩:=wY hn hl hb hc g;have a:=Wt (NS hn j).2 hc g;have l:HP x.Ah p c (s.AK+(i:Int))=if LY (Io (Hn x.Ah p)) c (s.AK+(i:Int))then 1 else 0:=rfl;simp only[RD,Th,AS,AY,I,d,B7,h,EH i (by omega)]
      refine⟨NR (D4 x.Ah x.C0 c (s.AK+(i:Int))) (HP x.Ah p c (s.AK+(i:Int))) q,?_,by rw[Q7,k]⟩
      rcases m with⟨rfl,f⟩|⟨⟨r,rfl⟩,f⟩
      · rw[f,l]
        simp only[IC,a,B7,gS,NR,AY];cases LY (Io (Hn x.Ah p)) c (s.AK+(i:Int))<;>cases q.2<;>simp
      · rw[f];rfl) 0 b (Nat.zero_le _) rfl
  have u:WX (N:Int) false c (Hn x.Ah p) s x (0,b.2,b.1)=some w:=C;rw[u,z]
theorem Ajx {p:A6} (e:DW p) {g:AE} (h:EM 1 5000 g) :
    QF (false,Hn x.Ah p,s,x,g)=some ((FY (D4 x.Ah x.C0) (HP x.Ah p) g.AK (g.A0-g.AK+1).toNat s.AK (s.A0-s.AK+1).toNat).1,(FY (D4 x.Ah x.C0) (HP x.Ah p) g.AK (g.A0-g.AK+1).toNat s.AK (s.A0-s.AK+1).toNat).2,false,Hn x.Ah p,s,x,g):=by
  have d:=h;have a:=hs;unfold EM at d a;obtain⟨N,j⟩:=Int.eq_ofNat_of_zero_le (show 0<=g.A0-g.AK+1 by omega)
  have K:IntKind.wrap .i64 (s.A0-s.AK)=s.A0-s.AK:=by rw[Bv]<;>omega
  have C:IntKind.wrap .i64 (s.A0-s.AK+1)=s.A0-s.AK+1:=by rw[Bv]<;>omega
  have I:IntKind.wrap .i64 (g.A0-g.AK)=g.A0-g.AK:=by rw[Bv]<;>omega
  have u:IntKind.wrap .i64 (g.A0-g.AK+1)=(N:Int):=by rw[Bv]<;>omega
  rw[sR];unfold bU;simp only[];rw[I,u,j,Cd];generalize z:(s.A0-s.AK+1).toNat=M;obtain⟨w,J,q⟩:=Eo (RC (N:Int) false (Hn x.Ah p) s x g) N (fun i (b:AE×Bool)=>((i:Int),b.2,b.1)) (fun i b=>b=FY (D4 x.Ah x.C0) (HP x.Ah p) g.AK i s.AK M) (fun w=>w=((FY (D4 x.Ah x.C0) (HP x.Ah p) g.AK N s.AK M).2,(FY (D4 x.Ah x.C0) (HP x.Ah p) g.AK N s.AK M).1))
    (fun b hb=>⟨(b.2,b.1),by simp only[RC,Tg,Int.lt_irrefl,decide_false,Ac],by rw[hb]⟩)
    (fun i b AA f=>by
      right;have AS:decide ((i:Int)<(N:Int))=true:=by simp;omega
      have O:IntKind.wrap .i64 (g.AK+(i:Int))=g.AK+(i:Int):=by rw[Bv]<;>omega
      refine⟨HS (D4 x.Ah x.C0) (HP x.Ah p) (g.AK+(i:Int)) s.AK M b,?_,by rw[Q6,f]⟩
      have AH:=Ak4 hn hl hb hs e (c:=g.AK+(i:Int)) (by omega) b
      rw[z]at AH;simp only[RC,Tg,AS,AY,O,K,C,AH,B7,EH i (by omega)]) 0 (⟨0,0⟩,false) (Nat.zero_le _) rfl
  have l:cM (N:Int) false (Hn x.Ah p) s x g (0,false,⟨0,0⟩)=some w:=J;rw[l,q];rfl
end
end Nore
open Go Go.Ab
namespace Nore
def Eh (s:BC) (n:Ah):AE:=(s.BJ.getD n.FJ.toNat (A7.mk ByteArray.empty (AE.mk 0 0) 0)).CF
def Kd (s:BC) (n:Ah) (c k:Int):Prop:=((Eh s n).AK<=c/\c<=(Eh s n).A0)/\s.Clear.AK<=k/\k<=s.Clear.A0
theorem O7 {s:BC} {n:Ah} (h:Iv s n):EM 1 5000 (Eh s n):=by
  have a:=h.o3;have AA:n.FJ.toNat<s.BJ.length:=by omega
  have:=(h.Adl _ AA).2.2.2.1;unfold Eh;rw[Dt _ _ _ AA];exact this
theorem gJ {s:BC} {n:Ah} (h:Iv s n):(decide (0<=n.FJ)&&decide (n.FJ<(s.BJ.length:Int)))=true:=by
  have a:=h.o3;simp[a.1,a.2]
section
variable {ok:Int->Int->Bool} {f:Int->Int->Int} (hf:∀ c k,0<=f c k/\f c k<=1)
def Oc (ok:Int->Int->Bool) (f:Int->Int->Int) (Gy:Int->Int->Prop) (b:AE×Bool):Prop:=(0<=b.1.AK/\b.1.AK<=1/\0<=b.1.A0/\b.1.A0<=1)/\∀c k,Gy c k->ok c k=true->b.2=true/\b.1.AK<=f c k/\f c k<=b.1.A0
include hf
theorem AjB {Gy:Int->Int->Prop} {b:AE×Bool} (h:Oc ok f Gy b) (c k:Int):Oc ok f (fun c' k'=>Gy c' k'\/(c'=c/\k'=k)) (NR (ok c k) (f c k) b):=by
  obtain⟨e,d⟩:=h;have hv:=hf c k;unfold NR;cases A5:ok c k with
  | false =>
    refine⟨e,fun c' k' q a=>?_⟩;rcases q with q|⟨rfl,rfl⟩
    · exact d c' k' q a
    · rw[A5]at a;cases a
  | true =>
    cases hb:b.2 with
    | false =>
      refine⟨by simp only[AY,Ac];omega,fun c' k' q a=>?_⟩
      rcases q with q|⟨rfl,rfl⟩
      · rw[hb]at d;cases(d c' k' q a).1
      · exact⟨rfl,Int.le_refl _,Int.le_refl _⟩
    | true =>
      simp only[AY];refine⟨by simp only;(repeat' split)<;>omega,fun c' k' q a=>⟨rfl,?_⟩⟩
      rcases q with q|⟨rfl,rfl⟩
      · have:=(d c' k' q a).2
        simp only;constructor<;>split<;>omega
      · simp only
        constructor<;>split<;>omega
theorem fS {Gy d:Int->Int->Prop} {b:AE×Bool} (h:Oc ok f Gy b) (a:∀c k,d c k->Gy c k):Oc ok f d b:=⟨h.1,fun c k q=>h.2 c k (a c k q)⟩
theorem wK {Gy:Int->Int->Prop} {b:AE×Bool} (h:Oc ok f Gy b) (c k:Int):∀ m,Oc ok f (fun c' k'=>Gy c' k'\/(c'=c/\k<=k'/\k'<k+(m:Nat))) (HS ok f c k m b)
  | 0=>fS hf h fun c' k' q=>by
    rcases q with q|q
    · exact q
    · omega
  | m+1=>by
    rw[Q7];refine fS hf (AjB hf (wK h c k m) c (k+(m:Int))) fun c' k' q=>?_;rcases q with q|⟨BI,BD,B9⟩
    · exact .inl (.inl q)
    · by_cases e:k'=k+(m:Int)
      · exact .inr ⟨BI,e⟩
      · exact .inl (.inr ⟨BI,BD,by omega⟩)
theorem wJ (c k:Int) (m:Nat):∀n,Oc ok f (fun c' k'=>(c<=c'/\c'<c+(n:Nat))/\k<=k'/\k'<k+(m:Nat)) (FY ok f c n k m)
  | 0=>⟨by show(0:Int)<=0/\(0:Int)<=1/\(0:Int)<=0/\(0:Int)<=1;omega,fun c' k' q=>by omega⟩
  | n+1=>by
    rw[Q6];refine fS hf (wK hf (wJ c k m n) (c+(n:Int)) k m) fun c' k' q=>?_
    by_cases e:c'=c+(n:Int)
    · exact .inr ⟨e,q.2⟩
    · exact .inl ⟨⟨q.1.1,by omega⟩,q.2⟩
omit hf
theorem wN {c k:Int} (b:AE×Bool):∀m:Nat,(∀k',k<=k'->k'<k+(m:Nat)->ok c k'=false)->HS ok f c k m b=b
  | 0,_=>rfl
  | m+1,h=>by
    rw[Q7,wN b m fun k' a b=>h k' a (by omega),h (k+(m:Int)) (by omega) (by omega)];rfl
theorem wV {c k:Int} {m:Nat}:∀n:Nat,(∀c' k',c<=c'->c'<c+(n:Nat)->k<=k'->k'<k+(m:Nat)->ok c' k'=false)->FY ok f c n k m=(⟨0,0⟩,false)
  | 0,_=>rfl
  | n+1,h=>by
    rw[Q6,wV n fun c' k' a b=>h c' k' a (by omega),wN _ m fun k' a b=>h (c+(n:Int)) k' (by omega) (by omega) a b]
end
theorem Akc (n:Ah) (p:A6) (c k:Int):0<=HP n p c k/\HP n p c k<=1:=by unfold HP;split<;>omega
theorem vS {s:BC} {n:Ah} (h:Iv s n) {l:List Ak} (hl:l.length<=8) (hb:∀r∈l,DW r.At) {p:A6} (a:DW p) {b:AE×Bool}
    (d:FY (D4 n l) (HP n p) (Eh s n).AK ((Eh s n).A0-(Eh s n).AK+1).toNat s.Clear.AK (s.Clear.A0-s.Clear.AK+1).toNat=b) :
    Q5 s n l p false=some (if b.2 then(IntKind.wrap .i64 (b.1.AK+b.1.A0),0)else(0,9)):=by
  have c:Cx (-30000) 30000 [p.X,p.Y]=false:=by
    unfold DW at a;simp only[K7,K8,Bool.or_false,Bool.or_eq_false_iff,decide_eq_false_iff_not];omega
  have AH:=Ajx (x:=⟨s,n,l⟩) h.at_ hl hb h.clear a (O7 h);have j:((0:Int) != 0)=false:=rfl;rw[u5];unfold dN;have hc:∀g:A7,g=s.BJ.getD n.FJ.toNat (A7.mk ByteArray.empty (AE.mk 0 0) 0)->g.CF=Eh s n:=fun g e=>by rw[e];rfl
  simp only[vH h hl hb,B7,j,Ac,Jy _ _ [p.X,p.Y] (by simp),c,gJ h,AY,fQ (x:=⟨s,n,l⟩) h.at_ a]
  rw[hc _ rfl];rw[show QF (false,Hn n p,s.Clear,⟨s,n,l⟩,Eh s n)=_ from AH];simp only[B7,d];obtain⟨sp,i⟩:=b;cases i<;>rfl
theorem AjQ {s:BC} {n:Ah} (h:Iv s n) {l:List Ak} (hl:l.length<=8) (hb:∀r∈l,DW r.At) {p:A6} (o:DW p) :
    ∃K e,Q5 s n l p false=some (K,e)/\∀c k,Kd s n c k->D4 n l c k=true->e=0/\(K=2->Ix n p c k=true)/\(K=0->Ix n p c k=false):=by
  have q:=O7 h;have j:=h.clear;have m:=wJ (ok:=D4 n l) (Akc n p) (Eh s n).AK s.Clear.AK (s.Clear.A0-s.Clear.AK+1).toNat ((Eh s n).A0-(Eh s n).AK+1).toNat;have AH:=vS h hl hb o rfl;generalize FY (D4 n l) (HP n p) (Eh s n).AK ((Eh s n).A0-(Eh s n).AK+1).toNat s.Clear.AK (s.Clear.A0-s.Clear.AK+1).toNat=b at m AH;obtain⟨sp,i⟩:=b;obtain⟨t,f⟩:=m;unfold EM at q j;have a:∀c k,Kd s n c k->((Eh s n).AK<=c/\c<(Eh s n).AK+(((Eh s n).A0-(Eh s n).AK+1).toNat:Nat))/\s.Clear.AK<=k/\k<s.Clear.AK+((s.Clear.A0-s.Clear.AK+1).toNat:Nat):=fun c k ht=>by
    unfold Kd at ht;omega
  cases i with
  | false=>exact⟨_,_,AH,fun c k ht g=>by cases(f c k (a c k ht) g).1⟩
  | true =>
    simp only at t f;have C:IntKind.wrap .i64 (sp.AK+sp.A0)=sp.AK+sp.A0:=by rw[Bv]<;>omega
    refine⟨_,_,AH,fun c k ht g=>?_⟩;have d:=(f c k (a c k ht) g).2;simp only[if_true,C];unfold HP at d;refine⟨trivial,fun u=>?_,fun u=>?_⟩
    · cases z:Ix n p c k with
      | true=>rfl
      | false=>rw[z]at d;simp at d;omega
    · cases z:Ix n p c k with
      | false=>rfl
      | true=>rw[z]at d;simp at d;omega
theorem AjO (c k:Int):NI ⟨c,k⟩=some c:=by rw[tY];rfl
theorem AjP (c k:Int):NJ ⟨c,k⟩=some k:=by rw[tZ];rfl
theorem vR {s:BC} {n:Ah} (h:Iv s n) {l:List Ak} (hl:l.length<=8) (hb:∀r∈l,DW r.At) {a b:AE×Bool}
    (j:FY (D4 n l) (fun c _=>c) (Eh s n).AK ((Eh s n).A0-(Eh s n).AK+1).toNat s.Clear.AK (s.Clear.A0-s.Clear.AK+1).toNat=a) (d:FY (D4 n l) (fun _ k=>k) (Eh s n).AK ((Eh s n).A0-(Eh s n).AK+1).toNat s.Clear.AK (s.Clear.A0-s.Clear.AK+1).toNat=b) :
    Gh s n l=some (if a.2 then(a.1,b.1,0)else(a.1,⟨0,0⟩,9)):=by
  have i:=O7 h;have q:=XR (x:=⟨s,n,l⟩) h.at_ hl hb h.clear i (F:=NI) (f:=fun c _=>c) fun c k _ _ _ _=>AjO c k;have u:=XR (x:=⟨s,n,l⟩) h.at_ hl hb h.clear i (F:=NJ) (f:=fun _ k=>k) fun c k _ _ _ _=>AjP c k;have C:((0:Int) != 0)=false:=rfl;have hc:∀g:A7,g=s.BJ.getD n.FJ.toNat (A7.mk ByteArray.empty (AE.mk 0 0) 0)->g.CF=Eh s n:=fun g e=>by rw[e];rfl
  rw[u4];unfold dM;simp only[vH h hl hb,B7,C,Ac,gJ h,AY];rw[hc _ rfl];rw[show IX NI (s.Clear,⟨s,n,l⟩,Eh s n,false)=_ from q];simp only[B7];rw[show IX NJ (s.Clear,⟨s,n,l⟩,Eh s n,false)=_ from u];simp only[j,d,B7];obtain⟨I,z⟩:=a;cases z<;>rfl
theorem Aj8 {s:BC} {n:Ah} (h:Iv s n) {l:List Ak} (hl:l.length<=8) (hb:∀r∈l,DW r.At) (d:∀c k,Kd s n c k->D4 n l c k=false):∃a b,Gh s n l=some (a,b,9):=by
  have g:=O7 h;have e:=h.clear;unfold EM at g e;have key:∀f,FY (D4 n l) f (Eh s n).AK ((Eh s n).A0-(Eh s n).AK+1).toNat s.Clear.AK (s.Clear.A0-s.Clear.AK+1).toNat=(⟨0,0⟩,false):=fun f=>wV _ fun c k m i o j=>d c k (by unfold Kd;omega)
  exact⟨_,_,(vR h hl hb (key _) (key _)).trans rfl⟩
end Nore
open Go Go.Ab
namespace Nore
theorem Ajv:∀p,p<32->(IA TN 5 ((p:Nat),())).map (fun q=>(q.X,q.Y))=some (Geo.CZ p,Geo.D2 p):=by decide +kernel
theorem tJ (p:Nat) (b:p<32):TT (p:Int)=some ⟨Geo.CZ p,Geo.D2 p⟩:=by
  have h:=Ajv p b;cases AA:IA TN 5 ((p:Int),())with
  | none=>rw[AA]at h;cases h
  | some q =>
    rw[AA]at h;obtain⟨x,y⟩:=q;simp only[As,Bc,Prod.mk.injEq]at h;obtain⟨rfl,rfl⟩:=h;unfold TT;refine wA (fun f g a x r AH=>?_) AA;unfold TN eV at AH⊢;cases e:decide (x.1>=8)with
    | false=>rw[e]at AH;exact AH
    | true =>
      rw[e]at AH;simp only[AY]at AH⊢;cases d:f (IntKind.wrap .i64 (x.1-8),())with
      | none=>rw[d]at AH;cases AH
      | some q=>rw[d]at AH;rw[a _ _ d];exact AH
theorem Ak7:∀p,p<32 -> -1000<=Geo.CZ p/\Geo.CZ p<=1000 /\ -1000<=Geo.D2 p/\Geo.D2 p<=1000:=by decide
theorem w5 {a b:Int} (c : -1000<=a/\a<=1000) (hb : -60000<=b/\b<=60000) : -60000000<=a*b/\a*b<=60000000:=by
  have e:=Int.mul_nonneg (show 0<=1000-a by omega) (show 0<=60000+b by omega)
  have j:=Int.mul_nonneg (show 0<=1000+a by omega) (show 0<=60000-b by omega)
  have d:=Int.mul_nonneg (show 0<=1000-a by omega) (show 0<=60000-b by omega)
  have i:=Int.mul_nonneg (show 0<=1000+a by omega) (show 0<=60000+b by omega)
  simp only[Int.sub_mul,Int.add_mul,Int.mul_sub,Int.mul_add]at e j d i;omega
theorem xD (p:Nat) (c:p<32) {v:A6} (hv:K1 v):IntKind.wrap .i64 (IntKind.wrap .i64 (Geo.CZ p*v.Y)-IntKind.wrap .i64 (Geo.D2 p*v.X))=Geo.Fw p v.X v.Y:=by
  have JN:=Ak7 p c;unfold K1 at hv;have a:=w5 (a:=Geo.CZ p) (b:=v.Y) (by omega) (by omega)
  have b:=w5 (a:=Geo.D2 p) (b:=v.X) (by omega) (by omega)
  rw[Bv (x:=Geo.CZ p*v.Y),Bv (x:=Geo.D2 p*v.X),Bv]<;>first|rfl|omega
theorem Ajc {v:A6} (hv:K1 v) (b:v.X≠0\/v.Y≠0):∃p,Wq v=some p/\0<=p/\p<32:=by
  obtain⟨t,ht,d,a⟩:=Geo.AAF b;have e:∀i:Nat,i<32->(OS v (i:Int)=some (.inr (i:Int)))\/(OS v (i:Int)=some (.inl ((i+1:Nat):Int))/\¬(Geo.Fw i v.X v.Y<=0/\Geo.Fw ((i+1) % 32) v.X v.Y>0)):=fun i AA=>by
    have c:Int.tmod ((i+1:Nat):Int) 32=(((i+1) % 32:Nat):Int):=rfl;simp only[OS,Wg,EH i (by omega),c,tJ i AA,tJ ((i+1) % 32) (by omega),B7,xD i AA hv,xD ((i+1) % 32) (by omega) hv]
    by_cases Aw:Geo.Fw i v.X v.Y>0
    · right
      have l:decide (Geo.Fw i v.X v.Y>0)=true:=by simp[Aw]
      rw[l];exact⟨rfl,by omega⟩
    · have l:decide (Geo.Fw i v.X v.Y>0)=false:=by simpa using Aw
      rw[l]
      by_cases BS:Geo.Fw ((i+1) % 32) v.X v.Y<=0
      · right
        have j:decide (Geo.Fw ((i+1) % 32) v.X v.Y<=0)=true:=by simp[BS]
        rw[j];exact⟨rfl,by omega⟩
      · left
        have j:decide (Geo.Fw ((i+1) % 32) v.X v.Y<=0)=false:=by simpa using BS
        rw[j];rfl
  obtain⟨w,z,u⟩:=Eo (OS v) t (fun i (_:Unit)=>(i:Int)) (fun _ _=>True) (fun w=>0<=w/\w<32)
    (fun _ _=>by
      rcases e t ht with h|⟨_,h⟩
      · exact⟨_,h,by omega,by omega⟩
      · exact absurd ⟨d,a⟩ h)
    (fun i _ AA _=>by
      rcases e i (by omega)with h|⟨h,_⟩
      · exact .inl ⟨_,h,by omega,by omega⟩
      · exact .inr ⟨(),h,trivial⟩) 0 () (Nat.zero_le _) trivial
  have q:dK v 0=some w:=z;unfold Wq;rw[q];exact⟨w,rfl,u⟩
theorem Ajl {a b:Int} (f:0<=a/\a<32) (hb:0<=b/\b<32):∃m,Wv a b=some m:=by
  obtain⟨A,rfl⟩:=Int.eq_ofNat_of_zero_le f.1;obtain⟨B,rfl⟩:=Int.eq_ofNat_of_zero_le hb.1;have e:A<32:=by omega
  have g:B<32:=by omega
  have d:∀x i:Nat,x<32->i<64->Int.tmod (IntKind.wrap .i64 ((x:Int)+(i:Int))) 32=(((x+i) % 32:Nat):Int):=fun x i h AA=>by
    have:IntKind.wrap .i64 ((x:Int)+(i:Int))=((x+i:Nat):Int):=by rw[Bv]<;>omega
    rw[this];rfl
  obtain⟨w,l,q⟩:=Eo (QK (B:Int) (A:Int)) ((B+32-A) % 32) (fun i (_:Unit)=>(i:Int)) (fun _ _=>True) (fun _=>True)
    (fun _ _=>by
      refine⟨(((B+32-A) % 32:Nat):Int),?_,trivial⟩;have c:((((A+(B+32-A) % 32) % 32:Nat):Int) != (B:Int))=false:=by simp;omega
      simp only[QK,TH,d A _ e (by omega:(B+32-A) % 32<64),c,Ac])
    (fun i _ AA _=>by
      simp only[QK,TH,d A i e (by omega),d B i g (by omega),EH i (by omega)]
      cases((((A+i) % 32:Nat):Int) != (B:Int))with
      | false=>exact .inl ⟨_,rfl,trivial⟩
      | true =>
        cases((((B+i) % 32:Nat):Int) != (A:Int))with
        | false=>exact .inl ⟨_,rfl,trivial⟩
        | true=>exact .inr ⟨(),rfl,trivial⟩) 0 () (Nat.zero_le _) trivial
  have j:eC (B:Int) (A:Int) 0=some w:=l;rw[uH];unfold dA;rw[j];exact⟨_,rfl⟩
theorem AjX {v:A6} (hv:K1 v) (l:Int) {w:Int} (a:0<=w/\w<32):∃b,XE v l w=some b:=by
  rw[uX];unfold dI
  by_cases h:v.X=0/\v.Y=0
  · have c:(v.X==0&&(v.Y==0&&true))=true:=by simp[h.1,h.2]
    rw[c];exact⟨_,rfl⟩
  · have c:(v.X==0&&(v.Y==0&&true))=false:=by
      cases c:(v.X==0&&(v.Y==0&&true))with
      | false=>rfl
      | true=>simp at c;exact absurd c h
    obtain⟨p,e,d⟩:=Ajc hv (by
      by_cases i:v.X=0
      · exact .inr fun hy=>h ⟨i,hy⟩
      · exact .inl i)
    obtain⟨m,f⟩:=Ajl d a;rw[c,e,Ac,B7,f,B7,fC];exact⟨_,rfl⟩
theorem AjS {n:Ah} {p:A6} (hn:DW n.At) (c:DW p) {a b:Int} (hb:0<=b/\b<32):∃r,O4 n p ⟨a,b⟩ true=some r:=by
  rw[fI];unfold Wn;obtain⟨r,AH⟩:=AjX (NS hn c).2 a hb;rw[(NS hn c).1,AH];exact⟨_,rfl⟩
theorem vT {n:Ah} {p:A6} (hn:DW n.At) (a:DW p) {c k:Int} (hc:0<=c/\c<=5000) (b:1<=k/\k<=300):O4 n p ⟨c,k⟩ false=some (Ix n p c k):=by
  rw[fI];unfold Wn;rw[(NS hn a).1,AiX (NS hn a).2 hc b];rfl
theorem wU {p:A6} (c:DW p) {a b:Int} (d:0<=a/\a<=65535) (hb:0<=b/\b<=65535):∃q,T2 p a b=some q/\DW q:=by
  rw[uP];unfold dW;unfold DW at c⊢;have e:IntKind.wrap .i64 (IntKind.wrap .i64 (p.X+IntKind.wrap .i64 a)-32768)=p.X+a-32768:=by
    rw[Bv (x:=a),Bv (x:=p.X+a),Bv]<;>omega
  have i:IntKind.wrap .i64 (IntKind.wrap .i64 (p.Y+IntKind.wrap .i64 b)-32768)=p.Y+b-32768:=by
    rw[Bv (x:=b),Bv (x:=p.Y+b),Bv]<;>omega
  simp only[e,i,gS];refine⟨_,rfl,?_⟩;simp only;refine⟨?_,?_,?_,?_⟩<;>(repeat' split)<;>omega
theorem gR {A1 AA:Int} {s:AE} (hs:EM A1 AA s) (d:0<=A1) (c:AA<=5000) {v:Int} (hv:0<=v/\v<=65535):∃m,Q3 s (IntKind.wrap .i64 v)=some m/\s.AK<=m/\m<=s.A0:=by
  unfold EM at hs;obtain⟨m,h,a,b⟩:=vV s.AK s.A0 v (by omega) (by omega) (by omega) hv
  rw[e1]at h;rw[uK,Bv (by omega) (by omega)]
  exact⟨m,h,a,b⟩
theorem AjY {s:BC} {n:Ah} (h:Iv s n) {x:CG} (a:∀j,j<4->0<=x.Gg j/\x.Gg j<=65535):∃c k,Q2 s n x=some ⟨c,k⟩/\Kd s n c k:=by
  obtain⟨c,f,b⟩:=gR (O7 h) (by omega) (by omega) (a 0 (by omega))
  obtain⟨k,g,d⟩:=gR h.clear (by omega) (by omega) (a 1 (by omega))
  rw[uJ];unfold dE;rw[gJ h,AY];have e:(List.getD s.BJ (Int.toNat n.FJ) (A7.mk ByteArray.empty (AE.mk 0 0) 0)).CF=Eh s n:=rfl;have l:Int.toNat 0=0:=rfl;have i:Int.toNat 1=1:=rfl;rw[e,l,i,f,B7,g];exact⟨c,k,rfl,b,d⟩
theorem AjR {s:BC} {n:Ah} (h:Iv s n) {x:CG} (d:∀j,j<4->0<=x.Gg j/\x.Gg j<=65535):∃a b,XI s n x=some ⟨a,b⟩/\0<=b/\b<32:=by
  obtain⟨a,e,k⟩:=gR h.KU (by omega) (by omega) (d 2 (by omega))
  have f:=d 3 (by omega)
  have i:=h.Aie;have g:=h.F9;rw[uO];unfold dV;have l:Int.toNat 2=2:=rfl;have u:Int.toNat 3=3:=rfl;have c:(n.H4==0)=false:=GG (by omega)
  have t:=O6 (x.Gg 3) n.H4 f.1 (by omega)
  have z:IntKind.wrap .i64 (x.Gg 3)=x.Gg 3:=by rw[Bv]<;>omega
  have q:IntKind.wrap .i64 (n.IW+Int.tmod (x.Gg 3) n.H4)=n.IW+Int.tmod (x.Gg 3) n.H4:=by rw[Bv]<;>omega
  rw[l,u,e,B7,c,z,q];exact⟨_,_,rfl,O6 _ 32 (by omega) (by omega)⟩
end Nore
open Go Go.Ab
namespace Nore
def gW (n:Ah) (c k:Int) (l:List Ak):Prop:=l.length<=8/\∀r∈l,DW r.At/\FC n c k r=true
set_option maxHeartbeats 1000000 in
theorem AjZ {s:BC} {n:Ah} (h:Iv s n) {x:CG} (o:∀j,j<4->0<=x.Gg j/\x.Gg j<=65535) (hy:∀v∈x.Bh,0<=v/\v<=65535) {c k:Int} (Bn:Q2 s n x=some ⟨c,k⟩) (hT:Kd s n c k) :
    ∃l,XJ s n x=some l/\gW n c k l:=by
  have f:=O7 h;have g:=h.clear;unfold EM at f g;obtain⟨a,b,m,hb⟩:=AjR h o;obtain⟨l,O,J⟩:=Eo (OX n s x) 8 (fun i (b:List Ak)=>(((3*i:Nat):Int),b)) (fun i b=>b.length=i/\∀r∈b,DW r.At/\FC n c k r=true) (gW n c k)
    (fun b e=>by
      refine⟨b,?_,by omega,e.2⟩
      have BG:decide ((b.length:Int)<8)=false:=by simp;omega
      simp only[OX,QO,BG,Ac];cases decide (IntKind.wrap .i64 (((3*8:Nat):Int)+2)<(x.Bh.length:Int))<;>rfl)
    (fun i b AA e=>by
      have Q:IntKind.wrap .i64 (((3*i:Nat):Int)+1)=((3*i+1:Nat):Int):=by rw[Bv]<;>omega
      have C:IntKind.wrap .i64 (((3*i:Nat):Int)+2)=((3*i+2:Nat):Int):=by rw[Bv]<;>omega
      have M:IntKind.wrap .i64 (((3*i:Nat):Int)+3)=((3*(i+1):Nat):Int):=by rw[Bv]<;>omega
      have BG:decide ((b.length:Int)<8)=true:=by simp;omega
      by_cases hl:3*i+2<x.Bh.length
      · right
        have AS:decide (((3*i+2:Nat):Int)<(x.Bh.length:Int))=true:=by simp;omega
        have I:decide (((3*i:Nat):Int)<(x.Bh.length:Int))=true:=by simp;omega
        have K:decide (((3*i+1:Nat):Int)<(x.Bh.length:Int))=true:=by simp;omega
        obtain⟨q,t,d⟩:=wU h.at_ (hy _ (Fx (show 3*i<x.Bh.length by omega))) (hy _ (Fx (show 3*i+1<x.Bh.length by omega)))
        have k1:Nat.ble ((b.length+1)*(24+1)) 200000000000000=true:=by rw[Nat.ble_eq];omega
        simp only[OX,QO,Q,C,M,AS,BG,I,K,ES,Cd,CD,AY,Dt _ _ _ (show 3*i<x.Bh.length by omega),Dt _ _ _ (show 3*i+1<x.Bh.length by omega),Dt _ _ _ hl,t,Bn,m,B7,List.length_singleton,k1]
        have u:∀r:Ak,DW r.At/\FC n c k r=true->(b++[r]).length=i+1/\∀y∈b++[r],DW y.At/\FC n c k y=true:=fun r AH=>by
          refine⟨by simp;omega,fun y hy=>?_⟩
          rcases List.mem_append.1 hy with hy|hy
          · exact e.2 y hy
          · rw[List.mem_singleton.1 hy];exact AH
        cases ht:(Int.tmod x.Bh[3*i+2] 2==1)with
        | true =>
          obtain⟨r,AH⟩:=AjS h.at_ d (a:=a) hb;simp only[AY,AH,B7];exact⟨_,rfl,u _ ⟨d,rfl⟩⟩
        | false =>
          have p:=vT h.at_ d (c:=c) (k:=k) (by unfold Kd at hT;omega) (by unfold Kd at hT;omega)
          simp only[Ac,p,B7];exact⟨_,rfl,u _ ⟨d,by unfold FC;simp⟩⟩
      · left
        have AS:decide (((3*i+2:Nat):Int)<(x.Bh.length:Int))=false:=by simp;omega
        refine⟨b,?_,by omega,e.2⟩
        simp only[OX,QO,C,AS,Ac]) 0 [] (by omega) ⟨rfl,fun r AH=>by cases AH⟩
  have z:eU n s x (0,[])=some l:=O;rw[uQ];unfold dX;rw[z];exact⟨l,rfl,J⟩
theorem AjK {n:Ah} {c k:Int} {l:List Ak} (h:gW n c k l):D4 n l c k=true:=List.all_eq_true.2 fun r AH=>(h.2 r AH).2
end Nore
open Go Go.Ab
namespace Nore
theorem Aj3 {r:AQ} {e:Nat->Int} (a:Qf r e) {x:Aa} (h:T8 r e x):gX r e x:=by
  obtain⟨t,c,b,d⟩:=h;exact T7 a.1.2.1 x.Device t x.State x.At.AK x.At.A0 c b r.Entries 0 (Qb r x.Device) (-1) (by omega) (by omega) (by omega) (fun h=>by omega) d
theorem Aj9 {r:AQ} (hc:(H8 r).2.2=0) (x:Bx) (hx:∀v∈x.Jv,0<=v/\v<=65535) (u:∀v∈x.Bh,0<=v/\v<=65535) {t:Int} (ht:0<=t/\t<10000) :
    ∃J l A I,O0 r x=some J/\QX (x,r)=some l/\TX r l ⟨0,0,⟨t,t⟩⟩=some (A,0)/\Q4 r J 0 t=some I/\(A=2->I=0)/\(A=0->I≠0)/\0<=I/\H5 t A l r 1=some (.inr ()):=by
  have AH:=gC hc;obtain⟨J,l,hM,a1,M,a6,hT,hl,d⟩:=Akr AH x hx u;have hs:Fl r l=(0,0):=w8 hc hl fun w m=>(d w m).1;have z:(Fl r l).2=0:=by rw[hs]
  have ha:HG r l=true:=Ajk M fun w m=>(d w m).2;have a0:NF r l (fun j=>J.getD j 0):=⟨M,fun w m=>Aj3 M (d w m).2⟩;have hn:=AH.many;have a5:=AH.VO;have o:(0:Int)<=0/\(0:Int)<r.Au.length:=by omega
  obtain⟨S,Q,a4,a3⟩:=Q0 AH o;have Z:Int.toNat 0=0:=rfl;have K:decide ((0:Nat)<=0)=true:=rfl;have n:(r.Au.getD 0 (A9.mk ByteArray.empty 0 0)).Dk=(S:Int):=Q;have hE:∀s:Int,0<=s->s<S->EK r 0 s ⟨t,t⟩=0:=fun s h0 h=>wQ AH o Q ⟨h0,h⟩ ht.1 (Int.le_refl _) (by omega)
  have g:J2 r l ⟨0,0,⟨t,t⟩⟩=0:=by
    unfold J2;simp only[z,hE 0 (by omega) (by omega),ha]
    simp
  have e:LU r (fun j=>J.getD j 0) 0 t∈H6 r l 0 t:=(AjW AH o t _).2 ⟨_,a0,rfl⟩;have U:0<=LU r (fun j=>J.getD j 0) 0 t:=by
    have:∀v∈H6 r l 0 t,0<=v:=fun v hv=>(fP r l 0 t _ v hv).1;exact this _ e
  refine⟨J,l,LS (H6 r l 0 t) 0,_,hM,hT,?_,vU hn J a1 o t,?_,?_,U,?_⟩
  · rw[Aiw,if_neg (fun k:J2 r l ⟨0,0,⟨t,t⟩⟩≠0=>k g)]
  · intro a
    unfold LS at a
    by_cases C:(0:Int)∈H6 r l 0 t
    · rw[if_pos C]at a
      by_cases h:(H6 r l 0 t).length=1
      · obtain⟨c,hc⟩:=List.length_eq_one_iff.1 h
        rw[hc]at C e;rw[List.mem_singleton.1 e,<-List.mem_singleton.1 C]
      · rw[if_neg h]at a;cases a
    · rw[if_neg C]at a;cases a
  · intro a hz
    unfold LS at a;rw[if_pos (by rw[hz]at e;exact e)]at a
    split at a<;>cases a
  ·
    obtain⟨w,g1,g2⟩:=Eo (QE t (LS (H6 r l 0 t) 0) l r) (S-1) (fun i (_:Unit)=>((i+1:Nat):Int)) (fun _ _=>True) (fun w=>w=.inr ())
      (fun _ _=>by
        have AS:decide (((S-1+1:Nat):Int)<(S:Int))=false:=by simp;omega
        have Cu:decide ((0:Int)<(r.Au.length:Int))=true:=by simp;omega
        refine⟨.inr (),?_,rfl⟩;simp only[QE,St,Cu,K,CD,AY,Z,n,AS,Ac])
      (fun i _ AA _=>by
        have AS:decide (((i+1:Nat):Int)<(S:Int))=true:=by simp;omega
        have Cu:decide ((0:Int)<(r.Au.length:Int))=true:=by simp;omega
        simp only[QE,St,Cu,K,CD,AY,Z,n,AS,EH (i+1) (by omega)]
        cases a:(LS (H6 r l 0 t) 0==2)with
        | false=>left;exact⟨_,rfl,rfl⟩
        | true =>
          simp only[AY]
          by_cases h4:l.length<4
          · right
            have Df:decide ((l.length:Int)<4)=true:=by simp;omega
            have k1:Nat.ble ((0+l.length)*(32+1)) 200000000000000=true:=by rw[Nat.ble_eq];omega
            have k2:Nat.ble ((l.length+1)*(32+1)) 200000000000000=true:=by rw[Nat.ble_eq];omega
            have m:XM l 0 ((i+1:Nat):Int) t=some (II l 0 ((i+1:Nat):Int) t):=by
              rw[uT];unfold eE;simp only[List.nil_append,List.length_singleton,k1,k2,AY];rfl
            have a2:(Fl r (II l 0 ((i+1:Nat):Int) t)).2=0:=by
              rw[w8 hc (by unfold II;simp;omega) fun y hy=>by
                rcases List.mem_append.1 hy with hy|hy
                · exact(d y hy).1
                · rw[List.mem_singleton.1 hy];exact hE ((i+1:Nat):Int) (by omega) (by omega)]
            have p:HG r (II l 0 ((i+1:Nat):Int) t)=false:=by
              cases O:HG r (II l 0 ((i+1:Nat):Int) t)with
              | false=>rfl
              | true =>
                exfalso;have f:((i+1:Nat):Int)∈H6 r l 0 t:=by
                  unfold H6 Gi;rw[Q,Cd];exact List.mem_map.2 ⟨i+1,List.mem_filter.2 ⟨List.mem_range.2 (by omega),O⟩,rfl⟩
                simp only[beq_iff_eq]at a;unfold LS at a
                by_cases C:(0:Int)∈H6 r l 0 t
                · rw[if_pos C]at a
                  by_cases h:(H6 r l 0 t).length=1
                  · obtain⟨c,hc⟩:=List.length_eq_one_iff.1 h
                    rw[hc]at C f;have:=List.mem_singleton.1 C;have:=List.mem_singleton.1 f;omega
                  · rw[if_neg h]at a;cases a
                · rw[if_neg C]at a;cases a
            have q:TZ r (II l 0 ((i+1:Nat):Int) t)=some (false,0):=by
              rw[AiH];unfold gQ;rw[if_neg (fun k=>k a2)];exact congrArg (fun b=>some (b,(0:Int))) p
            have b0:((0:Int) != 0)=false:=rfl;simp only[Df,AY,m,B7,q,b0,Ac];exact⟨(),trivial,trivial⟩
          · left
            have Df:decide ((l.length:Int)<4)=false:=by simp;omega
            simp only[Df,Ac];exact⟨_,rfl,rfl⟩) 0 () (Nat.zero_le _) trivial
    have W:H5 t (LS (H6 r l 0 t) 0) l r 1=some w:=g1;rw[W,g2]
end Nore
open Go Go.Ab
namespace Nore
theorem Qc {n:Int} (h:(Lit.int .u16 n).wf=true):0<=n/\n<=65535:=by
  simp[Lit.wf,IntKind.has,IntKind.min,IntKind.max,IntKind.signed,IntKind.bits]at h;omega
theorem Ajb {s:BC} {n:Ah} (h:Iv s n) {l:List Ak} (hl:l.length<=8) (hb:∀r∈l,DW r.At) {p:A6} (e:DW p) {K:Int} (f:K=0->∀c k,Kd s n c k->D4 n l c k=true->Ix n p c k=false) :
    (bif K==0 then bif decide ((↑(List.length l):Int)<8)then bif Nat.ble ((0+List.length l)*(24+1)) 200000000000000 then bif Nat.ble ((List.length ([]++l)+List.length [Ak.mk p false true])*(24+1)) 200000000000000 then Option.bind (Gh s n ([]++l++[Ak.mk p false true])) fun r577↦bif r577.snd.snd != 9 then some false else some true else none else none else some true else some true)=some true:=by
  cases j:(K==0)with
  | false=>rfl
  | true =>
    have d:K=0:=by simpa using j
    by_cases q:l.length<8
    · have c:decide ((l.length:Int)<8)=true:=by simp;omega
      have k1:Nat.ble ((0+l.length)*(24+1)) 200000000000000=true:=by rw[Nat.ble_eq];omega
      have k2:Nat.ble ((([]++l).length+[Ak.mk p false true].length)*(24+1)) 200000000000000=true:=by rw[Nat.ble_eq];simp;omega
      obtain⟨a,b,hc⟩:=Aj8 h (l:=[]++l++[Ak.mk p false true]) (by simp;omega) (fun r AH=>by
        rcases List.mem_append.1 AH with AH|AH
        · exact hb r AH
        · rw[List.mem_singleton.1 AH];exact e) fun c k ht=>by
          cases i:D4 n l c k with
          | false=>simp only[D4]at i⊢;rw[List.all_append,List.nil_append,i];rfl
          | true =>
            have:=f d c k ht i;simp only[D4,List.nil_append,List.all_append,EW,List.all_nil,FC,this];simp
      rw[c,k1,k2,hc];rfl
    · have c:decide ((l.length:Int)<8)=false:=by simp;omega
      rw[c];rfl
set_option maxHeartbeats 1000000 in
theorem AiN (r:AQ) (s:BC) (x:C5) (h1:∀v∈x.D3.LO.Jv,0<=v/\v<=65535) (h2:∀v∈x.D3.LO.Bh,0<=v/\v<=65535) (h3:∀j,j<4->0<=x.D3.LN.Gg j/\x.D3.LN.Gg j<=65535) (h4:∀v∈x.D3.LN.Bh,0<=v/\v<=65535) (h5:∀j,j<2->0<=x.D3.At j/\x.D3.At j<=65535) (h6:0<=x.D3.Minute/\x.D3.Minute<=65535):TM r s x=some true:=by
  rw[tQ];unfold W9;obtain⟨a,e,hN,Z⟩:=Ait s x.Fk;rw[AiL,B7,hN,B7]
  by_cases hc:(H8 r).2.2=0
  · have Aw:((H8 r).2.2 != 0)=false:=by simp[hc]
    rw[Aw,Ac]
    by_cases Q:e=0
    · have BS:(e != 0)=false:=by simp[Q]
      have hn:=Z Q;have w:IntKind.wrap .i64 x.D3.Minute=x.D3.Minute:=by rw[Bv]<;>omega
      have ht:=O6 x.D3.Minute 10000 h6.1 (by omega)
      rw[w];generalize Int.tmod x.D3.Minute 10000=t at ht;obtain⟨ms,l,A,C,m1,m2,m3,m4,f3,f4,f5,g⟩:=Aj9 hc x.D3.LO h1 h2 ht;obtain⟨O,W,Bn,i⟩:=AjY hn h3;obtain⟨a4,hR,b⟩:=AjZ hn h3 h4 Bn i;have z0:Int.toNat 0=0:=rfl;have z1:Int.toNat 1=1:=rfl;obtain⟨p,hS,J⟩:=wU hn.at_ (h5 0 (by omega)) (h5 1 (by omega))
      have o:∀q∈a4,DW q.At:=fun q hq=>(b.2 q hq).1;obtain⟨K,BG,a5,f⟩:=AjQ hn b.1 o J;have h0:=f O W i (AjK b);obtain⟨rfl,f1,f2⟩:=h0;have n:XP 0 0 t=some ⟨0,0,⟨t,t⟩⟩:=by
        rw[vJ];unfold dP;rw[Ws];rfl
      have U:=O7 hn;have M:=hn.clear;unfold EM at U M;have y:=i;unfold Kd at y;have u:=vT hn.at_ J (c:=O) (k:=W) (by omega) (by omega)
      have b0:((0:Int) != 0)=false:=rfl;have I:=Ajb hn b.1 o J (K:=K) fun hK c k z a1=>(f c k z a1).2.2 hK;simp only[BS,Ac,m2,m1,B7,hR,z0,z1,hS,a5,n,m3,b0,m4,Bn,u,g,IC,I];generalize Ix x.Fk p O W=m at f1 f2
      by_cases hb:C>0
      · have d:decide (C>0)=true:=by simp[hb]
        have a2:(A==2)=false:=GG fun h=>by have:=f3 h;omega
        simp only[d,a2,AY,Ac];cases m with
        | true =>
          have a3:(K==0)=false:=GG fun h=>by have:=f2 h;cases this
          simp only[a3,Bool.not_true,Ac];cases(K==2)<;>cases(A==0)<;>rfl
        | false =>
          have k2:(K==2)=false:=GG fun h=>by have:=f1 h;cases this
          simp only[k2,Ac];cases(K==0)<;>rfl
      · have d:decide (C>0)=false:=by simpa using hb
        have a0:(A==0)=false:=GG fun h=>f4 h (by omega)
        simp only[d,a0,Ac];cases(K==2)<;>cases(K==0)<;>cases(A==2)<;>rfl
    · have BS:(e != 0)=true:=HH Q
      simp only[BS,AY]
  · have Aw:((H8 r).2.2 != 0)=true:=HH hc
    rw[Aw,AY]
theorem AiO (r:AQ) (s:BC) (x:C5) (e:∀v,List.Mem v x.D3.LO.Jv->(Lit.int .u16 v).wf=true) (c:∀v,List.Mem v x.D3.LO.Bh->(Lit.int .u16 v).wf=true) (g:∀j,j<4->(Lit.int .u16 (x.D3.LN.Gg j)).wf=true) (d:∀v,List.Mem v x.D3.LN.Bh->(Lit.int .u16 v).wf=true) (f:∀j,j<2->(Lit.int .u16 (x.D3.At j)).wf=true) (b:(Lit.int .u16 x.D3.Minute).wf=true):TM r s x=some true :=
  AiN r s x (fun v hv=>Qc (e v hv)) (fun v hv=>Qc (c v hv)) (fun j a=>Qc (g j a)) (fun v hv=>Qc (d v hv)) (fun j a=>Qc (f j a)) (Qc b)
end Nore
open Go Go.Ab
namespace Nore
def XY (far k:Nat):Nat->Nat->Nat->Nat
  | 0,c,_=>c
  | f+1,c,n=>bif Nat.ble 1 c&&Nat.ble (n*k*(n*k)) far then XY far k f (c / 2) (n+1)else c
theorem wL (far k:Nat):∀f c n:Nat,LV (far:Int) (k:Int) f (c:Int) (n:Int)=((XY far k f c n:Nat):Int)
  | 0,_,_=>rfl
  | f+1,c,n=>by
    simp only[LV,XY];have ih:=wL far k f (c / 2) (n+1);cases d:Nat.ble 1 c with
    | false =>
      have:¬1<=c:=fun h=>by rw[Nat.ble_eq_true_of_le h]at d;cases d
      rw[if_neg (by omega)];rfl
    | true =>
      have b:=DF d;cases e:Nat.ble (n*k*(n*k)) far with
      | false =>
        have a:¬n*k*(n*k)<=far:=fun h=>by rw[Nat.ble_eq_true_of_le h]at e;cases e
        rw[if_neg fun h=>a (by have:=h.2;exact_mod_cast this)];rfl
      | true =>
        have a:=DF e;rw[if_pos ⟨by omega,by exact_mod_cast a⟩]
        simp only[CD,AY];rw[<-ih];rfl
def MP (far c k:Nat):Bool:=Nat.ble far (XY far (k*100) 13 c 1*1000000)
theorem wZ (far c k:Nat):LY (far:Int) (c:Int) (k:Int)=MP far c k:=by
  unfold LY Qt MP;have:=wL far (k*100) 13 c 1;rw[show((1:Nat):Int)=1 from rfl,show((k*100:Nat):Int)=(k:Int)*100 from by simp]at this
  rw[this,Bool.eq_iff_iff,Nat.ble_eq,decide_eq_true_iff];omega
theorem fT {far c k:Int} (f:0<=far) (e:0<=c) (g:0<=k):LY far c k=MP far.toNat c.toNat k.toNat:=by
  obtain⟨a,rfl⟩:=Int.eq_ofNat_of_zero_le f;obtain⟨b,rfl⟩:=Int.eq_ofNat_of_zero_le e;obtain⟨d,rfl⟩:=Int.eq_ofNat_of_zero_le g;exact wZ a b d
theorem wB {ok d:Int->Int->Bool} {f e:Int->Int->Int} {c k:Int} (b:AE×Bool):∀m:Nat,(∀k',k<=k'->k'<k+(m:Nat)->ok c k'=d c k'/\f c k'=e c k')->HS ok f c k m b=HS d e c k m b
  | 0,_=>rfl
  | m+1,h=>by
    have:=h (k+(m:Int)) (by omega) (by omega)
    rw[Q7,Q7,wB b m fun k' a b=>h k' a (by omega),this.1,this.2]
theorem QY {ok d:Int->Int->Bool} {f e:Int->Int->Int} {c k:Int} {m:Nat}:∀n:Nat,(∀c' k',c<=c'->c'<c+(n:Nat)->k<=k'->k'<k+(m:Nat)->ok c' k'=d c' k'/\f c' k'=e c' k')->FY ok f c n k m=FY d e c n k m
  | 0,_=>rfl
  | n+1,h=>by
    rw[Q6,Q6,QY n fun c' k' a b=>h c' k' a (by omega),wB _ m fun k' a b=>h (c+(n:Int)) k' (by omega) (by omega) a b]
end Nore
open Go Go.Ab
namespace Nore
def OH (x:Int) (i:Nat):Int:=IntKind.wrap .i64 ((BitVec.toNat (BitVec.ofInt (IntKind.bits .i64) x ||| BitVec.ofInt (IntKind.bits .i64) (IntKind.wrap .i64 (1*2 ^ min i (IntKind.bits .i64)))):Nat):Int)
def IY (d:Ak->Bool) (l:List Ak) (m:Nat):Int:=(List.range m).foldl (fun b i=>bif d (l.getD i ⟨⟨0,0⟩,false,false⟩)then b else OH b i) 0
theorem fV (d:Ak->Bool) (l:List Ak) (m:Nat):IY d l (m+1)=bif d (l.getD m ⟨⟨0,0⟩,false,false⟩)then IY d l m else OH (IY d l m) m:=by
  unfold IY;rw[List.range_succ,List.foldl_append];rfl
def xH (s:Int) (m:List (Int×Int)):List (Int×Int):=Mp (fun a b=>a==b) s (IntKind.wrap .i64 (Option.getD (KR (fun a b=>a==b) s m) 0+1)) m
def LZ (f:Int->Int->Int) (c k:Int) (m:Nat) (b:List (Int×Int)):List (Int×Int):=(List.range m).foldl (fun b (i:Nat)=>xH (f c (k+(i:Int))) b) b
def MO (f:Int->Int->Int) (c:Int) (n:Nat) (k:Int) (m:Nat):List (Int×Int):=(List.range n).foldl (fun b (j:Nat)=>LZ f (c+(j:Int)) k m b) []
theorem fU (f:Int->Int->Int) (c k:Int) (m:Nat) (b:List (Int×Int)):LZ f c k (m+1) b=xH (f c (k+(m:Int))) (LZ f c k m b):=by
  unfold LZ;rw[List.range_succ,List.foldl_append];rfl
theorem fW (f:Int->Int->Int) (c:Int) (n:Nat) (k:Int) (m:Nat):MO f c (n+1) k m=LZ f (c+(n:Int)) k m (MO f c n k m):=by
  unfold MO;rw[List.range_succ,List.foldl_append];rfl
theorem wC {f d:Int->Int->Int} {c k:Int} (b:List (Int×Int)):∀m:Nat,(∀k',k<=k'->k'<k+(m:Nat)->f c k'=d c k')->LZ f c k m b=LZ d c k m b
  | 0,_=>rfl
  | m+1,h=>by rw[fU,fU,wC b m fun k' a b=>h k' a (by omega),h (k+(m:Int)) (by omega) (by omega)]
theorem vY {f d:Int->Int->Int} {c k:Int} {m:Nat}:∀n:Nat,(∀c' k',c<=c'->c'<c+(n:Nat)->k<=k'->k'<k+(m:Nat)->f c' k'=d c' k')->MO f c n k m=MO d c n k m
  | 0,_=>rfl
  | n+1,h=>by rw[fW,fW,vY n fun c' k' a b=>h c' k' a (by omega),wC _ m fun k' a b=>h (c+(n:Int)) k' (by omega) (by omega) a b]
section
variable {x:BK} (hn:DW x.Ah.At) (hl:x.C0.length<=8) (hb:∀ r∈x.C0,DW r.At) {s:AE} (hs:EM 1 300 s)
include hn hl hb
theorem AjH {c k:Int} (hc:0<=c/\c<=5000) (e:1<=k/\k<=300):W6 (↑x.C0.length) x.C0 x false ⟨c,k⟩ (0,0)=some (IY (FC x.Ah c k) x.C0 x.C0.length):=by
  obtain⟨w,q,l⟩:=Eo (RB (↑x.C0.length) x.C0 x false ⟨c,k⟩) x.C0.length (fun i (b:Int)=>(b,(i:Int))) (fun i b=>b=IY (FC x.Ah c k) x.C0 i) (fun w=>w=IY (FC x.Ah c k) x.C0 x.C0.length)
    (fun b hb=>⟨b,by simp only[RB,Td,Int.lt_irrefl,decide_false,Ac],hb⟩)
    (fun i b AA f=>by
      right;have AS:decide ((i:Int)<(x.C0.length:Int))=true:=by simp;omega
      have BG:decide ((i:Int)<0)=false:=by simp
      have a:=Fx AA;have d:=hb _ a;simp only[RB,Td,AS,BG,ES,Cd,CD,AY,Ac,Dt _ _ _ AA,EH i (by omega),fQ hn d,Wt (NS hn d).2 hc e,B7]
      rw[f];refine⟨IY (FC x.Ah c k) x.C0 (i+1),?_,rfl⟩;rw[fV,Dt _ _ _ AA];unfold FC Ix;generalize x.C0[i]=r;cases r.MG with
      | true=>rfl
      | false =>
        simp only[Bool.false_or,BEq.rfl,AY];cases(LY (Io (Hn x.Ah r.At)) c k==r.MT)<;>rfl) 0 0 (Nat.zero_le _) rfl
  have j:W6 (↑x.C0.length) x.C0 x false ⟨c,k⟩ (0,0)=some w:=q;rw[j,l]
include hs
theorem AjG {c:Int} (hc:0<=c/\c<=5000) (b:List (Int×Int)) :
    W5 (s.A0-s.AK+1) s c x false (0,b)=some (LZ (fun c k=>IY (FC x.Ah c k) x.C0 x.C0.length) c s.AK (s.A0-s.AK+1).toNat b):=by
  unfold EM at hs;obtain⟨N,f⟩:=Int.eq_ofNat_of_zero_le (show 0<=s.A0-s.AK+1 by omega)
  rw[f,Cd];obtain⟨w,u,q⟩:=Eo (RA (N:Int) s c x false) N (fun i (b:List (Int×Int))=>((i:Int),b)) (fun i j=>j=LZ (fun c k=>IY (FC x.Ah c k) x.C0 x.C0.length) c s.AK i b) (fun w=>w=LZ (fun c k=>IY (FC x.Ah c k) x.C0 x.C0.length) c s.AK N b)
    (fun j d=>⟨j,by simp only[RA,Tc,Int.lt_irrefl,decide_false,Ac],d⟩)
    (fun i j AA e=>by
      right;have AS:decide ((i:Int)<(N:Int))=true:=by simp;omega
      have z:IntKind.wrap .i64 (s.AK+(i:Int))=s.AK+(i:Int):=by rw[Bv]<;>omega
      have a:NG c (s.AK+(i:Int))=some ⟨c,s.AK+(i:Int)⟩:=by rw[W8];rfl
      refine⟨_,?_,by rw[fU,<-e]⟩
      simp only[RA,Tc,AS,AY,z,a,B7,AjH hn hl hb hc (k:=s.AK+(i:Int)) (by omega),EH i (by omega)]
      rfl) 0 b (Nat.zero_le _) rfl
  have l:W5 (N:Int) s c x false (0,b)=some w:=u;rw[l,q]
theorem AjF {g:AE} (e:EM 1 5000 g) :
    Qy (g.A0-g.AK+1) g s x false (0,[])=some (MO (fun c k=>IY (FC x.Ah c k) x.C0 x.C0.length) g.AK (g.A0-g.AK+1).toNat s.AK (s.A0-s.AK+1).toNat):=by
  have a:=hs;unfold EM at e a;obtain⟨N,f⟩:=Int.eq_ofNat_of_zero_le (show 0<=g.A0-g.AK+1 by omega)
  have C:IntKind.wrap .i64 (s.A0-s.AK)=s.A0-s.AK:=by rw[Bv]<;>omega
  have u:IntKind.wrap .i64 (s.A0-s.AK+1)=s.A0-s.AK+1:=by rw[Bv]<;>omega
  rw[f,Cd];generalize q:(s.A0-s.AK+1).toNat=M;obtain⟨w,z,l⟩:=Eo (Qz (N:Int) g s x false) N (fun i (b:List (Int×Int))=>((i:Int),b)) (fun i b=>b=MO (fun c k=>IY (FC x.Ah c k) x.C0 x.C0.length) g.AK i s.AK M) (fun w=>w=MO (fun c k=>IY (FC x.Ah c k) x.C0 x.C0.length) g.AK N s.AK M)
    (fun b hb=>⟨b,by simp only[Qz,Tw,Int.lt_irrefl,decide_false,Ac],hb⟩)
    (fun i b AA d=>by
      right;have AS:decide ((i:Int)<(N:Int))=true:=by simp;omega
      have I:IntKind.wrap .i64 (g.AK+(i:Int))=g.AK+(i:Int):=by rw[Bv]<;>omega
      refine⟨_,?_,by rw[fW,<-d]⟩
      have AH:=AjG hn hl hb hs (c:=g.AK+(i:Int)) (by omega) b
      rw[q]at AH;simp only[Qz,Tw,AS,AY,I,C,u,AH,B7,EH i (by omega)]) 0 [] (Nat.zero_le _) rfl
  have j:Qy (N:Int) g s x false (0,[])=some w:=z;rw[j,l]
end
end Nore
set_option maxRecDepth 100000
open Go Go.Ab
namespace Nore
def Jw (c k:Nat):Nat->Nat->Nat->Nat
  | 0,A1,_=>A1
  | f+1,A1,AA=>bif Nat.ble (A1+1) AA then(bif MP (((A1+AA) / 2+1)*((A1+AA) / 2+1)) c k then Jw c k f ((A1+AA) / 2+1) AA else Jw c k f A1 ((A1+AA) / 2))else A1
theorem fM (c k f A1 AA:Nat):Jw c k (f+1) A1 AA=bif Nat.ble (A1+1) AA then(bif MP (((A1+AA) / 2+1)*((A1+AA) / 2+1)) c k then Jw c k f ((A1+AA) / 2+1) AA else Jw c k f A1 ((A1+AA) / 2))else A1:=rfl
theorem AkI {x:Int} (a:0<=x) (b:x<=1000000):IntKind.wrap .u64 x=x:=by
  simp only[IntKind.wrap,IntKind.signed,IntKind.bits];simp;omega
theorem AjJ {c k:Nat} (hc:c<=5000) (o:1<=k/\k<=300):OY ⟨(c:Int),(k:Int)⟩=some ((Jw c k 17 0 60000:Nat):Int):=by
  rw[tC];unfold cR;generalize hR:Jw c k 17 0 60000=R;obtain⟨w,K,z⟩:=Eo (OR ⟨(c:Int),(k:Int)⟩) 16 (fun i (b:Nat×Nat)=>((b.1:Int),(b.2:Int))) (fun i b=>(b.1<=b.2/\b.2<=60000/\b.2-b.1<2 ^ (16-i))/\Jw c k (17-i) b.1 b.2=R) (fun w=>w=((R:Nat):Int))
    (fun b hb=>by
      have e:b.1=b.2:=by have:=hb.1;simp at this;omega
      refine⟨(b.1:Int),?_,?_⟩
      · have AS:decide ((b.1:Int)<(b.2:Int))=false:=by simp;omega
        simp only[OR,QD,AS,Ac]
      · rw[<-hb.2]
        have AS:Nat.ble (b.1+1) b.2=false:=by
          cases h:Nat.ble (b.1+1) b.2 with
          | false=>rfl
          | true=>have:=DF h;omega
        rw[show 17-16=0+1 from rfl,fM,AS,Ac])
    (fun i b AA hb=>by
      obtain⟨⟨n,m,g⟩,d⟩:=hb;obtain⟨A1,a⟩:=b;simp only at n m g d;rw[show 17-i=17-(i+1)+1 by omega]at d
      have l:16-i=16-(i+1)+1:=by omega
      rw[l,Nat.pow_succ]at g
      by_cases q:A1<a
      · right
        have AS:decide ((A1:Int)<(a:Int))=true:=by simp;omega
        have BG:Nat.ble (A1+1) a=true:=Nat.ble_eq_true_of_le q;have M:IntKind.wrap .i64 ((A1:Int)+(a:Int))=((A1+a:Nat):Int):=by rw[Bv]<;>omega
        have I:IntKind.wrap .u64 ((A1+a:Nat):Int)=((A1+a:Nat):Int):=AkI (by omega) (by omega)
        have J:Int.fdiv ((A1+a:Nat):Int) (2 ^ min (Int.toNat 1) (IntKind.bits .u64))=(((A1+a) / 2:Nat):Int):=by
          show Int.fdiv ((A1+a:Nat):Int) 2=_;rw[Int.fdiv_eq_ediv_of_nonneg _ (by omega)];omega
        generalize hh:(A1+a) / 2=h at *;have C:IntKind.wrap .i64 ((h:Nat):Int)=(h:Int):=by rw[Bv]<;>omega
        have O:=EH h (by omega)
        have hv:K1 ⟨((h+1:Nat):Int),0⟩:=by unfold K1;simp only;omega
        have j:=Wt hv (c:=(c:Int)) (k:=(k:Int)) (by omega) (by omega)
        have f:Io ⟨((h+1:Nat):Int),0⟩=(((h+1)*(h+1):Nat):Int):=by unfold Io;simp
        rw[f,wZ]at j;simp only[OR,QD,AS,AY,M,I,J,C,O,j,B7,Bool.not_not];rw[fM,BG,AY,hh]at d;cases hl:MP ((h+1)*(h+1)) c k with
        | true =>
          rw[hl]at d;exact⟨(h+1,a),rfl,⟨by simp only;omega,by simp only;omega,by simp only;omega⟩,d⟩
        | false =>
          rw[hl]at d;exact⟨(A1,h),rfl,⟨by simp only;omega,by simp only;omega,by simp only;omega⟩,d⟩
      · left
        have AS:decide ((A1:Int)<(a:Int))=false:=by simp;omega
        have BG:Nat.ble (A1+1) a=false:=by
          cases h:Nat.ble (A1+1) a with
          | false=>rfl
          | true=>have:=DF h;omega
        rw[fM,BG,Ac]at d;exact⟨(A1:Int),by simp only[OR,QD,AS,Ac],by rw[<-d]⟩) 0 (0,60000) (by omega) ⟨by simp,hR⟩
  have u:cW ⟨(c:Int),(k:Int)⟩ (0,60000)=some w:=K;rw[u,z];rfl
theorem Aj5 {c k:Int} (hc:0<=c/\c<=5000) (d:1<=k/\k<=300):OY ⟨c,k⟩=some ((Jw c.toNat k.toNat 17 0 60000:Nat):Int):=by
  obtain⟨a,rfl⟩:=Int.eq_ofNat_of_zero_le hc.1;obtain⟨b,rfl⟩:=Int.eq_ofNat_of_zero_le (show 0<=k by omega)
  exact AjJ (by omega) (by omega)
/- The examples. -/
def Ij (c k:Int):Bool:=MP 100000000 c.toNat k.toNat
def Aed (c k:Int):Bool:=MP 144000000 c.toNat k.toNat
def OI (c k:Int):Bool:=MP 169000000 c.toNat k.toNat
theorem Akp:FY (fun c k=>Ij c k && !OI c k) (fun c _=>c) 400 21 50 71=(⟨400,420⟩,true):=by kernel_rfl
theorem Akq:FY (fun c k=>Ij c k && !OI c k) (fun _ k=>k) 400 21 50 71=(⟨50,65⟩,true):=by kernel_rfl
theorem AkD:FY Ij (fun c k=>if Aed c k then 1 else 0) 400 21 50 71=(⟨0,1⟩,true):=by kernel_rfl
theorem Ak6:FY (fun _ _=>true) (fun c k=>((Jw c.toNat k.toNat 17 0 60000:Nat):Int)) 400 21 50 71=(⟨10000,14491⟩,true):=by kernel_rfl
theorem Aki:FY (fun _ _=>true) (fun _ k=>k) 400 21 50 71=(⟨50,120⟩,true):=by kernel_rfl
end Nore
