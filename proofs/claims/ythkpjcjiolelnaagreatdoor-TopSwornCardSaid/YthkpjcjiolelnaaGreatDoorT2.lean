/- The same on typed values. -/
import Derived.Test.YthkpjcjiolelnaaGreatDoorT1
import Derived.WalkKit
import Derived.ProofKit
import Derived.OpenShut
import Derived.Below
import Derived.ChangeSame
import Derived.ReadAgain
import Derived.WideShapes
import Derived.Test.YthkpjcjiolelnaaGreatDoorA3
set_option linter.unusedSectionVars false
set_option linter.unusedVariables false
set_option linter.unusedSimpArgs false
namespace Go.Ab
variable {S:Nat->Type} {R:Type}
def nJ (nrm:BV->Option BV) (step:BV->Option (Ce×BV)) (m:Nat) (s:BV):Option (Ce×BV):=(step s).bind fun r=>match r.1 with
 | .normal=>iter nrm step m r.2
 | _=>some r
def rZ (E:Env) (key:Key) (F:Ag) (c:Code) (d:GR) (s:BV) (ex:Ce) (e:BV):Prop :=
 ∃N,∀n m,N<=n->N<=m->nJ (Lt E d key.n0) (CY E key.Cb key.Bj F (EQ E n) (B8 E n false) (B8 E n true) n key.Af c) m s=some (ex,e)
def CB (X:C1 S) (ls:Bo S R):Prop:=∀key s k r,ls key s k=some r->CT X.E s.AM->∀F c d,X.E.fn key.Bj=some F->Code.sub F.body key.pos=some c->(F.hints.find? fun h=>Nat.beq h.Af key.Af)=some d →
 ∃ex e,rZ X.E key F c d (Bb X.T s) ex (Bb X.T e)/\CT X.E e.AM/\k ex e=some r
theorem l0 (T:BZ S) (vs:List (AJ S)):Hz (Av T vs)=AI T (Kz vs):=by
 cases vs with
 | nil=>simp[Hz,Kz,Av,AI]
 | cons v vs =>
  cases vs with
  | nil=>simp[Hz,Kz,Av]
  | cons w vs=>simp[Hz,Kz,Av,AI]
theorem Xn (T:BZ S) (V:Nat):∀(vs:List (AJ S)) (k:Nat) (b:Tr (AJ S)),Kl V k (Av T vs) (b.BL (AI T))=(Kk V k vs b).BL (AI T)
 | [],k,b=>by simp[Kl,Kk,Av]
 | v::vs,k,b=>by
  simp only[Av,Kl,Kk];cases Nat.testBit V k with
  | true=>simp only[AY];rw[<-Xn T V vs,Gm];rfl
  | false=>simp only[Ac];exact Xn T V vs _ _
theorem iF (T:BZ S) (V AU:Nat):∀(AP:List Nat) (vs:List (AJ S)) (b:Tr (AJ S)),Kh V AU AP (Av T vs) (b.BL (AI T))=(Oi V AU AP vs b).map (Tr.BL (AI T))
 | [],[],b=>by simp[Kh,Oi,Av]
 | [],_::_,b=>by simp[Kh,Oi,Av]
 | _::_,[],b=>by simp[Kh,Oi,Av]
 | p::AP,v::vs,b=>by
  simp only[Av,Kh,Oi];cases Nat.blt p AU with
  | false=>rfl
  | true =>
   simp only[AY];cases Nat.testBit V p with
   | true =>
    simp only[AY];rw[<-iF T V AU AP vs,Gm];rfl
   | false=>simp only[Ac];exact iF T V AU AP vs b
theorem Lj (T:BZ S) (o:Tr (A3 S)):(o.BL (BH T)).get=CS T o.get:=funext fun i=>Fo _ _ _
theorem ZK (T:BZ S) (o:Tr (AJ S)):(o.BL (AI T)).get=F5 T o.get:=funext fun i=>Fo _ _ _
section
variable {X:C1 S} (hX:Ho X)
include hX
theorem Y3 {base:Nat->Option (AJ S)} {h:Nat->Option (A3 S)}:∀{rs:List ResultVar} {k:List (AJ S)->Option R} {r:R},P9 X base h rs k=some r->∃vs,G6 X.E (F5 X.T base) (CS X.T h) rs=some (Av X.T vs)/\k vs=some r
 | [],k,r,AH=>⟨[],by simp[G6,Av],AH⟩
 | .tmp t::rs,k,r,AH=>by
  simp only[P9]at AH;obtain⟨v,e,AH⟩:=AD AH;obtain⟨vs,b,c⟩:=Y3 AH;refine⟨v::vs,?_,c⟩;simp only[G6,F5,e,As,AX];rw[b];simp[Av]
 | .cell a t::rs,k,r,AH=>by
  simp only[P9]at AH;obtain⟨ti,e,AH⟩:=AD AH;obtain⟨q,b,AH⟩:=AD AH;obtain⟨o,c,_,AH⟩:=Abb hX AH;obtain⟨v,j,AH⟩:=AD AH;obtain⟨vs,m,g⟩:=Y3 AH;obtain⟨d,l,f⟩:=AD c;have i:d=AI X.T v:=by
   have:(ret d)=some (D9 X.T o):=f;simp only[ret,D9,j,As,Bc,Out.mk.injEq]at this;exact this.1
  refine⟨v::vs,?_,g⟩;simp only[G6,e,AX,F5,b,As];rw[l];simp only[AX];rw[m,i];simp[Av]
end
theorem Acj (T:BZ S) (m:Nat) (s:Ay S):(Bb T s).Cs m=Bb T (s.Cs m):=by
 simp only[BV.Cs,Ay.Cs,Bb,kA]
theorem lF (T:BZ S) (F:Ag) (id:Nat) (s:Ay S):(Bb T s).GK F id=Bb T (s.GK F id):=by
 unfold BV.GK Ay.GK;cases F.K0.find? fun p=>Nat.beq p.1 id with
 | none=>rfl
 | some p=>exact Acj T p.2 s
section
variable {X:C1 S} (hX:Ho X) {cs:Jg S R} (hcs:Ui X cs) {ls:Bo S R} (hls:CB X ls)
include hX hcs hls
omit hX hcs hls in
theorem AaA {E:Env} {f:Nat} (h:VF E f=false) (run:D5):JF E f run=run:=by
 unfold VF at h;simp only[Bool.or_eq_false_iff,Option.isSome_eq_false_iff,Option.isNone_iff_eq_none]at h;funext g as o nx;unfold JF;rw[h.1,h.2.1,h.2.2.1,h.2.2.2]
omit hX hcs hls in
theorem Abr {T:BZ S} (hT:IV T) (t id:Nat) (s:Ay S):ZO (Bb T s) t id=Bb T (Rg s t id):=by
 unfold ZO Rg;simp only[Bb,Fo];cases A5:s.AM.get id with
 | none=>rfl
 | some x =>
  cases x with
  | cells d cs =>
   simp only[As,BH,X7 hT];cases Hq cs with
   | true=>simp only[AY,Gm,AI,As,C8]
   | false=>rfl
  | _=>rfl
omit hX hcs hls in
theorem Am5 {T:BZ S} (hT:IV T) (t:Nat) (s:Ay S):Mx (Bb T s) t=Bb T (UY s t):=by
 unfold Mx UY;have a:(Bb T s).base.get t=(s.base.get t).map (AI T):=by simp only[Bb,Fo]
 rw[a];cases hb:s.base.get t with
 | none=>rfl
 | some v =>
  cases v with
  | ptr id o =>
   simp only[As,AI];cases Nat.beq o 0 with
   | true=>exact Abr hT t id s
   | false=>rfl
  | AL id b i e o =>
   simp only[As,AI];cases Nat.beq (b+i*e+o) 0 with
   | true=>exact Abr hT t id s
   | false=>rfl
  | _=>rfl
omit hX hcs hls in
theorem kI {T:BZ S} (hT:IV T) {DJ:Nat}:∀(AP:List (Nat×Nat)) (s:Ay S),Jr DJ AP (Bb T s)=Bb T (R9 DJ AP s)
 | [],_=>rfl
 | (r,t)::AP,s=>by
  unfold Jr R9;cases Nat.beq r DJ with
  | false=>exact kI hT AP s
  | true=>simp only[AY,Am5 hT];exact kI hT AP _
omit hX hcs hls in
theorem Abs {E:Env} {s:Ay S} (t id:Nat) (h:CT E s.AM):CT E (Rg s t id).AM:=by
 unfold Rg;split
 ·rename_i d cs _;cases Hq cs with
  | true=>exact h.set trivial
  | false=>exact h
 ·exact h
omit hX hcs hls in
theorem Am6 {E:Env} {s:Ay S} (t:Nat) (h:CT E s.AM):CT E (UY s t).AM:=by
 unfold UY;split
 ·rename_i id o _;cases Nat.beq o 0 with
  | true=>exact Abs t id h
  | false=>exact h
 ·rename_i id b i e o _;cases Nat.beq (b+i*e+o) 0 with
  | true=>exact Abs t id h
  | false=>exact h
 ·exact h
omit hX hcs hls in
theorem kJ {E:Env} {DJ:Nat}:∀(AP:List (Nat×Nat)) {s:Ay S},CT E s.AM->CT E (R9 DJ AP s).AM
 | [],_,h=>h
 | (r,t)::AP,s,h=>by
  unfold R9;cases Nat.beq r DJ with
  | false=>exact kJ AP h
  | true=>exact kJ AP (Am6 t h)
omit hX hcs hls in
theorem lW (T:BZ S):∀(ts:List Nat) (b:Tr (AJ S)),Ig ts (b.BL (AI T))=(VA ts b).BL (AI T)
 | [],_=>rfl
 | t::ts,b=>by
  unfold Ig VA;rw[<-lW T ts,Gm];rfl
omit hX hcs hls in
theorem Ab9 (T:BZ S) (d:Az):∀m:List (B1 S (.int .i64)×B1 S d),Mb (m.map fun p=>(Ck T (.int .i64) p.1,Ck T d p.2))=some (m.map fun p=>p.1)
 | []=>rfl
 | p::m=>by
  show(Mb (m.map fun p=>(Ck T (.int .i64) p.1,Ck T d p.2))).bind (fun l=>some ((p.1:Int)::l))=_;rw[Ab9 T d m];rfl
omit hX hcs hls in
theorem Ack (T:BZ S):∀{d e:Az} {m:List (B1 S d×B1 S e)} {l:List Int},nK d e m=some l->Mb (m.map fun p=>(Ck T d p.1,Ck T e p.2))=some l
 | d,e,m,l,h=>by
  unfold nK at h;split at h
  ·cases h;exact Ab9 T _ _
  ·cases h
omit hcs hls in
theorem Aos {F:Ag} {Af:Nat} {p:Nat×Nat×TypeId×Nat} {c:Code} {s:Ay S} {K:Ce->Ay S->Option R} {r:R} (h:mJ X F Af p c s K=some r) (f:CT X.E s.AM) :
  ∃C,Re X.E F Af p c (Bb X.T s)=some (.exit Af,Bb X.T C)/\CT X.E C.AM/\K (.exit Af) C=some r:=by
 unfold mJ at h;split at h
 ·rename_i k d b;split at h
  ·rename_i m n v;split at h
   ·rename_i O M es w;obtain⟨q,t,h⟩:=AD h;obtain⟨ti,g,h⟩:=AD h;split at h
    ·rename_i e j;obtain⟨Q,i,h⟩:=AD h;split at h
     ·rename_i a;obtain⟨l,o,h⟩:=AD h;obtain⟨u,h⟩:=Ad h;have AS:(Bb X.T s).base.get p.1=some (.iter k):=by simp only[Bb,Fo,d,As,AI]
      have BG:(Bb X.T s).base.get p.2.1=some .Aq:=by simp only[Bb,Fo,b,As,AI]
      have I:(Bb X.T s).AM.get k=some (.Dg m n []):=by simp only[Bb,Fo,v,As,BH]
      have J:(Bb X.T s).AM.get m=some (.map (es.map fun p=>(Ck X.T O p.1,Ck X.T M p.2))):=by simp only[Bb,Fo,w,As,BH]
      cases hn:Nat.beq n 0 with
      | true =>
       rw[hn]at h;refine⟨_,?_,?_,h⟩
       ·unfold Re;simp only[AS,BG,I,J,t,AX,g,j,i,a,Ack X.T o,List.length_map,u,AY,hn];rw[<-lF];simp only[Bb,Gm,As,C8,AI,<-lW]
       ·have:∀z:Ay S,(z.GK F Af).AM=z.AM:=fun z=>by unfold Ay.GK;cases F.K0.find? fun p=>Nat.beq p.1 Af<;>rfl
        rw[this];exact f.set (x:=none) trivial
      | false =>
       rw[hn]at h;refine⟨_,?_,?_,h⟩
       ·unfold Re;simp only[AS,BG,I,J,t,AX,g,j,i,a,Ack X.T o,List.length_map,u,AY,hn,Ac];rw[<-lF];simp only[Bb,Gm,As,C8,AI,BH,<-lW];rfl
       ·have:∀z:Ay S,(z.GK F Af).AM=z.AM:=fun z=>by unfold Ay.GK;cases F.K0.find? fun p=>Nat.beq p.1 Af<;>rfl
        rw[this];exact(f.set (x:=none) trivial).set (x:=some (.Ea _ _ _ _)) trivial
     ·cases h
    ·cases h
   ·cases h
  ·cases h
 ·cases h
omit hX hcs hls in
theorem AaK:∀xs:List Int,PS (xs.map fun n=>[AB.int .i64 n])=some xs
 | []=>rfl
 | n::xs=>by simp only[DU,PS,AaK xs,AX]
omit hX hcs hls in
theorem Anh {o:Tr A8} {id e e' u v nx:Nat} {ys:List Int} (a:o.get id=some (.Ea e' (ys.map fun n=>[AB.int .i64 n]) u)) (h:(Nat.beq e' e&&Nat.beq u v&&Nat.ble ys.length 1000000)=true) :
  SE e [.rs id v] o nx=some (.Ap [],o.set id (some (.row e ((He ys).map fun n=>[.int .i64 n]) 0 u)),nx):=by
 simp only[SE,a,List.length_map,h,AY,AaK,AX]
omit hcs hls in
theorem Anl {g:Nat} {as:List (AJ S)} {o:Tr (A3 S)} {nx:Nat} {k:AJ S->Tr (A3 S)->Nat->Option R} {r:R} (h:nN X g as o nx k=some r) (c:CT X.E o) :
  ∃v o' z,(∀run:D5,JF X.E g run g (Av X.T as) (o.BL (BH X.T)) nx=some (AI X.T v,o'.BL (BH X.T),z))/\CT X.E o'/\k v o' z=some r:=by
 unfold nN at h;split at h
 ·rename_i e hl hc a;unfold VN at h;split at h
  ·rename_i x;obtain⟨I,f,h⟩:=AD h;obtain⟨C,j,h⟩:=AD h;obtain⟨xs,l,h⟩:=AD h;obtain⟨b,h⟩:=Ad h;have d:=(hX.code e C I j f).1;refine⟨_,_,_,fun run=>?_,c.set (x:=some (.row _ _ _ _ _)) trivial,h⟩;simp only[Ar]at b;simp only[JF,hl,hc,a,Av,ZT,Lj,Xr l,AX,f,UC hX d.symm,List.length_map,b.1,b.2,CD,AY,Gm,AI,BH,As]
  ·cases h
 ·rename_i e hl hc a hs;unfold Vd at h;split at h
  ·refine⟨_,_,_,fun run=>?_,c,h⟩;simp only[JF,hl,hc,a,hs,Av,AI,AZ,SE]
  ·rename_i id v;split at h
   ·rename_i e' t xs u i;obtain⟨b,h⟩:=Ad h;split at h
    ·rename_i q;subst q;refine⟨_,_,_,fun run=>?_,c.set (x:=some (.row _ _ _ _ _)) trivial,h⟩;simp only[JF,hl,hc,a,hs,Av,AI];rw[Anh (ys:=xs) (by rw[Fo,i];rfl) b,Gm]
     rfl
    ·cases h
   ·cases h
  ·cases h
 ·cases h
theorem I3 {callH callY:KH S R} (Q:KI X false callH) (hY:KI X true callY) {path:List Nat} {Cb:Option Nat} {Bj:Nat} {F:Ag} (w:X.E.fn Bj=some F) :
  ∀(c:Code) (pos:List Nat) (Af:Nat) (s:Ay S) (k:Ce->Ay S->Option R) (r:R),G4 X cs ls Cb Bj F callH callY path pos Af c s k=some r->Code.sub F.body pos=some c->CT X.E s.AM →
   ∃ex s',Db (fun n=>CY X.E Cb Bj F (EQ X.E n) (B8 X.E n false) (B8 X.E n true) n Af c (Bb X.T s)=some (ex,Bb X.T s'))/\CT X.E s'.AM/\k ex s'=some r
 | .skip,pos,Af,s,k,r,h,_,I=>⟨.normal,s,Db.of fun _=>rfl,I,h⟩
 | .region id ops b7,pos,Af,s,k,r,h,_,I=>by
  simp only[G4]at h;obtain⟨s',a,d,b⟩:=Ama hX hcs (df:=Cb.isNone) Q hY h (kJ F.V0 I);refine⟨.normal,s',a.mono fun n hn=>?_,d,b⟩;rw[<-kI hX.t]at hn;simp only[CY,hn,AX]
 | .seq x y,pos,Af,s,k,r,h,M,I=>by
  simp only[G4]at h;have u:Code.sub F.body (0::pos)=some x:=by simp only[Code.sub,M,AX,Code.Lz]
  have hy:Code.sub F.body (1::pos)=some y:=by simp only[Code.sub,M,AX,Code.Lz]
  obtain⟨ex,K,a,d,b⟩:=I3 Q hY w x _ Af s _ r h u I;cases ex with
  | normal =>
   simp only at b;obtain⟨b4,s2,W,Z,j⟩:=I3 Q hY w y _ Af K k r b hy d;refine⟨b4,s2,(a.and W).mono fun n hn=>?_,Z,j⟩;simp only[CY,hn.1,AX];exact hn.2
  | _ =>
   simp only at b;refine⟨_,K,a.mono fun n hn=>?_,d,b⟩;simp only[CY,hn,AX]
 | .cond c x y,pos,Af,s,k,r,h,M,I=>by
  simp only[G4]at h;have u:Code.sub F.body (0::pos)=some x:=by simp only[Code.sub,M,AX,Code.Lz]
  have hy:Code.sub F.body (1::pos)=some y:=by simp only[Code.sub,M,AX,Code.Lz]
  cases A5:DO s.base.get c with
  | none=>rw[A5]at h;cases h
  | some v =>
   rw[A5]at h;cases v<;>simp only[reduceCtorEq]at h;rename_i t;have o:CA (Bb X.T s).base.get c=some (.bool t):=by
    show CA (s.base.BL (AI X.T)).get c=_;rw[ZK,Eg,A5];rfl
   cases t with
   | true =>
    simp only[AY]at h;obtain⟨ex,K,a,d,b⟩:=I3 Q hY w x _ Af s _ r h u I;refine⟨ex,K,a.mono fun n hn=>?_,d,b⟩;simp only[CY,o,AY];exact hn
   | false =>
    simp only[Ac]at h;obtain⟨ex,K,a,d,b⟩:=I3 Q hY w y _ Af s _ r h hy I;refine⟨ex,K,a.mono fun n hn=>?_,d,b⟩;simp only[CY,o,Ac];exact hn
 | .block id c,pos,Af,s,k,r,h,M,I=>by
  simp only[G4]at h;have u:Code.sub F.body (0::pos)=some c:=by simp only[Code.sub,M,AX,Code.Lz]
  obtain⟨ex,K,a,d,b⟩:=I3 Q hY w c _ id s _ r h u I;cases ex with
  | exit i =>
   simp only at b;cases AA:Nat.beq i id with
   | true =>
    rw[AA]at b;refine⟨.normal,K,a.mono fun n hn=>?_,d,b⟩;simp only[CY,hn,AX,AA,AY]
   | false =>
    rw[AA]at b;refine⟨_,K,a.mono fun n hn=>?_,d,b⟩;simp only[CY,hn,AX,AA,Ac]
  | _ =>
   simp only at b;refine⟨_,K,a.mono fun n hn=>?_,d,b⟩;simp only[CY,hn,AX]
 | .loop c,pos,Af,s,k,r,h,M,I=>by
  simp only[G4]at h;have u:Code.sub F.body (0::pos)=some c:=by simp only[Code.sub,M,AX,Code.Lz]
  split at h
  ·rename_i p U;cases hb:Nat.beq p.2.2.1 F.AU with
   | true=>rw[hb]at h;cases h
   | false =>
   rw[hb]at h;obtain⟨K,a,d,b⟩:=Aos hX h I;exact⟨_,K,Db.of fun n=>by simp only[CY,U,hb,Ac];exact a,d,b⟩
  rename_i U;obtain⟨e,a,h⟩:=AD h;obtain⟨K,d,h⟩:=AD h;obtain⟨b,W⟩:=Abp hX d I;obtain⟨ex,s',⟨N,Z⟩,j,h7⟩:=hls _ _ _ _ h W F c e w u a;refine⟨ex,s',⟨N+1,fun n hn=>?_⟩,j,h7⟩;simp only[CY,U,a,AX];cases n with
  | zero=>omega
  | succ m =>
   simp only[iter];have b1:Lt X.E e (Bb X.T s).next (Bb X.T s)=some (Bb X.T K):=b;rw[b1];simp only[AX];exact Z (m+1) m (by omega) (by omega)
 | .exit id,pos,Af,s,k,r,h,_,I=>⟨.exit id,s.GK F id,Db.of fun _=>by simp only[CY,lF],by
   have:(s.GK F id).AM=s.AM:=by unfold Ay.GK;cases F.K0.find? fun p=>Nat.beq p.1 id<;>rfl
   rw[this];exact I,h⟩
 | .scope c,pos,Af,s,k,r,h,M,I=>by
  simp only[G4]at h;have u:Code.sub F.body (0::pos)=some c:=by simp only[Code.sub,M,AX,Code.Lz]
  obtain⟨ex,K,a,d,b⟩:=I3 Q hY w c _ Af s _ r h u I;exact⟨ex,K,a.mono fun n hn=>by simp only[CY];exact hn,d,b⟩
 | .label l,pos,Af,s,k,r,h,_,I=>⟨.normal,s,Db.of fun _=>rfl,I,h⟩
 | .ret,pos,Af,s,k,r,h,_,I=>⟨.ret,s.Cs F.Pr,Db.of fun _=>by simp only[CY,Acj],I,h⟩
 | .goto _,pos,Af,s,k,r,h,_,I=>by simp only[G4,reduceCtorEq]at h
 | .refuse _,pos,Af,s,k,r,h,_,I=>by simp only[G4,reduceCtorEq]at h
 | .rangeFunc f AP assign body,pos,Af,s0,k,r,h,M,I=>by
  simp only[G4]at h;obtain⟨a,h⟩:=Ad h;obtain⟨s,d,h⟩:=AD h;obtain⟨fv,b,h⟩:=AD h
  have hs:(match(F.hints.find? fun h=>Nat.beq h.Af Af:Option GR)with
   | some e=>(GZ X.E (Bb X.T s0).next 0 e.Ff ((Bb X.T s0).base,(Bb X.T s0).AM)).bind fun r=>some (BV.mk r.1 r.2 ((Bb X.T s0).next+e.Ff.length))
   | none=>some (Bb X.T s0))=some (Bb X.T s)/\CT X.E s.AM:=by
   cases hh:(F.hints.find? fun h=>Nat.beq h.Af Af)with
   | none=>rw[hh]at d;cases d;exact⟨rfl,I⟩
   | some e =>
    rw[hh]at d;obtain⟨q,W,Z⟩:=AD d;cases Z;obtain⟨j,h7⟩:=KC hX W I;refine⟨?_,h7⟩;simp only;have b6:GZ X.E (Bb X.T s0).next 0 e.Ff ((Bb X.T s0).base,(Bb X.T s0).AM)=_:=j;rw[b6];rfl
  obtain⟨a5,b5⟩:=hs;cases fv with
  | fn g first O =>
   cases g with
   | func g =>
    simp only at h;obtain⟨v,C,J,W,Z,j⟩:=Q _ _ _ _ _ _ _ h (b5.set (x:=some (.loop Bj s.base AP.toList assign body Af .normal (Af::path) pos)) ⟨F,f,w,by simpa using M⟩)
    cases A5:C.get s.next with
    | none=>rw[A5]at j;cases j
    | some ob =>
     rw[A5]at j;cases ob<;>simp only[reduceCtorEq]at j;rename_i a2 a9 a7 b3 a6 a1 ex a4 b0;have a0:k ex { s with AM:=C.set s.next none,next:=J }=some r/\ex≠.busy:=by
      cases ex<;>simp only[reduceCtorEq]at j<;>exact⟨j,by simp⟩
     refine⟨ex,_,W.mono fun n hn=>?_,Z.set (x:=none) trivial,a0.1⟩;simp only[CY];have a8:U9 Cb (Bb X.T s0).AM.get=true:=by
      show U9 Cb (s0.AM.BL (BH X.T)).get=true;rw[Lj];unfold Ab5 at a;unfold U9;cases Cb with
      | none=>rfl
      | some l =>
       simp only at a⊢;unfold CS;cases hl:s0.AM.get l with
       | none=>rw[hl]at a;cases a
       | some ob=>rw[hl]at a;cases ob<;>simp only[CI]at a;rfl
     rw[a8];simp only[AY];have a3:=a5;refine(congrArg (fun z=>Option.bind z _) a3).trans ?_;simp only[AX];have o:CA (Bb X.T s).base.get f=some (.fn (.func g) (Av X.T first) (Av X.T O)):=by
      show CA (s.base.BL (AI X.T)).get f=_;rw[ZK,Eg,b];rfl
     rw[o];simp only[AX];have AS:B8 X.E n false g (Av X.T first++[.B2 (Bb X.T s).next]++Av X.T O) ((Bb X.T s).AM.set (Bb X.T s).next (some (.loop Bj (Bb X.T s).base AP.toList assign body Af .normal))) ((Bb X.T s).next+1)=some (AI X.T v,C.BL (BH X.T),J):=by
      rw[Gm]at hn;simp only[jO,Av,AI]at hn;exact hn
     rw[AS];simp only[AX,Fo];have b2:C.get (Bb X.T s).next=some (.loop a2 a9 a7 b3 a6 a1 ex a4 b0):=A5;rw[b2];simp only[As,BH];have BG:(Bb X.T { s with AM:=C.set s.next none,next:=J })={ Bb X.T s with AM:=(C.BL (BH X.T)).set (Bb X.T s).next none,next:=J }:=by
      simp only[Bb,Gm];rfl
     rw[BG];cases ex<;>first|rfl|exact absurd rfl a0.2
   | _=>cases h
  | _=>cases h
omit hls in
theorem Amf {g:Nat} {as:List (AJ S)} {AM:Tr (A3 S)} {next:Nat} {k:AJ S->Tr (A3 S)->Nat->Option R} {r:R} {F:Ag} (e:VF X.E g=false) (m:X.E.fn g=some F) (b:F.can=true)
  (h:mU cs g as AM next k=some r) (f:CT X.E AM) :
  ∃v q u,Db (fun n=>B8 X.E n false g (Av X.T as) (AM.BL (BH X.T)) next=some (AI X.T v,q.BL (BH X.T),u))/\CT X.E q/\k v q u=some r:=by
 unfold mU at h;rw[Ko,Kn (fun v k=>PZ v k),Uq,I4]at h;generalize I:(as.map fun d=>(D8 AM.get d).getD d)=fs at h;generalize C:Hf AM (Ln AM.get (Hr as))=BN at h;generalize J:Je BN.get 4096 (IQ fs) []=z at h;obtain⟨hb,h⟩:=Ad h;rw[Ko,Kn (fun v k=>PZ v k)]at h;have a:CT X.E BN:=by rw[<-C];exact f.Ba (UE _ _)
 obtain⟨v,os,Q,l,i,h⟩:=hcs.Gy _ _ _ _ _ _ h (Abz a _);rw[Rm,Kn (fun v k=>PZ v k),I4]at h;refine⟨_,_,_,Db.succ (l.mono fun n hn=>?_),a.bB (AbA i _),h⟩;simp only[Ar]at hb;have AS:((Av X.T as).map fun d=>(BP (AM.BL (BH X.T)).get d).getD d)=Av X.T fs:=by
  rw[<-I,RZ,RZ,List.map_map,List.map_map];congr 1;funext d;simp only[Function.comp,Lj,PI hX.t];cases D8 AM.get d<;>rfl
 have BG:E9 (AM.BL (BH X.T)) (DE (AM.BL (BH X.T)).get (Bm (Av X.T as)))=BN.BL (BH X.T):=by
  rw[<-C,Lj,RW hX.t,U4,Un]
 have M:reach (BN.BL (BH X.T)).get 4096 (EP (Av X.T fs)) []=z:=by
  rw[Lj,PC hX.t,Ot hX.t,J]
 obtain⟨⟨K,Bs,O⟩,AH,j⟩:=AD hn;have c:JI X.E (fun g as=>(B8 X.E n false g as .leaf 0).bind fun x=>BP x.2.1.get x.1) (B8 X.E n false) (B8 X.E n true) n g (Av X.T (JH (Hd z) fs)) ((Lk (Hd z) BN.get z).BL (BH X.T)) (FO z)=some (K,Bs,O):=AH;rw[B8,AaA e];unfold Kq;rw[m];simp only[AX,b,AY,AS,BG,M];rw[Lj,nC hX.t hb.2.2,UW hX.t _ _ hb.2.1,hb.1,U2 hX.t,l8 hX.t];simp only[CD,AY,c,AX,j,Lj,Rk hX.t,AbI hX.t,Un]
theorem Rv:∀n,KI X false (HR X cs ls n false)/\KI X true (HR X cs ls n true)
 | 0=>⟨fun _ _ _ _ _ _ _ h=>by simp[HR]at h,fun _ _ _ _ _ _ _ h=>by simp[HR]at h⟩
 | N+1=>by
  obtain⟨a1,W⟩:=Rv N;constructor
  ·intro path g as AM next k r h p
   simp only[HR]at h;cases K:VF X.E g with
   | true =>
    rw[K]at h;obtain⟨v,o',b1,u,o,e⟩:=Anl hX h p;exact⟨v,o',b1,Db.succ (Db.of fun n=>by simp only[B8];exact u _),o,e⟩
   | false =>
   rw[K]at h;simp only[Ac]at h;obtain⟨F,m,h⟩:=AD h;cases C:F.can with
   | true=>rw[C]at h;exact Amf hX hcs K m C h p
   | false =>
   rw[C]at h;simp only[Ac]at h;obtain⟨hl,h⟩:=Ad h;obtain⟨ex,I,u,o,e⟩:=I3 hX hcs hls a1 W m F.body [] 0 _ _ r h rfl p;have b7:(∃vs,G6 X.E (F5 X.T I.base.get) (CS X.T I.AM.get) F.JQ=some (Av X.T vs)/\k (Kz vs) I.AM I.next=some r)/\(∀i,ex≠.exit i)/\ex≠.busy:=by
    cases ex<;>simp only[reduceCtorEq]at e<;>exact⟨Y3 hX e,by simp,by simp⟩
   obtain⟨⟨vs,h4,w⟩,a,h7⟩:=b7;refine⟨Kz vs,I.AM,I.next,Db.succ (u.mono fun n hn=>?_),o,w⟩;simp only[B8,AaA K,Kq,m,AX,C,Ac,JI];have b5:Nat.ble (Av X.T as).length F.AU=true:=by rw[RZ,List.length_map];exact hl
   rw[b5];simp only[AY];have AS:(⟨Kl F.E6 0 (Av X.T as) .leaf,AM.BL (BH X.T),next⟩:BV)=Bb X.T ⟨Kk F.E6 0 as .leaf,AM,next⟩:=by
    simp only[Bb];rw[<-Xn];rfl
   rw[AS];have b9:CY X.E none g F (fun g as=>(B8 X.E n false g as .leaf 0).bind fun x=>BP x.2.1.get x.1) (B8 X.E n false) (B8 X.E n true) n 0 F.body (Bb X.T ⟨Kk F.E6 0 as .leaf,AM,next⟩)=some (ex,Bb X.T I):=hn
   rw[b9];simp only[AX];have b0:G6 X.E (Bb X.T I).base.get (Bb X.T I).AM.get F.JQ=some (Av X.T vs):=by
    show G6 X.E (I.base.BL (AI X.T)).get (I.AM.BL (BH X.T)).get F.JQ=_;rw[ZK,Lj];exact h4
   cases ex with
   | exit i=>exact absurd rfl (a i)
   | busy=>exact absurd rfl h7
   | _=>simp only[b0,AX,l0];rfl
  ·intro path l as AM next k r h p
   simp only[HR]at h;split at h
   ·rename_i Bj base AP assign body Af pa po t;obtain⟨F,m,h⟩:=AD h;obtain⟨b,hb,h⟩:=AD h;have s:=p l;rw[t]at s;obtain⟨F',f,q,j⟩:=s;rw[m]at q;cases q;have b8:Code.sub F.body (0::po)=some assign:=by simp only[Code.sub,j,AX,Code.Lz]
    have a9:Code.sub F.body (1::po)=some body:=by simp only[Code.sub,j,AX,Code.Lz]
    obtain⟨ex,s1,u,o,e⟩:=I3 hX hcs hls a1 W m assign _ Af _ _ r h b8 p;split at e
    ·rename_i Q J a5 a3 a2 O a8 b4 d;have a0:HE X.E (some (.loop Q J a5 a3 a2 O .busy a8 b4)):=by have:=o l;rw[d]at this;exact this
     obtain⟨M,s2,h4,w,a⟩:=I3 hX hcs hls a1 W m body _ Af _ _ r e a9 (o.set a0);split at a
     ·rename_i a6 U b6 c0 b3 a4 b2 c6 c;cases Z:AcE M with
      | true=>rw[Z]at a;cases a
      | false =>
       rw[Z]at a;simp only[Ac]at a;have y:HE X.E (some (.loop a6 U b6 c0 b3 a4 M b2 c6)):=by have:=w l;rw[c]at this;exact this
       refine⟨_,_,_,Db.succ ((u.and h4).mono fun n hn=>?_),w.set y,a⟩;simp only[B8,Fo,t,As,BH,m,AX,iF,hb];have z:CY X.E (some l) Bj F (fun g as=>(B8 X.E n false g as .leaf 0).bind fun x=>BP x.2.1.get x.1) (B8 X.E n false) (B8 X.E n true) n Af assign ⟨b.BL (AI X.T),AM.BL (BH X.T),next⟩=some (.normal,Bb X.T s1):=hn.1
       rw[z];simp only[AX,Bb,Fo,d,As,BH];have a7:CY X.E (some l) Bj F (fun g as=>(B8 X.E n false g as .leaf 0).bind fun x=>BP x.2.1.get x.1) (B8 X.E n false) (B8 X.E n true) n Af body ⟨s1.base.BL (AI X.T),(s1.AM.BL (BH X.T)).set l (some (.loop Q (J.BL (AI X.T)) a5 a3 a2 O .busy)),s1.next⟩=some (M,Bb X.T s2):=by
        have:=hn.2;simp only[Bb,Gm]at this;exact this
       rw[a7];simp only[AX,Bb,Fo,c,As,BH,Gm];cases M<;>first|(cases Z;done)|rfl
     ·cases a
    ·cases e
   ·cases h
theorem Aor {n g:Nat} {as:List (AJ S)} {k:AJ S->Option R} {r:R} (h:HR X cs ls n false [] g as .leaf 0 (fun v o _=>(D8 o.get v).bind k)=some r) :
  ∃d,Db (fun n=>EQ X.E n g (Av X.T as)=some (AI X.T d))/\k d=some r:=by
 obtain⟨v,o,nx,e,_,b⟩:=(Rv hX hcs hls n).1 _ _ _ _ _ _ _ h (fun i=>by trivial)
 obtain⟨d,f,c⟩:=AD b;refine⟨d,e.mono fun n hn=>?_,c⟩;unfold EQ;have a:B8 X.E n false g (Av X.T as) .leaf 0=some (AI X.T v,o.BL (BH X.T),nx):=hn;rw[a];simp only[AX,Lj,PI hX.t,f,As]
end
end Go.Ab
namespace Go.Ab
variable {S:Nat->Type}
inductive LT where
 | int|bool|str|nat
 | AT (t:Az)
 | arr (t:Az)
 | st (i:Nat)
 | mp (k e:Az)
 | DI
 deriving DecidableEq
def P3 (S:Nat->Type):LT->Type
 | .int=>Int
 | .bool=>Bool
 | .str=>ByteArray
 | .nat=>Nat
 | .AT t=>List (B1 S t)
 | .arr t=>Nat->B1 S t
 | .st i=>S i
 | .mp k e=>List (B1 S k×B1 S e)
 | .DI=>Nat->Nat
structure DS (S:Nat->Type) where
 t:LT
 v:P3 S t
def Dl (S:Nat->Type):List LT->Type
 | []=>Unit
 | [t]=>P3 S t
 | t::t'::ts=>P3 S t×Dl S (t'::ts)
def EU (S:Nat->Type):List (List LT)->Type
 | []=>Empty
 | [a]=>Dl S a
 | a::b::r=>Dl S a⊕EU S (b::r)
def Ih:(ts:List LT)->Dl S ts->List (DS S)
 | [],_=>[]
 | [t],x=>[⟨t,x⟩]
 | t::t'::ts,x=>⟨t,x.1⟩::Ih (t'::ts) x.2
def SI (t:LT) (l:DS S):Option (P3 S t):=if h:l.t=t then some (h▸l.v)else none
def oO {α:Type} (x:α) (l:List (DS S)):Option α:=match l with
 | []=>some x
 | _=>none
def LD:(ts:List LT)->List (DS S)->Option (Dl S ts)
 | [],l=>oO () l
 | [t],l=>match l with
  | []=>none
  | x::r=>(SI t x).bind fun y=>oO y r
 | t::t'::ts,l=>match l with
  | []=>none
  | x::r=>(SI t x).bind fun y=>(LD (t'::ts) r).bind fun z=>some (y,z)
theorem Ad0 {t:LT} {l:DS S} {x:P3 S t} (h:SI t l=some x):l=⟨t,x⟩:=by
 unfold SI at h;split at h
 ·rename_i e;obtain⟨t',v⟩:=l;simp only at e;subst e;cases h;rfl
 ·cases h
theorem AcP {α:Type} {x y:α} {l:List (DS S)} (h:oO x l=some y):l=[]/\x=y:=by
 cases l with
 | nil=>cases h;exact⟨rfl,rfl⟩
 | cons=>cases h
theorem Ry:∀{ts:List LT} {l:List (DS S)} {x:Dl S ts},LD ts l=some x->Ih ts x=l
 | [],l,x,h=>by
  simp only[LD]at h;rw[(AcP h).1];rfl
 | [t],l,x,h=>by
  simp only[LD]at h;cases l with
  | nil=>cases h
  | cons y r =>
   obtain⟨z,d,h⟩:=AD h;obtain⟨c,e⟩:=AcP h;subst c e;rw[Ad0 d];rfl
 | t::t'::ts,l,x,h=>by
  simp only[LD]at h;cases l with
  | nil=>cases h
  | cons y r =>
   obtain⟨a,d,h⟩:=AD h;obtain⟨b,c,h⟩:=AD h;cases h;simp only[Ih];rw[Ad0 d,Ry c]
def KK:List Nat->List Nat->Bool
 | [],[]=>true
 | a::as,b::bs=>Nat.beq a b&&KK as bs
 | _,_=>false
theorem N0:∀{a b:List Nat},KK a b=true->a=b
 | [],[],_=>rfl
 | [],_::_,h=>by simp[KK]at h
 | _::_,[],h=>by simp[KK]at h
 | a::as,b::bs,h=>by
  simp only[KK,Ar]at h;rw[Al h.1,N0 h.2]
mutual
def Ex:AJ S->List (DS S)
 | .bool b=>[⟨.bool,b⟩]
 | .int _ n=>[⟨.int,n⟩]
 | .str s=>[⟨.str,s⟩]
 | .AL _ _ i _ _=>[⟨.nat,i⟩]
 | .CO _ _ i _ _=>[⟨.nat,i⟩]
 | .AR t xs=>[⟨.AT t,xs⟩]
 | .arr t _ a=>[⟨.arr t,a⟩]
 | .BR i x=>[⟨.st i,x⟩]
 | .E4 _ _ _ a=>[⟨.DI,a⟩]
 | .CN cs=>Ls cs
 | .agg cs=>Ls cs
 | .Ap vs=>Ls vs
 | .fn _ a c=>Ls a++Ls c
 | .iface _ v=>Ex v
 | _=>[]
def Ls:List (AJ S)->List (DS S)
 | []=>[]
 | c::cs=>Ex c++Ls cs
end
def oC:Fn->Fn->Bool
 | .func a,.func b=>Nat.beq a b
 | _,_=>false
theorem Ao4 {a b:Fn} (h:oC a b=true):a=b:=by
 unfold oC at h;split at h
 ·rw[Al h]
 ·cases h
mutual
def Ey:AJ S->AJ S->Bool
 | .bool _,.bool _=>true
 | .int k _,.int k' _=>decide (k=k')
 | .str _,.str _=>true
 | .Bu,.Bu=>true
 | .ptr i o,.ptr d o'=>Nat.beq i d&&Nat.beq o o'
 | .AL i b _ e o,.AL d C _ e' o'=>Nat.beq i d&&Nat.beq b C&&Nat.beq e e'&&Nat.beq o o'
 | .CO i v _ e o,.CO d q _ e' o'=>Nat.beq i d&&Nat.beq v q&&Nat.beq e e'&&Nat.beq o o'
 | .CN cs,.CN j=>LB cs j
 | .Aq,.Aq=>true
 | .FX,.FX=>true
 | .AR t _,.AR t' _=>decide (t=t')
 | .rs i v,.rs d q=>Nat.beq i d&&Nat.beq v q
 | .arr t n _,.arr t' u _=>decide (t=t')&&Nat.beq n u
 | .BR i _,.BR d _=>Nat.beq i d
 | .E4 ts p n _,.E4 l z u _=>KK ts l&&Nat.beq p z&&Nat.beq n u
 | .Fy ts n,.Fy l u=>KK ts l&&Nat.beq n u
 | .agg cs,.agg j=>LB cs j
 | .Ap cs,.Ap j=>LB cs j
 | .fn f a c,.fn I J c'=>oC f I&&LB a J&&LB c c'
 | .A2,.A2=>true
 | .map i,.map d=>Nat.beq i d
 | .Cv,.Cv=>true
 | .iface t v,.iface t' q=>Nat.beq t t'&&Ey v q
 | .Bl,.Bl=>true
 | .iter i,.iter d=>Nat.beq i d
 | .B2 i,.B2 d=>Nat.beq i d
 | _,_=>false
def LB:List (AJ S)->List (AJ S)->Bool
 | [],[]=>true
 | c::cs,c'::d=>Ey c c'&&LB cs d
 | _,_=>false
end
def GN (t:LT) (l:List (DS S)):Option (P3 S t×List (DS S)):=match l with
 | []=>none
 | x::r=>(SI t x).bind fun v=>some (v,r)
mutual
def Ev:AJ S->List (DS S)->Option (AJ S×List (DS S))
 | .bool _,l=>(GN .bool l).bind fun p=>some (.bool p.1,p.2)
 | .int k _,l=>(GN .int l).bind fun p=>some (.int k p.1,p.2)
 | .str _,l=>(GN .str l).bind fun p=>some (.str p.1,p.2)
 | .AL i b _ e o,l=>(GN .nat l).bind fun p=>some (.AL i b p.1 e o,p.2)
 | .CO i v _ e o,l=>(GN .nat l).bind fun p=>some (.CO i v p.1 e o,p.2)
 | .AR t _,l=>(GN (.AT t) l).bind fun p=>some (.AR t p.1,p.2)
 | .arr t n _,l=>(GN (.arr t) l).bind fun p=>some (.arr t n p.1,p.2)
 | .BR i _,l=>(GN (.st i) l).bind fun p=>some (.BR i p.1,p.2)
 | .E4 ts q n _,l=>(GN .DI l).bind fun p=>some (.E4 ts q n p.1,p.2)
 | .CN cs,l=>(Lr cs l).bind fun p=>some (.CN p.1,p.2)
 | .agg cs,l=>(Lr cs l).bind fun p=>some (.agg p.1,p.2)
 | .Ap cs,l=>(Lr cs l).bind fun p=>some (.Ap p.1,p.2)
 | .fn f a c,l=>(Lr a l).bind fun p=>(Lr c p.2).bind fun q=>some (.fn f p.1 q.1,q.2)
 | .iface t v,l=>(Ev v l).bind fun p=>some (.iface t p.1,p.2)
 | v,l=>some (v,l)
def Lr:List (AJ S)->List (DS S)->Option (List (AJ S)×List (DS S))
 | [],l=>some ([],l)
 | c::cs,l=>(Ev c l).bind fun p=>(Lr cs p.2).bind fun q=>some (p.1::q.1,q.2)
end
theorem MY (t:LT) (x:P3 S t) (r:List (DS S)):GN t (⟨t,x⟩::r)=some (x,r):=by
 simp[GN,SI]
theorem Ov (b:Bool) (r:List (DS S)):GN .bool (⟨.bool,b⟩::r)=some (b,r):=MY .bool b r
theorem PE (b:Int) (r:List (DS S)):GN .int (⟨.int,b⟩::r)=some (b,r):=MY .int b r
theorem L5 (b:ByteArray) (r:List (DS S)):GN .str (⟨.str,b⟩::r)=some (b,r):=MY .str b r
theorem L4 (b:Nat) (r:List (DS S)):GN .nat (⟨.nat,b⟩::r)=some (b,r):=MY .nat b r
theorem L3 (t:Az) (b:List (B1 S t)) (r:List (DS S)):GN (.AT t) (⟨.AT t,b⟩::r)=some (b,r):=MY (.AT t) b r
theorem PD (t:Az) (b:Nat->B1 S t) (r:List (DS S)):GN (.arr t) (⟨.arr t,b⟩::r)=some (b,r):=MY (.arr t) b r
theorem AoB (i:Nat) (b:S i) (r:List (DS S)):GN (.st i) (⟨.st i,b⟩::r)=some (b,r):=MY (.st i) b r
theorem AoA (b:Nat->Nat) (r:List (DS S)):GN .DI (⟨.DI,b⟩::r)=some (b,r):=MY .DI b r
theorem m0 (k e:Az) (b:List (B1 S k×B1 S e)) (r:List (DS S)):GN (.mp k e) (⟨.mp k e,b⟩::r)=some (b,r):=MY (.mp k e) b r
mutual
theorem Yz:∀{p v:AJ S} (r:List (DS S)),Ey p v=true->Ev p (Ex v++r)=some (v,r)
 | .bool _,v,r,h=>by cases v<;>simp only[Ey,CI]at h;(simp[Ex,Ev,Ov,PE,L5,L4,L3,PD];first|done|rfl)
 | .int k _,v,r,h=>by cases v<;>simp only[Ey,CI,Ew]at h;subst h;(simp[Ex,Ev,Ov,PE,L5,L4,L3,PD];first|done|rfl)
 | .str _,v,r,h=>by cases v<;>simp only[Ey,CI]at h;(simp[Ex,Ev,Ov,PE,L5,L4,L3,PD];first|done|rfl)
 | .Bu,v,r,h=>by cases v<;>simp only[Ey,CI]at h;simp[Ex,Ev]
 | .ptr i o,v,r,h=>by
  cases v<;>simp only[Ey,CI,Ar]at h;rw[Al h.1,Al h.2];simp[Ex,Ev]
 | .AL i b _ e o,v,r,h=>by
  cases v<;>simp only[Ey,CI,Ar]at h;rw[Al h.1.1.1,Al h.1.1.2,Al h.1.2,Al h.2];(simp[Ex,Ev,Ov,PE,L5,L4,L3,PD];first|done|rfl)
 | .CO i w _ e o,v,r,h=>by
  cases v<;>simp only[Ey,CI,Ar]at h;rw[Al h.1.1.1,Al h.1.1.2,Al h.1.2,Al h.2];(simp[Ex,Ev,Ov,PE,L5,L4,L3,PD];first|done|rfl)
 | .CN cs,v,r,h=>by
  cases v<;>simp only[Ey,CI]at h;simp only[Ex,Ev,PH r h,AX]
 | .Aq,v,r,h=>by cases v<;>simp only[Ey,CI]at h;simp[Ex,Ev]
 | .FX,v,r,h=>by cases v<;>simp only[Ey,CI]at h;simp[Ex,Ev]
 | .AR t _,v,r,h=>by cases v<;>simp only[Ey,CI,Ew]at h;subst h;(simp[Ex,Ev,Ov,PE,L5,L4,L3,PD];first|done|rfl)
 | .rs i w,v,r,h=>by
  cases v<;>simp only[Ey,CI,Ar]at h;rw[Al h.1,Al h.2];simp[Ex,Ev]
 | .arr t n _,v,r,h=>by
  cases v<;>simp only[Ey,CI,Ar,Ew]at h;obtain⟨d,g⟩:=h;subst d;rw[Al g];(simp[Ex,Ev,Ov,PE,L5,L4,L3,PD];first|done|rfl)
 | .BR i _,v,r,h=>by
  cases v<;>simp only[Ey,CI]at h;have:=Al h;subst this;simp only[Ex,Ev,List.cons_append,List.nil_append,AoB];rfl
 | .E4 ts p n _,v,r,h=>by
  cases v<;>simp only[Ey,CI,Ar]at h;rw[N0 h.1.1,Al h.1.2,Al h.2];simp only[Ex,Ev,List.cons_append,List.nil_append,AoA];rfl
 | .Fy ts n,v,r,h=>by
  cases v<;>simp only[Ey,CI,Ar]at h;rw[N0 h.1,Al h.2];simp[Ex,Ev]
 | .agg cs,v,r,h=>by
  cases v<;>simp only[Ey,CI]at h;simp only[Ex,Ev,PH r h,AX]
 | .Ap cs,v,r,h=>by
  cases v<;>simp only[Ey,CI]at h;simp only[Ex,Ev,PH r h,AX]
 | .fn f a c,v,r,h=>by
  cases v<;>simp only[Ey,CI,Ar]at h;obtain⟨⟨d,g⟩,j⟩:=h;simp only[Ex,Ev,FV,PH _ g,AX,PH r j,Ao4 d]
 | .A2,v,r,h=>by cases v<;>simp only[Ey,CI]at h;simp[Ex,Ev]
 | .map i,v,r,h=>by
  cases v<;>simp only[Ey,CI]at h;rw[Al h];simp[Ex,Ev]
 | .Cv,v,r,h=>by cases v<;>simp only[Ey,CI]at h;simp[Ex,Ev]
 | .iface t w,v,r,h=>by
  cases v<;>simp only[Ey,CI,Ar]at h;simp only[Ex,Ev,Yz r h.2,AX,Al h.1]
 | .Bl,v,r,h=>by cases v<;>simp only[Ey,CI]at h;simp[Ex,Ev]
 | .iter i,v,r,h=>by
  cases v<;>simp only[Ey,CI]at h;rw[Al h];simp[Ex,Ev]
 | .B2 i,v,r,h=>by
  cases v<;>simp only[Ey,CI]at h;rw[Al h];simp[Ex,Ev]
theorem PH:∀{p v:List (AJ S)} (r:List (DS S)),LB p v=true->Lr p (Ls v++r)=some (v,r)
 | [],[],r,_=>by simp[Ls,Lr]
 | [],_::_,_,h=>by simp[LB]at h
 | _::_,[],_,h=>by simp[LB]at h
 | p::AP,v::vs,r,h=>by
  simp only[LB,Ar]at h;simp only[Ls,Lr,FV,Yz _ h.1,AX,PH r h.2]
end
def Mm {α:Type} (f:α->List (DS S)):Tr α->List (DS S)
 | .leaf=>[]
 | .node l v r=>Mm f l++((match v with|some x=>f x|none=>[])++Mm f r)
def Jo {α:Type} (f:α->α->Bool):Tr α->Tr α->Bool
 | .leaf,.leaf=>true
 | .node l v r,.node i d r'=>Jo f l i&&(match v,d with|some x,some e=>f x e|none,none=>true|_,_=>false)&&Jo f r r'
 | _,_=>false
def Ml {α:Type} (f:α->List (DS S)->Option (α×List (DS S))):Tr α->List (DS S)->Option (Tr α×List (DS S))
 | .leaf,l=>some (.leaf,l)
 | .node a v b,l=>(Ml f a l).bind fun p=>((match v with|some x=>(f x p.2).bind fun q=>some (some q.1,q.2)|none=>some (none,p.2)):Option (Option α×List (DS S))).bind fun q=>(Ml f b q.2).bind fun r=>some (.node p.1 q.1 r.1,r.2)
theorem U7 {α:Type} {j:α->List (DS S)} {l:α->α->Bool} {i:α->List (DS S)->Option (α×List (DS S))} (hf:∀p v r,l p v=true->i p (j v++r)=some (v,r)) :
  ∀{p v:Tr α} (r:List (DS S)),Jo l p v=true->Ml i p (Mm j v++r)=some (v,r)
 | .leaf,.leaf,r,_=>rfl
 | .leaf,.node ..,_,h=>by simp[Jo]at h
 | .node ..,.leaf,_,h=>by simp[Jo]at h
 | .node a x b,.node z q u,r,h=>by
  simp only[Jo,Ar]at h;obtain⟨⟨e,c⟩,d⟩:=h;simp only[Mm,Ml,FV,U7 hf _ e,AX];cases x<;>cases q<;>simp only[CI]at c
  ·simp only[List.nil_append,AX,U7 hf r d]
  ·simp only[hf _ _ _ c,AX,U7 hf r d]
def Rz:Ce->Ce->Bool
 | .normal,.normal=>true
 | .exit i,.exit j=>Nat.beq i j
 | .ret,.ret=>true
 | .busy,.busy=>true
 | _,_=>false
theorem mE {a b:Ce} (h:Rz a b=true):a=b:=by
 cases a<;>cases b<;>simp only[Rz,CI]at h<;>first|rfl|rw[Al h]
def Pg:A3 S->List (DS S)
 | .cells _ cs=>Ls cs
 | .row _ t xs _ _=>[⟨.AT t,xs⟩]
 | .map k e m=>[⟨.mp k e,m⟩]
 | .Ez s p=>[⟨.str,s⟩,⟨.nat,p⟩]
 | .Dg _ _ | .Ea _ _ _ _=>[]
 | .loop _ b _ _ _ _ _ _ _=>Mm Ex b
def rI:A3 S->A3 S->Bool
 | .cells t cs,.cells t' i=>Nat.beq t t'&&LB cs i
 | .row e t _ p v,.row e' t' _ z K=>Nat.beq e e'&&decide (t=t')&&Nat.beq v K&&Nat.beq p z
 | .map k e _,.map k' e' _=>decide (k=k')&&decide (e=e')
 | .Ez _ _,.Ez _ _=>true
 | .loop f b AP _ _ Af ex pa I,.loop C J j _ _ d q l u=>Nat.beq f C&&Jo Ey b J&&KK AP j&&Nat.beq Af d&&Rz ex q&&KK pa l&&KK I u
 | _,_=>false
def Ad5 (E:Env) (f:Nat) (d:List Nat):Option (Code×Code):=(E.fn f).bind fun F=>match Code.sub F.body d with
 | some (.rangeFunc _ _ a b)=>some (a,b)
 | _=>none
def Pf (E:Env):A3 S->List (DS S)->Option (A3 S×List (DS S))
 | .cells t cs,l=>(Lr cs l).bind fun p=>some (.cells t p.1,p.2)
 | .row e t _ n v,l=>(GN (.AT t) l).bind fun p=>some (.row e t p.1 n v,p.2)
 | .map k e _,l=>(GN (.mp k e) l).bind fun p=>some (.map k e p.1,p.2)
 | .Ez _ _,l=>(GN .str l).bind fun p=>(GN .nat p.2).bind fun q=>some (.Ez p.1 q.1,q.2)
 | .Dg _ _,_ | .Ea _ _ _ _,_=>none
 | .loop f b AP _ _ Af ex pa d,l=>(Ml Ev b l).bind fun p=>(Ad5 E f d).bind fun c=>some (.loop f p.1 AP c.1 c.2 Af ex pa d,p.2)
theorem Aoq (E:Env) {p v:A3 S} (c:HE E (some v)) (r:List (DS S)) (h:rI p v=true):Pf E p (Pg v++r)=some (v,r):=by
 cases p<;>cases v<;>simp only[rI,CI,Ar]at h
 ·rw[Al h.1];simp only[Pg,Pf,PH r h.2,AX]
 ·have a:=of_decide_eq_true h.1.1.2;subst a;rw[Al h.1.1.1,Al h.1.2,Al h.2]
  (simp[Pg,Pf,L5,L4,L3,m0];first|done|rfl)
 ·have a:=of_decide_eq_true h.1;have b:=of_decide_eq_true h.2;subst a b
  (simp[Pg,Pf,L5,L4,L3,m0];first|done|rfl)
 ·(simp[Pg,Pf,L5,L4,L3,m0];first|done|rfl)
 ·obtain⟨⟨⟨⟨⟨⟨a,b⟩,j⟩,e⟩,i⟩,d⟩,g⟩:=h;obtain⟨F,f,k,hs⟩:=c;rw[Al a,N0 j,Al e,mE i,N0 d,N0 g];simp only[Pg,Pf,U7 (fun p v r h=>Yz r h) r b,AX,Ad5,k,hs]
def P7 (s:Ay S):List (DS S):=Mm Ex s.base++Mm Pg s.AM
def Mi (p s:Ay S):Bool:=Jo Ey p.base s.base&&Jo rI p.AM s.AM&&Nat.beq p.next s.next
def JL (E:Env) (p:Ay S) (l:List (DS S)):Option (Ay S):=(Ml Ev p.base l).bind fun b=>(Ml (Pf E) p.AM b.2).bind fun o=>match o.2 with
 | []=>some ⟨b.1,o.1,p.next⟩
 | _=>none
def Yu {α:Type} (q:α->Prop):Tr α->Prop
 | .leaf=>True
 | .node l v r=>Yu q l/\(∀x,v=some x->q x)/\Yu q r
theorem lB {α:Type} {q:α->Prop}:∀{t:Tr α},(∀i x,t.get i=some x->q x)->Yu q t
 | .leaf,_=>trivial
 | .node l v r,h=>by
  refine⟨lB fun i x a=>h (2*i+1) x ?_,fun x a=>h 0 x ?_,lB fun i x a=>h (2*i+2) x ?_⟩
  ·rw[Tr.Hj,if_neg (by omega),if_pos (by omega),show(2*i+1) / 2=i by omega];exact a
  ·rw[Tr.Hj,if_pos rfl];exact a
  ·rw[Tr.Hj,if_neg (by omega),if_neg (by omega),show(2*i+2) / 2-1=i by omega];exact a
theorem YK {α:Type} {q:α->Prop} {j:α->List (DS S)} {l:α->α->Bool} {i:α->List (DS S)->Option (α×List (DS S))} (hf:∀p v r,q v->l p v=true->i p (j v++r)=some (v,r)) :
  ∀{p v:Tr α} (r:List (DS S)),Yu q v->Jo l p v=true->Ml i p (Mm j v++r)=some (v,r)
 | .leaf,.leaf,r,_,_=>rfl
 | .leaf,.node ..,_,_,h=>by simp[Jo]at h
 | .node ..,.leaf,_,_,h=>by simp[Jo]at h
 | .node a x b,.node I u C,r,z,h=>by
  simp only[Jo,Ar]at h;obtain⟨⟨e,c⟩,d⟩:=h;obtain⟨BI,BD,B9⟩:=z;simp only[Mm,Ml,FV,YK hf _ BI e,AX];cases x<;>cases u<;>simp only[CI]at c
  ·simp only[List.nil_append,AX,YK hf r B9 d]
  ·simp only[hf _ _ _ (BD _ rfl) c,AX,YK hf r B9 d]
theorem U6 (E:Env) {p s:Ay S} (a:CT E s.AM) (h:Mi p s=true):JL E p (P7 s)=some s:=by
 unfold Mi at h;simp only[Ar]at h;obtain⟨⟨d,c⟩,e⟩:=h;unfold JL P7;rw[U7 (fun p v r h=>Yz r h) _ d];simp only[AX];have:=YK (q:=fun x=>HE E (some x)) (fun p v r b h=>Aoq E b r h) [] (lB fun i x f=>by have:=a i;rw[f]at this;exact this) c
 rw[jp]at this;rw[this];simp only[AX,Al e]
end Go.Ab
namespace Go.Ab
variable {S:Nat->Type} {R:Type}
def Gu (S:Nat->Type):List Az->Type
 | []=>Unit
 | t::ts=>B1 S t×Gu S ts
def G7 (S:Nat->Type):List Az->Type
 | []=>Unit
 | [t]=>B1 S t
 | t::t'::ts=>B1 S t×G7 S (t'::ts)
def Uz (T:BZ S):(ts:List Az)->Gu S ts->List (AJ S)
 | [],_=>[]
 | t::ts,x=>Jp T t x.1::Uz T ts x.2
def Jf (T:BZ S):(ts:List Az)->Gu S ts->List AB
 | [],_=>[]
 | t::ts,x=>Ck T t x.1::Jf T ts x.2
def Ny (T:BZ S):(ts:List Az)->List (AJ S)->Option (Gu S ts)
 | [],l=>dTn' () l
 | t::ts,l=>match l with
  | []=>none
  | v::r=>(Lo T t v).bind fun x=>(Ny T ts r).bind fun y=>some (x,y)
 where
 dTn' {α:Type} (x:α) (l:List (AJ S)):Option α:=match l with
  | []=>some x
  | _=>none
def Rl (T:BZ S):(ts:List Az)->G7 S ts->List (AJ S)
 | [],_=>[]
 | [t],x=>[Jp T t x]
 | t::t'::ts,x=>Jp T t x.1::Rl T (t'::ts) x.2
def Le (T:BZ S):(ts:List Az)->G7 S ts->List AB
 | [],_=>[]
 | [t],x=>[Ck T t x]
 | t::t'::ts,x=>Ck T t x.1::Le T (t'::ts) x.2
def Lw (T:BZ S):(ts:List Az)->List (AJ S)->Option (G7 S ts)
 | [],l=>Ny.dTn' () l
 | [t],l=>match l with
  | []=>none
  | v::r=>(Lo T t v).bind fun x=>Ny.dTn' x r
 | t::t'::ts,l=>match l with
  | []=>none
  | v::r=>(Lo T t v).bind fun x=>(Lw T (t'::ts) r).bind fun y=>some (x,y)
def mQ (n:Nat) (v:AJ S):Option (List (AJ S)):=bif Nat.beq n 1 then some [v]else match v with
 | .Ap vs=>some vs
 | _=>none
section
variable {T:BZ S} (hT:IV T)
include hT
theorem Abi:∀(ts:List Az) (x:Gu S ts),Av T (Uz T ts x)=Jf T ts x
 | [],_=>by simp[Uz,Jf,Av]
 | t::ts,x=>by simp only[Uz,Jf,Av,N4 hT,Abi ts]
theorem AbO:∀(ts:List Az) (x:G7 S ts),Av T (Rl T ts x)=Le T ts x
 | [],_=>by simp[Rl,Le,Av]
 | [t],x=>by simp only[Rl,Le,Av];exact congrArg (fun z=>[z]) (N4 hT t x)
 | t::t'::ts,x=>by simp only[Rl,Le,Av,N4 hT,AbO (t'::ts)]
omit hT in
theorem Uk {α:Type} {x y:α} {l:List (AJ S)} (h:Ny.dTn' x l=some y):l=[]/\x=y:=by
 cases l with
 | nil=>cases h;exact⟨rfl,rfl⟩
 | cons=>cases h
theorem AbZ:∀{ts:List Az} {l:List (AJ S)} {x:Gu S ts},Ny T ts l=some x->Av T l=Jf T ts x
 | [],l,x,h=>by
  simp only[Ny]at h;rw[(Uk h).1];simp[Jf,Av]
 | t::ts,l,x,h=>by
  simp only[Ny]at h;cases l with
  | nil=>cases h
  | cons v r =>
   obtain⟨y,a,h⟩:=AD h;obtain⟨z,b,h⟩:=AD h;cases h;simp only[Av,Jf,Ou hT a,AbZ b]
theorem Acr:∀{ts:List Az} {l:List (AJ S)} {x:G7 S ts},Lw T ts l=some x->Av T l=Le T ts x
 | [],l,x,h=>by
  simp only[Lw]at h;rw[(Uk h).1];simp[Le,Av]
 | [t],l,x,h=>by
  simp only[Lw]at h;cases l with
  | nil=>cases h
  | cons v r =>
   obtain⟨y,b,h⟩:=AD h;obtain⟨a,c⟩:=Uk h;subst a c;simp only[Av,Le,Ou hT b]
 | t::t'::ts,l,x,h=>by
  simp only[Lw]at h;cases l with
  | nil=>cases h
  | cons v r =>
   obtain⟨y,b,h⟩:=AD h;obtain⟨z,a,h⟩:=AD h;cases h;simp only[Av,Le,Ou hT b,Acr a]
end
structure Fx1 (S:Nat->Type) where
 pts:List Az
 rts:List Az
 F:Gu S pts->Option (G7 S rts)
def B6 (X:C1 S) (g:Nat) (fs:Fx1 S):Prop:=∀xs r,fs.F xs=some r->Db fun n=>EQ X.E n g (Jf X.T fs.pts xs)=some (Hz (Le X.T fs.rts r))
def Yn:List (Nat×Fx1 S)->Nat->Option (Fx1 S)
 | [],_=>none
 | (n,f)::l,g=>bif Nat.beq n g then some f else Yn l g
abbrev Ed (S:Nat->Type) (R:Type):=Nat->List (AJ S)->Tr (A3 S)->Nat->(AJ S->Tr (A3 S)->Nat->Option R)->Option R
def GC (X:C1 S) (AP:Ed S R):Prop:=∀g as s n0 k r,AP g as s n0 k=some r->CT X.E s->∃v os d,
  Db (fun n=>(Lv X.E n g (Av X.T as) (s.BL (BH X.T)) n0).bind (Hw n0)=some (AI X.T v,os.BL (BH X.T),d))/\CT X.E os/\k v os d=some r
def Ad8:Ed S R:=fun _ _ _ _ _=>none
theorem Aol (X:C1 S):GC X (Ad8 (R:=R)):=fun _ _ _ _ _ _ h=>by cases h
def Jl (T:BZ S) (tab:List (Nat×Fx1 S)) (AP:Ed S R):Jg S R:=⟨fun g as k=>(Yn tab g).bind fun fs=>(Ny T fs.pts as).bind fun xs=>(fs.F xs).bind fun r=>k (Kz (Rl T fs.rts r)),AP⟩
def Cf (X:C1 S):List (Nat×Fx1 S)->Prop
 | []=>True
 | (n,f)::l=>B6 X n f/\Cf X l
theorem Aa6 {X:C1 S}:∀{l:List (Nat×Fx1 S)} {g:Nat} {f:Fx1 S},Cf X l->Yn l g=some f->B6 X g f
 | [],_,_,_,h=>by cases h
 | (n,d)::l,g,f,ht,h=>by
  simp only[Yn]at h;cases hb:Nat.beq n g with
  | true=>rw[hb]at h;cases h;rw[<-Al hb];exact ht.1
  | false=>rw[hb]at h;exact Aa6 ht.2 h
section
variable {X:C1 S} (hX:Ho X)
include hX
theorem N8 {tab:List (Nat×Fx1 S)} (ht:Cf X tab) {AP:Ed S R} (a:GC X AP):Ui (R:=R) X (Jl X.T tab AP):=⟨fun g as k r h=>by
 simp only[Jl]at h;obtain⟨fs,c,h⟩:=AD h;obtain⟨xs,b,h⟩:=AD h;obtain⟨q,d,h⟩:=AD h;refine⟨_,(Aa6 ht c xs q d).mono fun n hn=>?_,h⟩;rw[AbZ hX.t b,hn,<-AbO hX.t,l0],a⟩
end
def VM (X:C1 S) (tab:List (Nat×Fx1 S)) (pts rts:List Az) (AP:Ed S (G7 S rts)) (ls:Bo S (G7 S rts)) (n g:Nat) (xs:Gu S pts):Option (G7 S rts) :=
 HR X (Jl X.T tab AP) ls n false [] g (Uz X.T pts xs) .leaf 0 fun v o _=>(D8 o.get v).bind fun v=>(mQ rts.length v).bind fun l=>Lw X.T rts l
theorem An3 {T:BZ S} {n:Nat} {v:AJ S} {l:List (AJ S)} (h:mQ n v=some l) (hn:l.length=n):AI T v=Hz (Av T l):=by
 unfold mQ at h;cases hb:Nat.beq n 1 with
 | true=>rw[hb]at h;cases h;simp[Av,Hz]
 | false =>
  rw[hb]at h;simp only[Ac]at h;split at h
  ·cases h;have:¬l.length=1:=fun e=>by rw[<-hn,e]at hb;cases hb
   cases l with
   | nil=>simp[AI,Av,Hz]
   | cons a vs =>
    cases vs with
    | nil=>simp at this
    | cons b vs=>simp[AI,Av,Hz]
  ·cases h
theorem Abu {T:BZ S}:∀{ts:List Az} {l:List (AJ S)} {x:G7 S ts},Lw T ts l=some x->l.length=ts.length
 | [],l,x,h=>by simp only[Lw]at h;rw[(Uk h).1];rfl
 | [t],l,x,h=>by
  simp only[Lw]at h;cases l with
  | nil=>cases h
  | cons v r =>
   obtain⟨y,b,h⟩:=AD h;rw[(Uk h).1];rfl
 | t::t'::ts,l,x,h=>by
  simp only[Lw]at h;cases l with
  | nil=>cases h
  | cons v r =>
   obtain⟨y,b,h⟩:=AD h;obtain⟨z,a,h⟩:=AD h;simp[Abu a]
theorem Z4 {X:C1 S} (hX:Ho X) {tab:List (Nat×Fx1 S)} (ht:Cf X tab) {pts rts:List Az} {AP:Ed S (G7 S rts)} (a:GC X AP) {ls:Bo S (G7 S rts)} (hls:CB X ls) (n g:Nat):B6 X g ⟨pts,rts,VM X tab pts rts AP ls n g⟩:=fun xs r h=>by
 obtain⟨d,i,e⟩:=Aor hX (N8 hX ht a) hls h;obtain⟨l,f,c⟩:=AD e;refine i.mono fun m b=>?_;rw[Abi hX.t]at b;rw[b,An3 f (Abu c),Acr hX.t c]
theorem Z5 {X:C1 S} {g:Nat} {pts rts:List Az} {F d:Gu S pts->Option (G7 S rts)} (h:B6 X g ⟨pts,rts,F⟩) (e:∀xs r,d xs=some r->F xs=some r):B6 X g ⟨pts,rts,d⟩:=fun xs r AH=>h xs r (e xs r AH)
def IA {α β:Type} (t:(α->Option β)->α->Option β):Nat->α->Option β
 | 0,_=>none
 | n+1,x=>t (IA t n) x
open Classical in
noncomputable def Mg {α β:Type} (t:(α->Option β)->α->Option β) (x:α):Option β:=if h:∃n r,IA t n x=some r then some h.choose_spec.choose else none
theorem Aad {α β:Type} {t:(α->Option β)->α->Option β} {x:α} {r:β} (h:Mg t x=some r):∃n,IA t n x=some r:=by
 unfold Mg at h;split at h
 ·rename_i a;cases h;exact⟨_,a.choose_spec.choose_spec⟩
 ·cases h
theorem Aoo {α β:Type} {t:(α->Option β)->α->Option β} {x:α} {y:β} (b:∀n r,IA t n x=some r->r=y) (a:∃n r,IA t n x=some r):Mg t x=some y:=by
 unfold Mg;rw[dif_pos a,b _ _ a.choose_spec.choose_spec]
theorem AoQ {X:C1 S} {g:Nat} {pts rts:List Az} {t:(Gu S pts->Option (G7 S rts))->Gu S pts->Option (G7 S rts)} (h:∀ih,B6 X g ⟨pts,rts,ih⟩->B6 X g ⟨pts,rts,t ih⟩):B6 X g ⟨pts,rts,Mg t⟩:=fun xs r AH=>by
 obtain⟨n,hn⟩:=Aad AH;have:∀n,B6 X g ⟨pts,rts,IA t n⟩:=fun n=>by
  induction n with
  | zero=>intro xs r h;cases h
  | succ n ih=>exact h _ ih
 exact this n xs r hn
def Yx (T:BZ S) (ti:Option By) (c:Az):Bool:=match ti with
 | some ti=>Nat.beq ti.size (Bd T c)&&(ti.isAgg==HX c)
 | none=>true
theorem AmD {T:BZ S} {o:Option By} {ti:By} {c:Az} (h:Yx T o c=true) (a:o=some ti):ti.size=Bd T c/\ti.isAgg=HX c:=by
 subst a;simp only[Yx,Ar]at h;exact⟨Al h.1,eq_of_beq h.2⟩
def rS:AB->AB->Bool
 | .bool a,.bool b=>a==b
 | .int k a,.int k' b=>k==k'&&a==b
 | .str a,.str b=>a.toList==b.toList
 | .Bu,.Bu | .Aq,.Aq | .A2,.A2 | .Cv,.Cv | .Bl,.Bl=>true
 | _,_=>false
def SF:List AB->List AB->Bool
 | [],[]=>true
 | a::as,b::bs=>rS a b&&SF as bs
 | _,_=>false
theorem AoD {a b:AB} (h:rS a b=true):a=b:=by
 unfold rS at h;split at h<;>first|rfl|(cases h;done)|skip
 ·rw[eq_of_beq h]
 ·simp only[Ar]at h;rw[eq_of_beq h.1,eq_of_beq h.2]
 ·have c:=eq_of_beq h;rename_i x y;have e:∀z:ByteArray,z=⟨z.toList.toArray⟩:=fun z=>by
   cases z;simp[ByteArray.toList_eq]
  rw[e x,c,<-e y]
theorem Ach:∀{a b:List AB},SF a b=true->a=b
 | [],[],_=>rfl
 | [],_::_,h=>by simp[SF]at h
 | _::_,[],h=>by simp[SF]at h
 | a::as,b::bs,h=>by
  simp only[SF,Ar]at h;rw[AoD h.1,Ach h.2]
def nP (T:BZ S) (ti:Option By) (z:List (AJ S)):Bool:=match ti with
 | some ti=>SF (AZ T z) ti.zero
 | none=>true
theorem Ann {T:BZ S} {o:Option By} {ti:By} {z:List (AJ S)} (h:nP T o z=true) (a:o=some ti):AZ T z=ti.zero:=by
 subst a;exact Ach h
inductive Ie {σ ω:Type} (step:σ->Option (σ⊕ω)):σ->ω->Prop
 | done {x:σ} {o:ω}:step x=some (.inr o)->Ie step x o
 | next {x y:σ} {o:ω}:step x=some (.inl y)->Ie step y o->Ie step x o
theorem Ie.Apx {σ ω:Type} {step:σ->Option (σ⊕ω)} {x:σ} {o o':ω} (h:Ie step x o):Ie step x o'->o=o':=by
 induction h with
 | done h=>intro h';cases h' with
  | done h'=>rw[h]at h';cases h';rfl
  | next h' _=>rw[h]at h';cases h'
 | next h _ ih=>intro h';cases h' with
  | done h'=>rw[h]at h';cases h'
  | next h' d=>rw[h]at h';cases h';exact ih d
open Classical in
noncomputable def CC {σ ω:Type} (step:σ->Option (σ⊕ω)) (x:σ):Option ω:=if h:∃o,Ie step x o then some h.choose else none
theorem NV {σ ω:Type} {step:σ->Option (σ⊕ω)} {x:σ} {o:ω}:CC step x=some o↔Ie step x o:=by
 unfold CC;constructor
 ·intro h;split at h
  ·rename_i a;cases h;exact a.choose_spec
  ·cases h
 ·intro h;have a:∃o,Ie step x o:=⟨o,h⟩;rw[dif_pos a,a.choose_spec.Apx h]
theorem SG {σ ω:Type} (step:σ->Option (σ⊕ω)) (x:σ):CC step x=(step x).bind fun | .inl y=>CC step y | .inr o=>some o:=by
 cases hs:step x with
 | none =>
  simp only[Option.bind_none];cases AH:CC step x with
  | none=>rfl
  | some o =>
   cases NV.1 AH with
   | done h=>rw[hs]at h;cases h
   | next h _=>rw[hs]at h;cases h
 | some z =>
  cases z with
  | inr o=>simp only[AX];exact NV.2 (.done hs)
  | inl y =>
   simp only[AX];cases AH:CC step y with
   | some o=>exact NV.2 (.next hs (NV.1 AH))
   | none =>
    cases d:CC step x with
    | none=>rfl
    | some o =>
     cases NV.1 d with
     | done h=>rw[hs]at h;cases h
     | next h h' =>
      rw[hs]at h;cases h;rw[NV.2 h']at AH;cases AH
structure Way (S:Nat->Type) where
 ex:Ce
 st:Ay S
 ts:List LT
structure LE (S:Nat->Type) where
 key:Key
 head:Ay S
 ts:List LT
 outs:List (Way S)
def Z3 (a b:Key):Bool:=KK a.path b.path&&Nat.beq a.Bj b.Bj&&(match a.Cb,b.Cb with|none,none=>true|some x,some y=>Nat.beq x y|_,_=>false)&&KK a.pos b.pos&&Nat.beq a.Af b.Af&&Nat.beq a.n0 b.n0
theorem Aoa {a b:Key} (h:Z3 a b=true):a=b:=by
 obtain⟨z,M,l,C,O,u⟩:=a;obtain⟨J,K,j,q,Q,I⟩:=b;simp only[Z3,Ar]at h;obtain⟨⟨⟨⟨⟨g,d⟩,c⟩,f⟩,i⟩,e⟩:=h;rw[N0 g,Al d,N0 f,Al i,Al e];cases l<;>cases j<;>simp only[CI]at c
 ·rfl
 ·rw[Al c]
def Lu (E:Env):(d:List (Way S))->EU S (d.map (·.ts))->(Ce->Ay S->Option R)->Option R
 | [],_,_=>none
 | [w],o,k=>(JL E w.st (Ih w.ts o)).bind fun s=>k w.ex s
 | w::w'::d,o,k=>match o with
  | .inl y=>(JL E w.st (Ih w.ts y)).bind fun s=>k w.ex s
  | .inr o=>Lu E (w'::d) o k
def Nz:(d:List (Way S))->Ce->Ay S->Option (EU S (d.map (·.ts)))
 | [],_,_=>none
 | [w],ex,s=>bif Rz ex w.ex&&Mi w.st s then LD w.ts (P7 s)else none
 | w::w'::d,ex,s=>bif Rz ex w.ex&&Mi w.st s then(LD w.ts (P7 s)).bind fun y=>some (.inl y)else(Nz (w'::d) ex s).bind fun o=>some (.inr o)
def LE.ls (X:C1 S) (e:LE S) (run:Dl S e.ts->(EU S (e.outs.map (·.ts))->Option R)->Option R) (ls:Bo S R):Bo S R:=fun key s k =>
 bif Z3 e.key key then(bif Mi e.head s then(LD e.ts (P7 s)).bind fun x=>run x fun o=>Lu X.E e.outs o k else none)else ls key s k
def nH (X:C1 S) (key:Key) (head:Ay S) (ts:List LT) (tab:List (Nat×Fx1 S)) (AP:Ed S R) (ls:Bo S R) (n:Nat) (x:Dl S ts) (e:GR->Ce->Ay S->Option R):Option R :=
 (JL X.E head (Ih ts x)).bind fun s=>(X.E.fn key.Bj).bind fun F=>(Code.sub F.body key.pos).bind fun c=>(F.hints.find? fun h=>Nat.beq h.Af key.Af).bind fun d =>
  G4 X (Jl X.T tab AP) ls key.Cb key.Bj F (HR X (Jl X.T tab AP) ls n false) (HR X (Jl X.T tab AP) ls n true) key.path key.pos key.Af c s (e d)
def LE.step (X:C1 S) (e:LE S) (tab:List (Nat×Fx1 S)) (AP:Ed S (Dl S e.ts⊕EU S (e.outs.map (·.ts)))) (ls:Bo S (Dl S e.ts⊕EU S (e.outs.map (·.ts)))) (n:Nat) (x:Dl S e.ts):Option (Dl S e.ts⊕EU S (e.outs.map (·.ts))) :=
 nH X e.key e.head e.ts tab AP ls n x fun d ex s=>match ex with
   | .normal=>(ZM X d e.key.n0 s).bind fun s=>bif Mi e.head s then(LD e.ts (P7 s)).bind fun y=>some (.inl y)else none
   | ex=>(Nz e.outs ex s).bind fun o=>some (.inr o)
theorem lY {E:Env} {s:Ay S} {ex:Ce} (b:CT E s.AM):∀{e:List (Way S)} {o:EU S (e.map (·.ts))},Nz e ex s=some o->∀k:Ce->Ay S->Option R,Lu E e o k=k ex s
 | [],_,h,_=>by simp[Nz]at h
 | [w],o,h,k=>by
  simp only[Nz]at h;obtain⟨c,a⟩:=Ad h;simp only[Ar]at c;simp only[Lu];rw[Ry a,U6 E b c.2,mE c.1];rfl
 | w::w'::e,o,h,k=>by
  simp only[Nz]at h;cases hc:Rz ex w.ex&&Mi w.st s with
  | true =>
   rw[hc]at h;obtain⟨y,a,d⟩:=AD h;cases d;simp only[Ar]at hc;simp only[Lu];rw[Ry a,U6 E b hc.2,mE hc.1];rfl
  | false =>
   rw[hc]at h;obtain⟨y,a,d⟩:=AD h;cases d;simp only[Lu];exact lY b a k
section
variable {X:C1 S} (hX:Ho X) {tab:List (Nat×Fx1 S)} (ht:Cf X tab)
include hX ht
theorem Aoe {e:LE S} {K:Ed S (Dl S e.ts⊕EU S (e.outs.map (·.ts)))} (a:GC X K) {J:Bo S (Dl S e.ts⊕EU S (e.outs.map (·.ts)))} (b:CB X J) {n:Nat} {run:Dl S e.ts->(EU S (e.outs.map (·.ts))->Option R)->Option R} (v:∀x k r,run x k=some r->∃o,Ie (e.step X tab K J n) x o/\k o=some r)
  {ls:Bo S R} (hls:CB X ls):CB X (e.ls X run ls):=fun key s k r h i F c g u hc hh=>by
 unfold LE.ls at h;cases U:Z3 e.key key with
 | false=>rw[U]at h;exact hls key s k r h i F c g u hc hh
 | true =>
  rw[U]at h;have p:=Aoa U;subst p;simp only[AY]at h;obtain⟨h1,h⟩:=Ad h;obtain⟨x,h2,h⟩:=AD h;have hs:JL X.E e.head (Ih e.ts x)=some s:=by rw[Ry h2];exact U6 X.E i h1
  obtain⟨o,hR,h⟩:=v x _ r h
  have M:∀(x:Dl S e.ts) (o:EU S (e.outs.map (·.ts))),Ie (e.step X tab K J n) x o->∀s,JL X.E e.head (Ih e.ts x)=some s->CT X.E s.AM →
    ∃ex I,rZ X.E e.key F c g (Bb X.T s) ex (Bb X.T I)/\CT X.E I.AM/\(∀(Z:Type) (k':Ce->Ay S->Option Z),Lu X.E e.outs o k'=k' ex I):=by
   intro x o AH
   induction AH with
   | @done x o C =>
    intro s hs i;unfold LE.step nH at C;rw[hs,AX,u,AX,hc,AX,hh,AX]at C;have w:=Rv hX (N8 hX ht a) b n;obtain⟨ex,I,⟨N,q⟩,l,f⟩:=I3 hX (N8 hX ht a) b w.1 w.2 u c _ _ s _ _ C hc i;cases ex with
    | normal =>
     simp only at f;obtain⟨_,_,d⟩:=AD f;obtain⟨_,d⟩:=Ad d;obtain⟨_,_,d⟩:=AD d;cases d
    | _ =>
     simp only at f;obtain⟨o',d,j⟩:=AD f;cases j;refine⟨_,I,⟨N,fun m O W _=>?_⟩,l,fun Z k'=>lY l d k'⟩;unfold nJ;rw[q m W];rfl
   | @next x y o C _ ih =>
    intro s hs i;unfold LE.step nH at C;rw[hs,AX,u,AX,hc,AX,hh,AX]at C;have w:=Rv hX (N8 hX ht a) b n;obtain⟨ex,I,⟨N,q⟩,l,f⟩:=I3 hX (N8 hX ht a) b w.1 w.2 u c _ _ s _ _ C hc i;cases ex with
    | normal =>
     simp only at f;obtain⟨s2,d,j⟩:=AD f;obtain⟨h9,j⟩:=Ad j;obtain⟨y',a1,j⟩:=AD j;cases j;obtain⟨a3,t⟩:=Abp hX d l;have a4:JL X.E e.head (Ih e.ts y)=some s2:=by rw[Ry a1];exact U6 X.E t h9
     obtain⟨Q,s3,⟨N3,z⟩,a0,a2⟩:=ih s2 a4 t;refine⟨Q,s3,⟨max N N3+1,fun m O W a5=>?_⟩,a0,a2⟩;unfold nJ;rw[q m (by omega)]
     simp only[AX];cases O with
     | zero=>omega
     | succ O =>
      simp only[iter];rw[a3];simp only[AX];exact z m O (by omega) (by omega)
    | _ =>
     simp only at f;obtain⟨_,_,d⟩:=AD f;cases d
  obtain⟨ex,I,q,l,f⟩:=M x o hR s hs i;refine⟨ex,I,q,l,?_⟩;rw[f]at h;exact h
end
def Jh:Nat->List (AJ S)->Tr (AJ S)->Tr (AJ S)
 | _,[],b=>b
 | i,v::vs,b=>Jh (i+1) vs (b.set i (some v))
def Mo (b:Tr (AJ S)):Nat->Nat->Option (List (AJ S))
 | _,0=>some []
 | i,n+1=>(b.get i).bind fun v=>(Mo b (i+1) n).bind fun vs=>some (v::vs)
theorem Xq:∀(vs:List (AJ S)) (i:Nat) (b:Tr (AJ S)) (j:Nat),(Jh i vs b).get j=if i<=j/\j<i+vs.length then vs[j-i]? else b.get j
 | [],i,b,j=>by
  have:¬(i<=j/\j<i+([]:List (AJ S)).length):=by simp
  rw[if_neg this];rfl
 | v::vs,i,b,j=>by
  simp only[Jh];rw[Xq vs (i+1) _ j,Tr.Cj]
  by_cases e:j=i
  ·subst e;rw[if_neg (by omega),if_pos rfl,if_pos ⟨Nat.le_refl _,by simp⟩,Nat.sub_self];rfl
  ·rw[if_neg e]
   by_cases h:i+1<=j/\j<i+1+vs.length
   ·rw[if_pos h,if_pos ⟨by omega,by simp only[List.length_cons];omega⟩,show j-i=(j-(i+1))+1 by omega];simp
   ·rw[if_neg h,if_neg];simp only[List.length_cons];omega
theorem Ac1 {b:Tr (AJ S)}:∀(vs:List (AJ S)) (i:Nat),(∀j,j<vs.length->b.get (i+j)=vs[j]?)->Mo b i vs.length=some vs
 | [],_,_=>rfl
 | v::vs,i,h=>by
  simp only[List.length_cons,Mo];have a:=h 0 (by simp)
  simp only[Nat.add_zero,List.getElem?_cons_zero]at a;rw[a,AX,Ac1 vs (i+1) fun j c=>by
   have:=h (j+1) (by simp;omega)
   rw[show i+1+j=i+(j+1) by omega,this];simp]
  rfl
theorem Alx (vs:List (AJ S)):Mo (Jh 0 vs .leaf) 0 vs.length=some vs:=Ac1 vs 0 fun j a=>by
 rw[Xq,if_pos ⟨by omega,by omega⟩];simp
structure Dc (S:Nat->Type) where
 g:Nat
 Du:Nat
 head:Ay S
 ts:List LT
 outs:List (Way S)
def Dc.AP (X:C1 S) (e:Dc S) (run:Dl S e.ts->(EU S (e.outs.map (·.ts))->Option R)->Option R) (AP:Ed S R):Ed S R:=fun g as s n0 k =>
 bif Nat.beq e.g g&&(Nat.beq e.Du as.length&&Mi e.head ⟨Jh 0 as .leaf,s,n0⟩)then
  (LD e.ts (P7 ⟨Jh 0 as .leaf,s,n0⟩)).bind fun x=>run x fun o=>Lu X.E e.outs o fun _ st=>(st.base.get 0).bind fun v=>k v st.AM st.next
 else AP g as s n0 k
def Dc.body (X:C1 S) (e:Dc S) (tab:List (Nat×Fx1 S)) (AP:Ed S R) (ls:Bo S R) (n:Nat) (x:Dl S e.ts) (k:Ay S->Option R):Option R :=
 (JL X.E e.head (Ih e.ts x)).bind fun s=>(Mo s.base 0 e.Du).bind fun as=>(X.E.fn e.g).bind fun F=>bif Nat.ble as.length F.AU then
  G4 X (Jl X.T tab AP) ls none e.g F (HR X (Jl X.T tab AP) ls n false) (HR X (Jl X.T tab AP) ls n true) [e.g] [] 0 F.body ⟨Kk F.E6 0 as .leaf,s.AM,s.next⟩ fun ex d=>match ex with
   | .exit _ | .busy=>none
   | _=>P9 X d.base.get d.AM.get F.JQ fun vs=>Yy s.next (Kz vs) d.AM fun v o n=>k ⟨Jh 0 [v] .leaf,o,n⟩
 else none
def Dc.step (X:C1 S) (e:Dc S) (tab:List (Nat×Fx1 S)) (AP:Ed S (EU S (e.outs.map (·.ts)))) (ls:Bo S (EU S (e.outs.map (·.ts)))) (n:Nat) (x:Dl S e.ts):Option (EU S (e.outs.map (·.ts))) :=
 e.body X tab AP ls n x fun st=>Nz e.outs .ret st
def Fe (X:C1 S) (e:Dc S) (F:Dl S e.ts->Option (EU S (e.outs.map (·.ts)))):Prop:=∀x o,F x=some o->∀s as,JL X.E e.head (Ih e.ts x)=some s->Mo s.base 0 e.Du=some as->CT X.E s.AM →
 ∃v os d,(∀(i:Type) (k':Ce->Ay S->Option i),Lu X.E e.outs o k'=k' .ret ⟨Jh 0 [v] .leaf,os,d⟩)/\CT X.E os ∧
  Db fun n=>(Lv X.E n e.g (Av X.T as) (s.AM.BL (BH X.T)) s.next).bind (Hw s.next)=some (AI X.T v,os.BL (BH X.T),d)
section
variable {X:C1 S} (hX:Ho X)
include hX
omit hX in
theorem JM {e:Dc S} {F:Dl S e.ts->Option (EU S (e.outs.map (·.ts)))} (p:Fe X e F) {AP:Ed S R} (c:GC X AP):GC X (e.AP X (fun x k=>(F x).bind k) AP):=fun g as s n0 k r h a=>by
 unfold Dc.AP at h;cases hb:Nat.beq e.g g&&(Nat.beq e.Du as.length&&Mi e.head ⟨Jh 0 as .leaf,s,n0⟩)with
 | false=>rw[hb]at h;exact c g as s n0 k r h a
 | true =>
  rw[hb]at h;simp only[AY]at h;simp only[Ar]at hb;obtain⟨b,f,d⟩:=hb;have b:=Al b;have f:=Al f;subst b;obtain⟨x,i,h⟩:=AD h;obtain⟨o,j,h⟩:=AD h;have hs:JL X.E e.head (Ih e.ts x)=some ⟨Jh 0 as .leaf,s,n0⟩:=by rw[Ry i];exact U6 X.E a d
  obtain⟨v,os,q,m,n,l⟩:=p x o j _ as hs (by rw[f];exact Alx as) a
  rw[m]at h;have hv:(Jh 0 [v] .leaf:Tr (AJ S)).get 0=some v:=by rw[Xq];rfl
  rw[hv,AX]at h;exact⟨v,os,q,l,n,h⟩
theorem oI {tab:List (Nat×Fx1 S)} (ht:Cf X tab) {e:Dc S} {AP:Ed S (EU S (e.outs.map (·.ts)))} (c:GC X AP) {ls:Bo S (EU S (e.outs.map (·.ts)))} (hls:CB X ls) (n:Nat):Fe X e (e.step X tab AP ls n):=fun x o h s as hs I O=>by
 unfold Dc.step Dc.body at h;rw[hs,AX,I,AX]at h;obtain⟨F,r,h⟩:=AD h;obtain⟨hl,h⟩:=Ad h;have w:=Rv hX (N8 hX ht c) hls n;obtain⟨ex,C,U,z,u⟩:=I3 hX (N8 hX ht c) hls w.1 w.2 r F.body [] 0 _ _ o h rfl O;have q:(∃vs,G6 X.E (F5 X.T C.base.get) (CS X.T C.AM.get) F.JQ=some (Av X.T vs)/\Yy s.next (Kz vs) C.AM (fun v o n=>Nz e.outs .ret ⟨Jh 0 [v] .leaf,o,n⟩)=some o)/\(∀i,ex≠.exit i)/\ex≠.busy:=by
  cases ex<;>simp only[reduceCtorEq]at u<;>exact⟨Y3 hX u,by simp,by simp⟩
 obtain⟨⟨vs,K,l⟩,h6,W⟩:=q;obtain⟨M,o',n',Q,Z,l⟩:=An5 hX.t (n:=C.next) l;have a:CT X.E o':=fun i=>by
  cases AA:o'.get i with
  | none=>trivial
  | some y =>
   obtain⟨j,x,k,rfl⟩:=Z i y AA;have:=z j;rw[k]at this;exact m8 this
 refine⟨M,o',n',fun R' k'=>lY (s:=⟨_,_,_⟩) a l k',a,U.mono fun m J=>?_⟩;have b:Lv X.E m e.g (Av X.T as) (s.AM.BL (BH X.T)) s.next=some (AI X.T (Kz vs),C.AM.BL (BH X.T),C.next):=by
  unfold Lv JI;rw[r];have p:Nat.ble (Av X.T as).length F.AU=true:=by rw[RZ,List.length_map];exact hl
  simp only[AX,p,AY];have AS:(⟨Kl F.E6 0 (Av X.T as) .leaf,s.AM.BL (BH X.T),s.next⟩:BV)=Bb X.T ⟨Kk F.E6 0 as .leaf,s.AM,s.next⟩:=by
   simp only[Bb];rw[<-Xn];rfl
  rw[AS];have d:CY X.E none e.g F (fun g as=>(B8 X.E m false g as .leaf 0).bind fun x=>BP x.2.1.get x.1) (B8 X.E m false) (B8 X.E m true) m 0 F.body (Bb X.T ⟨Kk F.E6 0 as .leaf,s.AM,s.next⟩)=some (ex,Bb X.T C):=J;rw[d];simp only[AX];have f:G6 X.E (Bb X.T C).base.get (Bb X.T C).AM.get F.JQ=some (Av X.T vs):=by
   show G6 X.E (C.base.BL (AI X.T)).get (C.AM.BL (BH X.T)).get F.JQ=_;rw[ZK,Lj];exact K
  cases ex with
  | exit i=>exact absurd rfl (h6 i)
  | busy=>exact absurd rfl W
  | _=>simp only[f,AX,l0];rfl
 rw[b];exact Q
end
theorem oB {X:C1 S} {e:Dc S} {F d:Dl S e.ts->Option (EU S (e.outs.map (·.ts)))} (h:Fe X e F) (q:∀x o,d x=some o->F x=some o):Fe X e d:=fun x o a=>h x o (q x o a)
theorem Aon {X:C1 S} {e:Dc S} {t:(Dl S e.ts->Option (EU S (e.outs.map (·.ts))))->Dl S e.ts->Option (EU S (e.outs.map (·.ts)))} (h:∀ih,Fe X e ih->Fe X e (t ih)):Fe X e (Mg t):=fun x o AH=>by
 obtain⟨n,hn⟩:=Aad AH;have:∀n,Fe X e (IA t n):=fun n=>by
  induction n with
  | zero=>intro x o h;cases h
  | succ n ih=>exact h _ ih
 exact this n x o hn
theorem Cq {α β:Type} (f:α->β) (c:Bool) (x y:Option α):Option.map f (bif c then x else y)=bif c then Option.map f x else Option.map f y:=by cases c<;>rfl
theorem Cp {α β γ:Type} (f:β->γ) (x:Option α) (g:α->Option β):Option.map f (x.bind g)=x.bind fun a=>Option.map f (g a):=by cases x<;>rfl
theorem Cr {α β γ δ:Type} (f:γ->δ) (l:α->Option γ) (r:β->Option γ) (x:α⊕β):Option.map f (Sum.elim l r x)=Sum.elim (fun a=>Option.map f (l a)) (fun b=>Option.map f (r b)) x:=by cases x<;>rfl
theorem Ang {B Ω σ ω:Type} {j:B->Option (B⊕Ω)} {st:B->σ->Option (σ⊕ω)} {prj:B->σ} {emb:B->σ->B} {i:B->ω→Ω}
  (b:∀x,j x=(st x (prj x)).map (Sum.map (emb x) (i x))) (a:∀x v,st (emb x v)=st x) (c:∀x v,prj (emb x v)=v) (e:∀x v w,emb (emb x v) w=emb x w) (f:∀x v w,i (emb x v) w=i x w) (d:∀x,emb x (prj x)=x)
  {x:B} {o:ω} (h:Ie (st x) (prj x) o):Ie j x (i x o):=by
 have l:∀(v:σ) (o:ω),Ie (st x) v o->Ie j (emb x v) (i x o):=fun v o AH=>by
  induction AH with
  | @done v o hs=>exact .done (by rw[b,a,c,hs,As,Sum.map_inr,f])
  | @next v w o hs _ ih=>exact .next (by rw[b,a,c,hs,As,Sum.map_inl,e]) ih
 have:=l _ o h
 rwa [d]at this
def ZW:Bo S R:=fun _ _ _=>none
theorem oG (X:C1 S):CB X (ZW (R:=R)):=fun _ _ _ _ h=>by cases h
end Go.Ab
namespace Go.Ab
variable {S:Nat->Type} {R:Type}
theorem Mq {X:C1 S} (hX:Ho X) {tab:List (Nat×Fx1 S)} (ht:Cf X tab) {e:LE S} {q:Ed S (Dl S e.ts⊕EU S (e.outs.map (·.ts)))} (a:GC X q) {u:Bo S (Dl S e.ts⊕EU S (e.outs.map (·.ts)))} (b:CB X u) {n:Nat}
  {σ ω:Type} {emb:Dl S e.ts->σ->Dl S e.ts} (out:∀{T:Type},Dl S e.ts->(EU S (e.outs.map (·.ts))->T)->ω->T) {st:Dl S e.ts->σ->Option (σ⊕ω)} {prj:Dl S e.ts->σ}
  (i:∀x,e.step X tab q u n x=(st x (prj x)).map (Sum.map (emb x) (out x id))) {ls:Bo S R} (hls:CB X ls)
  (c:∀x v,st (emb x v)=st x:=by intros;rfl) (d:∀x v,prj (emb x v)=v:=by intros;rfl) (g:∀x v w,emb (emb x v) w=emb x w:=by intros;rfl) (l:∀x v w,out (emb x v) id w=out x id w:=by intros;rfl) (f:∀x,emb x (prj x)=x:=by intros;rfl)
  (j:∀x (k:EU S (e.outs.map (·.ts))->Option R) o,out x k o=k (out x id o):=by intro x k o;repeat' first|rfl|(rcases o with o|o)) :
  CB X (e.ls X (fun x k=>(CC (st x) (prj x)).bind (out x k)) ls) :=
 Aoe hX ht a b (fun x k r h=>by
  obtain⟨o,C,z⟩:=AD h;exact⟨out x id o,Ang i c d g l f (NV.1 C),(j x k o).symm.trans z⟩) hls
end Go.Ab
namespace Go.Ab
open Go.RowKit
variable {S:Nat->Type}
def DG (T:BZ S):(ts:List Az)->Gu S ts->List AB
 | [],_=>[]
 | t::ts,x=>BF T t x.1++DG T ts x.2
def LL (lim:Az->Nat) (ok:∀i,S i->Prop):(t:Az)->B1 S t->Prop
 | .bool,_=>True
 | .int k,n=>(Lit.int k n).wf=true
 | .str,s=>s.size<=maxLen
 | .AR t,xs=>List.length (α:=B1 S t) xs<=lim t/\∀x:B1 S t,List.Mem x xs->LL lim ok t x
 | .arr n t,a=>∀j,j<n->LL lim ok t (a j)
 | .st i,x=>ok i x
def SH (lim:Az->Nat) (ok:∀i,S i->Prop):(ts:List Az)->Gu S ts->Prop
 | [],_=>True
 | t::ts,x=>LL lim ok t x.1/\SH lim ok ts x.2
structure sA (T:BZ S) where
 C6:Nat->List Az
 make:∀i,Gu S (C6 i)->S i
 ok:(Az->Nat)->∀i,S i->Prop
 AsG:∀i xs,T.G8 i (make i xs)=DG T (C6 i) xs
 AsH:∀lim i xs,SH lim (ok lim) (C6 i) xs->ok lim i (make i xs)
structure Rw {H:Type} (P:Program) (code:Nat->Option Az) (lim:Az->Nat) (B:Nat->DataW H->Prop):Prop where
 slice:∀t e elems spare c,code e=some c->P.underlying t=some (.slice e)->0<P.bytesOf e->B t (.slice elems spare)->elems.length<=lim c/\∀d,d∈elems->B e d
 struct:∀t fs parts,P.underlying t=some (.struct fs)->B t (.agg parts)->∀(j:Nat) f d,fs[j]? = some f->parts[j]? = some d->B f.type d
 array:∀t n e parts,P.underlying t=some (.array n e)->B t (.agg parts)->∀d,d∈parts->B e d
def Oy (code:Nat->Option Az) (EI:Az->Nat):Nat->List (Nat×Nat)->List Az->Option Nat
 | off,[],[]=>some off
 | off,(t,o)::fs,c::cs=>bif Nat.beq o off&&decide (code t=some c)then Oy code EI (off+EI c) fs cs else none
 | _,_,_=>none
def PW (code:Nat->Option Az) (ty:Nat->Option By) (EI:Az->Nat) (C6:Nat->List Az) (o:Option By) (c:Az):Bool:=match o with
 | none=>false
 | some ti=>Nat.beq ti.size (EI c)&&(match c,ti.k with
  | .bool,.bool=>true
  | .int k,.int k'=>decide (k=k')
  | .str,.string=>true
  | .AR c',.slice e=>decide (code e=some c')&&(Nat.blt 0 (EI c')&&(match ty e with|some d=>Nat.blt 0 d.bytes|none=>false))
  | .arr n c',.array j e=>Nat.beq n j&&decide (code e=some c')
  | .st i,.struct fs=>match Oy code EI 0 fs (C6 i)with|some z=>Nat.beq z ti.size|none=>false
  | _,_=>false)
theorem lQ {β:BB} {G:Aj}:∀{a b:List AB} {x y:List Value},Ae β G a x->Ae β G b y->Ae β G (a++b) (x++y)
 | [],b,x,y,i,j=>by unfold Ae at i;subst i;exact j
 | d::a,b,x,y,i,j=>by
  unfold Ae at i;obtain⟨v,vs,rfl,e,c⟩:=i;show Ae β G (d::(a++b)) (v::(vs++y));unfold Ae;exact⟨v,vs++y,rfl,e,lQ c j⟩
theorem UM {β:BB} {G:Aj} {d:AB} {v:Value} (h:AO β G d v):Ae β G [d] [v]:=by
 unfold Ae;exact⟨v,[],rfl,h,by unfold Ae;rfl⟩
theorem iN {α ξ:Type} {Q:α→ξ→Prop}:∀{l:List α},(∀a,a∈l->∃x,Q a x)->∃xs:List ξ,xs.length=l.length/\∀j (d:j<l.length) (c:j<xs.length),Q l[j] xs[j]
 | [],_=>⟨[],rfl,fun j h=>by simp at h⟩
 | a::l,h=>by
  obtain⟨x,g⟩:=h a (by simp)
  obtain⟨xs,d,c⟩:=iN (l:=l) (fun b hb=>h b (List.mem_cons_of_mem _ hb));refine⟨x::xs,by simp[d],fun j f e=>?_⟩
  cases j with
  | zero=>exact g
  | succ j=>exact c j (by simpa using f) (by simpa using e)
section
variable {H:Type} {enc:TypeId×Value->H} {P:Program} {w:World} {sp:Nat->Bool} {held:Bool} {β:BB} {G:Aj}
theorem Aam {a:Addr} {n:Nat} {cs:List Value} (h:w.cells? 0 a n=some cs):cs.length=n/\∀i,(AA:i<cs.length)->w.cell? (a.add i)=some cs[i]:=by
 unfold World.cells? at h;rw[if_pos (Nat.zero_le _)]at h;have q:∀(l:List Nat) (r:List Value),l.mapM (fun i=>w.cell? (a.add i))=some r->r.length=l.length/\∀j,(c:j<l.length)->(d:j<r.length)->w.cell? (a.add l[j])=some r[j]:=by
  intro l
  induction l with
  | nil=>intro r h;simp at h;subst h;exact⟨rfl,fun j h=>by simp at h⟩
  | cons b l ih =>
   intro r h;rw[List.mapM_cons]at h;simp only[Option.bind_eq_bind,Option.bind_eq_some_iff]at h;obtain⟨y,hy,ys,f,AH⟩:=h;have e:y::ys=r:=by simpa using AH
   subst e;obtain⟨c,d⟩:=ih ys f;refine⟨by simp[c],fun j g k=>?_⟩
   cases j with
   | zero=>exact hy
   | succ j=>exact d j (by simpa using g) (by simpa using k)
 obtain⟨c,d⟩:=q _ _ h;rw[List.length_range]at c;refine⟨c,fun i AA=>?_⟩;have:=d i (by rw[List.length_range];omega) AA
 rwa [List.getElem_range]at this
theorem AcL (a:∀b o v,w.cell? ⟨b,o,none⟩=some v->G b o=some v) {b:Nat}:∀{ds:List AB} {cs:List Value} {o:Nat},Ae β G ds cs->(∀i,(AA:i<cs.length)->w.cell? ⟨b,o+i,none⟩=some cs[i])->D7 β G b o ds
 | [],_,_,_,_=>by unfold D7;trivial
 | d::ds,cs,o,h,hc=>by
  unfold Ae at h;obtain⟨v,vs,rfl,e,c⟩:=h;unfold D7;refine⟨⟨v,a _ _ _ (hc 0 (by simp)),e⟩,AcL a c (fun i AA=>?_)⟩
  have:=hc (i+1) (by simpa using AA)
  rw[show o+1+i=o+(i+1) by omega]
  simpa using this
variable {lim:Az->Nat} {B:Nat->DataW H->Prop} {X:C1 S} (hX:Ho X) (F:sA X.T) (hE:∀ t ti,X.E.ty t=some ti->Br P t ti)
 (hR:∀t c,X.code t=some c->PW X.code X.E.ty (Bd X.T) F.C6 (X.E.ty t) c=true)
include hX hE hR
theorem Xo {t:TypeId} {c:Az} (hc:X.code t=some c):P.cellsOf t=Bd X.T c:=by
 have h:=hR t c hc;unfold PW at h;cases ht:X.E.ty t with
 | none=>rw[ht]at h;cases h
 | some ti =>
  rw[ht]at h;simp only[Ar]at h;obtain⟨i,z,b,a,_⟩:=(hE t ti ht).IB;unfold Program.cellsOf;rw[b];show i.size=_;rw[a];exact Al h.1
theorem zG {z:Nat} (ih:∀t c cs x,X.code t=some c->B t x.1->DataW.trod enc P w 0 sp held z t cs=some x->∃v:B1 S c,Ae β G (BF X.T c v) cs/\LL lim (F.ok lim) c v) (cs:List Value) :
  ∀(q:List Field) (u:List Az) (off DI:Nat),Oy X.code (Bd X.T) off (q.map fun f=>(f.type,f.offset)) u=some DI →
   (∀f,f∈q->∃x,B f.type x.1/\DataW.trod enc P w 0 sp held z f.type ((cs.drop f.offset).take (P.cellsOf f.type))=some x)->off<=DI/\∃v:Gu S u,Ae β G (DG X.T u v) ((cs.drop off).take (DI-off))/\SH lim (F.ok lim) u v
 | [],[],off,DI,h,_=>by
  simp only[List.map_nil,Oy,Bc]at h;subst h;refine⟨Nat.le_refl _,(),?_,trivial⟩;rw[Nat.sub_self,List.take_zero];show Ae β G [] [];unfold Ae;rfl
 | [],_::_,off,DI,h,_=>by simp[Oy]at h
 | _::_,[],off,DI,h,_=>by simp[Oy]at h
 | f::q,c::u,off,DI,h,C=>by
  simp only[DU,Oy]at h;cases hb:(Nat.beq f.offset off&&decide (X.code f.type=some c))with
  | false=>rw[hb]at h;cases h
  | true =>
   rw[hb,AY]at h;simp only[Ar,Ew]at hb;have j:=Al hb.1;obtain⟨y,d,hy⟩:=C f (by simp)
   obtain⟨v,hv,b⟩:=ih _ _ _ _ hb.2 d hy;obtain⟨l,vs,i,a⟩:=zG ih cs q u (off+Bd X.T c) DI h (fun g k=>C g (List.mem_cons_of_mem _ k));rw[Xo hX F hE hR hb.2,j]at hv;refine⟨by omega,(v,vs),?_,b,a⟩
   have e:(cs.drop off).take (DI-off)=(cs.drop off).take (Bd X.T c)++(cs.drop (off+Bd X.T c)).take (DI-(off+Bd X.T c)):=by
    rw[show DI-off=Bd X.T c+(DI-(off+Bd X.T c)) by omega,List.take_add,List.drop_drop]
   rw[e];exact lQ hv i
theorem AnP (hB:Rw P X.code lim B) (hG:∀b o v,w.cell? ⟨b,o,none⟩=some v->G b o=some v):∀(I:Nat) (t:TypeId) (c:Az) (cs:List Value) (x:DataW H×List MemPlace),X.code t=some c->B t x.1 →
  DataW.trod enc P w 0 sp held I t cs=some x->∃v:B1 S c,Ae β G (BF X.T c v) cs/\LL lim (F.ok lim) c v:=by
 intro I
 induction I with
 | zero=>intro t c cs x _ _ h;simp[DataW.trod]at h
 | succ I ih =>
  intro t c cs x hc y h;have AH:=hR t c hc;unfold PW at AH;cases ht:X.E.ty t with
  | none=>rw[ht]at AH;cases AH
  | some ti =>
   rw[ht]at AH;have hT:=hE t ti ht;have u:=hT.desc;simp only[Ar]at AH;obtain⟨c0,q⟩:=AH;have a6:=Xo hX F hE hR hc;cases c with
   | bool =>
    split at q<;>try (cases q;done)
    all_goals (rename_i p d;try cases p)
    rw[d]at u;obtain⟨b,rfl,_⟩:=DataW.trod_bool u h;exact⟨b,UM (by unfold AO;rfl),trivial⟩
   | int k =>
    split at q<;>try (cases q;done)
    all_goals (rename_i p d;try cases p)
    rename_i k';have:=of_decide_eq_true q;subst this;rw[d]at u;obtain⟨n,rfl,_,hw⟩:=DataW.trod_int u h;exact⟨n,UM (by unfold AO;rfl),hw⟩
   | str =>
    split at q<;>try (cases q;done)
    all_goals (rename_i p d;try cases p)
    rw[d]at u;obtain⟨s,rfl,_,hw⟩:=DataW.trod_string u h;exact⟨s,UM (by unfold AO;rfl),hw⟩
   | AR c' =>
    split at q<;>try (cases q;done)
    all_goals (rename_i p d;try cases p)
    rename_i e;simp only[Ar,Ew]at q;obtain⟨a0,a8,U⟩:=q;have M:0<P.bytesOf e:=by
     cases a9:X.E.ty e with
     | none=>rw[a9]at U;cases U
     | some te =>
      rw[a9]at U;simp only[Nat.blt,Nat.ble_eq]at U;obtain⟨i,z,BI,_,BD,_⟩:=(hE e te a9).IB;unfold Program.bytesOf;rw[BI];show 0<i.bytes;omega
    have a8:0<Bd X.T c':=by simp only[Nat.blt,Nat.ble_eq]at a8;omega
    have a3:=Xo hX F hE hR a0;rw[d]at u;rcases DataW.trod_slice u h with⟨rfl,_⟩|⟨a,len,c9,d3,d5,n,hn,rfl,a5,_,d7,d9,d1,g,_⟩
    ·refine⟨([]:List (B1 S c')),UM ?_,⟨Nat.zero_le _,fun x hx=>by cases hx⟩⟩
     show AO β G (.AR []) _;unfold AO;exact⟨none,0,⟨rfl,Nat.le_refl _⟩,.inl rfl⟩
    ·cases hn;rw[a5]at y;obtain⟨b5,b3⟩:=hB.slice _ _ _ _ _ a0 u M y;rw[List.length_map,d1]at b5;have b7:∀i,i∈List.range len->∃(Z:B1 S c') (C:List Value),w.cells? 0 (a.add (i*P.cellsOf e)) (P.cellsOf e)=some C/\Ae β G (BF X.T c' Z) C/\LL lim (F.ok lim) c' Z:=fun i AA=>by
      have b1:i<len:=by simpa using AA
      have hy:=g i b1;rw[List.getElem?_eq_getElem (by omega)]at hy
      simp only[Option.bind_eq_some_iff]at hy;obtain⟨C,h1,h2⟩:=hy;obtain⟨v,h3,h4⟩:=ih e c' C _ a0 (b3 _ (List.mem_map.2 ⟨_,Fx (by omega),rfl⟩)) h2
      exact⟨v,C,h1,h3,h4⟩
     ·obtain⟨xs,a4,b0⟩:=iN (l:=List.range len) (Q:=fun i (Z:B1 S c')=>∃(C:List Value),w.cells? 0 (a.add (i*P.cellsOf e)) (P.cellsOf e)=some C/\Ae β G (BF X.T c' Z) C/\LL lim (F.ok lim) c' Z) b7;rw[List.length_range]at a4;have r:∀j,(K:j<xs.length)->∃(C:List Value),w.cells? 0 (a.add (j*Bd X.T c')) (Bd X.T c')=some C/\Ae β G (BF X.T c' xs[j]) C/\LL lim (F.ok lim) c' xs[j]:=fun j K=>by
       have:=b0 j (by rw[List.length_range];omega) K
       rw[List.getElem_range,a3]at this;exact this
      refine⟨(xs:List (B1 S c')),UM ?_,⟨by omega,fun x hx=>?_⟩⟩
      ·show AO β G (.AR (xs.map (BF X.T c'))) _;unfold AO;refine⟨some a,c9,⟨by rw[List.length_map,a4],by rw[List.length_map];omega⟩,?_⟩
       by_cases W:xs=[]
       ·left;rw[W];rfl
       ·right;have d0:0<xs.length:=List.length_pos_iff.2 W;have a2:a.spot=none:=by
         obtain⟨C,h1,_,_⟩:=r 0 d0;obtain⟨h3,h4⟩:=Aam h1;have:=h4 0 (by omega)
         rw[Nat.zero_mul]at this;simp only[Addr.add,if_true]at this;unfold World.cell? at this;split at this
         ·split at this
          ·cases this
          ·rename_i hs;cases c7:a.spot with
           | none=>rfl
           | some z=>rw[c7]at hs;exact absurd rfl hs
         ·cases this
        obtain⟨ab,ao,e3⟩:=a;simp only at a2;subst a2;refine⟨ab,ao,Bd X.T c',rfl,?_⟩;have b2:∀(n k:Nat),k+n=xs.length->DD β G ab (Bd X.T c') (ao+k*Bd X.T c') ((xs.drop k).map (BF X.T c')):=by
         intro n
         induction n with
         | zero =>
          intro k q;rw[G9 (by omega)]
          simp only[List.map_nil];unfold DD;trivial
         | succ n b8 =>
          intro k q;have b6:k<xs.length:=by omega
          rw[HO b6];simp only[DU];unfold DD;obtain⟨C,h1,h2,_⟩:=r k b6;obtain⟨h3,h4⟩:=Aam h1;refine⟨GH hX.t c' _,⟨N1 (RM hX.t c' _),UF (RM hX.t c' _)⟩,AcL hG h2 (fun i AA=>?_),?_⟩
          ·have:=h4 i AA;have e:(Addr.add (Addr.add ⟨ab,ao,none⟩ (k*Bd X.T c')) i)=⟨ab,ao+k*Bd X.T c'+i,none⟩:=by
            simp only[Addr.add]
            by_cases hz:k*Bd X.T c'=0
            ·by_cases J:i=0
             ·simp[hz,J]
             ·simp[hz,J]
            ·by_cases J:i=0
             ·simp[hz,J]
             ·simp[hz,J]
           rwa [e]at this
          ·have:=b8 (k+1) (by omega)
           rw[show ao+k*Bd X.T c'+Bd X.T c'=ao+(k+1)*Bd X.T c' by rw[Nat.succ_mul];omega]
           exact this
        have:=b2 xs.length 0 (by omega)
        rw[Nat.zero_mul,Nat.add_zero,List.drop_zero]at this;exact this
      ·obtain⟨j,K,rfl⟩:=List.getElem_of_mem hx;obtain⟨_,_,_,h3⟩:=r j K;exact h3
   | arr n c' =>
    split at q<;>try (cases q;done)
    all_goals (rename_i p d;try cases p)
    rename_i n' e;simp only[Ar,Ew]at q;obtain⟨hn,a0⟩:=q;have hn:=Al hn;subst hn;have a3:=Xo hX F hE hR a0;rw[d]at u
    ·obtain⟨d8,m,hm,a5,a1,d6,g⟩:=DataW.trod_array u h;cases hm;rw[a5]at y;have b3:=hB.array _ _ _ _ u y;obtain⟨xs,a4,b0⟩:=iN (l:=List.range n) (Q:=fun i (Z:B1 S c')=>Ae β G (BF X.T c' Z) ((cs.drop (i*P.cellsOf e)).take (P.cellsOf e))/\LL lim (F.ok lim) c' Z) (fun i AA=>by
      have b1:i<n:=by simpa using AA
      have hy:=g i b1;rw[List.getElem?_eq_getElem (by omega)]at hy
      exact ih e c' _ _ a0 (b3 _ (List.mem_map.2 ⟨_,Fx (by omega),rfl⟩)) hy)
     rw[List.length_range]at a4;have r:∀j,(K:j<n)->Ae β G (BF X.T c' (xs.getD j (H3 X.T c'))) ((cs.drop (j*Bd X.T c')).take (Bd X.T c'))/\LL lim (F.ok lim) c' (xs.getD j (H3 X.T c')):=fun j K=>by
      have a7:j<xs.length:=by omega
      have:=b0 j (by rw[List.length_range];omega) a7
      rw[List.getElem_range,a3]at this;have BG:xs.getD j (H3 X.T c')=xs[j]:=by simp[List.getD,a7]
      rw[BG];exact this
     refine⟨(fun j=>xs.getD j (H3 X.T c')),?_,fun j K=>(r j K).2⟩;show Ae β G ((List.range n).flatMap fun j=>BF X.T c' (xs.getD j (H3 X.T c'))) cs;have b2:∀k,k<=n->Ae β G ((List.range k).flatMap fun j=>BF X.T c' (xs.getD j (H3 X.T c'))) (cs.take (k*Bd X.T c')):=by
      intro k
      induction k with
      | zero =>
       intro _;rw[Nat.zero_mul,List.take_zero];show Ae β G [] [];unfold Ae;rfl
      | succ k c6 =>
       intro q;rw[List.range_succ,List.flatMap_append,Nat.succ_mul,List.take_add];refine lQ (c6 (by omega)) ?_
       simp only[List.flatMap_cons,List.flatMap_nil,jp];exact(r k (by omega)).1
     have:=b2 n (Nat.le_refl _);rw[List.take_of_length_le (by rw[a1,a6];exact Nat.le_refl _)]at this
     exact this
   | st i =>
    split at q<;>try (cases q;done)
    all_goals (rename_i p d;try cases p)
    rename_i fs;rw[d]at u;obtain⟨O,hu,d2,_⟩:=u;split at q
    ·rename_i z hz;have c8:=Al q;obtain⟨xs,m,hm,a5,a1,a4,g⟩:=DataW.trod_struct hu h;cases hm;rw[a5]at y;have d4:=hB.struct _ _ _ hu y;rw[<-d2]at hz
     ·obtain⟨_,v,hv,b9⟩:=zG hX F hE hR ih cs _ _ 0 z hz (fun f hf=>by
       obtain⟨j,K,b4⟩:=List.getElem_of_mem hf;have a7:j<O.size:=by simpa using K
       have:=g j f (by rw[Array.getElem?_eq_getElem a7];simpa using b4)
       rw[List.getElem?_eq_getElem (by omega)]at this
       exact⟨_,d4 j f _ (by rw[Array.getElem?_eq_getElem a7];simpa using b4) (by rw[List.getElem?_map,List.getElem?_eq_getElem (by omega)];rfl),this⟩)
      refine⟨F.make i v,?_,F.AsH lim i v b9⟩;show Ae β G (X.T.G8 i (F.make i v)) cs;rw[F.AsG];rw[Nat.sub_zero,List.drop_zero,List.take_of_length_le (by rw[a1,a6,c8,Al c0];exact Nat.le_refl _)]at hv
      exact hv
    ·cases q
theorem Aoj (K:Rw P X.code lim B) (M:∀b o v,w.cell? ⟨b,o,none⟩=some v->G b o=some v) {t:TypeId} {c:Az} {v:Value} {d:DataW H} {AP:List MemPlace} {r:Reach} {base:Nat} (hc:X.code t=some c) (g:Value.okWide P w r base t v) (q:B t d)
  (h:DataW.Trod enc P w 0 sp held t v d AP):∃x:B1 S c,AO β G (Ck X.T c x) v/\LL lim (F.ok lim) c x:=by
 obtain⟨C,h⟩:=h;obtain⟨x,p,y⟩:=AnP (β:=β) hX F hE hR K M C t c _ _ hc q h;refine⟨x,?_,y⟩;have AH:=hR t c hc;unfold PW at AH;cases ht:X.E.ty t with
 | none=>rw[ht]at AH;cases AH
 | some ti =>
  rw[ht]at AH;have j:=(hE t ti ht).desc;simp only[Ar]at AH;obtain⟨_,m⟩:=AH;have one:∀{d:AB},(∀cs,v≠.agg cs)->Ae β G [d] v.cells.toList->AO β G d v:=fun {d} J h=>by
   have hcs:v.cells = #[v]:=by cases v<;>simp[Value.cells]at J⊢
   rw[hcs]at h;unfold Ae at h;obtain⟨u,W,Q,z,_⟩:=h;cases Q;exact z
  cases c with
  | bool =>
   split at m<;>try (cases m;done)
   all_goals (rename_i f e;try cases f)
   rw[e]at j;obtain⟨b,rfl⟩:=WideShapes.okWide_bool j g;exact one (fun cs h=>by cases h) p
  | int k =>
   split at m<;>try (cases m;done)
   all_goals (rename_i f e;try cases f)
   rw[e]at j;obtain⟨n,rfl⟩:=WideShapes.okWide_int j g;exact one (fun cs h=>by cases h) p
  | str =>
   split at m<;>try (cases m;done)
   all_goals (rename_i f e;try cases f)
   rw[e]at j;obtain⟨s,rfl⟩:=WideShapes.okWide_string j g;exact one (fun cs h=>by cases h) p
  | AR c' =>
   split at m<;>try (cases m;done)
   all_goals (rename_i f e;try cases f)
   rw[e]at j;obtain⟨a,l,U,rfl⟩:=WideShapes.okWide_slice j g;exact one (fun cs h=>by cases h) p
  | arr n c' =>
   split at m<;>try (cases m;done)
   all_goals (rename_i f e;try cases f)
   rw[e]at j;simp only[Value.okWide,j]at g;obtain⟨cs,rfl,_,_⟩:=g;show AO β G (.agg (acl X.T c' n x)) _;unfold AO;exact⟨cs.toList,by simp,p⟩
  | st i =>
   split at m<;>try (cases m;done)
   all_goals (rename_i f e;try cases f)
   rw[e]at j;obtain⟨I,O,_⟩:=j;obtain⟨cs,rfl,_⟩:=WideShapes.okWide_struct O g;show AO β G (.agg (X.T.G8 i x)) _;unfold AO;exact⟨cs.toList,by simp,p⟩
theorem AcM (k:Rw P X.code lim B) (i:∀b o v,w.cell? ⟨b,o,none⟩=some v->G b o=some v) {r:Reach} {base:Nat}:∀(ts:List TypeId) (cs:List Az) (vs:List Value) (ds:List (DataW H)) (AP:List MemPlace),ts.map X.code=cs.map some →
  (∀(j:Nat) t v,ts[j]? = some t->vs[j]? = some v->Value.okWide P w r base t v)->(∀(j:Nat) t d,ts[j]? = some t->ds[j]? = some d->B t d)->DataW.TrodAll enc P w 0 sp held ts vs ds AP->∃x:Gu S cs,Ae β G (Jf X.T cs x) vs/\SH lim (F.ok lim) cs x
 | [],[],[],_,_,_,_,_,_=>⟨(),by show Ae β G [] [];unfold Ae;rfl,trivial⟩
 | [],[],_::_,[],_,_,_,_,h=>by cases h
 | [],[],_::_,_::_,_,_,_,_,h=>by cases h
 | [],_::_,_,_,_,h,_,_,_=>by simp at h
 | _::_,[],_,_,_,h,_,_,_=>by simp at h
 | _::_,_::_,[],_,_,_,_,_,h=>by cases h
 | _::_,_::_,_::_,[],_,_,_,_,h=>by cases h
 | t::ts,c::cs,v::vs,d::ds,AP,C,u,z,h=>by
  obtain⟨p,q,n,l,_⟩:=h;simp only[DU,List.cons.injEq]at C;obtain⟨x,m,f⟩:=Aoj hX F hE hR k i C.1 (u 0 t v rfl rfl) (z 0 t d rfl rfl) n;obtain⟨xs,g,e⟩:=AcM k i ts cs vs ds q C.2 (fun j t v a b=>u (j+1) t v a b) (fun j t d a b=>z (j+1) t d a b) l;refine⟨(x,xs),?_,f,e⟩;show Ae β G (Ck X.T c x::Jf X.T cs xs) (v::vs);unfold Ae;exact⟨v,vs,rfl,m,g⟩
end
end Go.Ab
namespace Go.Ab
def Ju (c c':Nat->List AB->Option AB):Prop:=∀g as r,c g as=some r->c' g as=some r
def GV (c c':D5):Prop:=∀g as o n r,c g as o n=some r->c' g as o n=some r
section
variable {E:Env} {c c':Nat->List AB->Option AB} {h h' y y':D5} (hc:Ju c c') (hh:GV h h') (hy:GV y y')
include hc
theorem AbV {nid:Nat} {ρ:Nat->Option AB} {l:Nat->Option A8} {op:Op} {r:Option Out} (a:Jk E c nid ρ l op=some r):Jk E c' nid ρ l op=some r:=by
 unfold Jk at a⊢;split at a
 ·exact a
 ·rename_i BU AA;obtain⟨i,e,a⟩:=AD a;simp only[e,AX];cases j:P8 E i with
  | false=>rw[j]at a;exact a
  | true =>
   rw[j]at a;simp only[AY]at a⊢;obtain⟨q,b,a⟩:=AD a;unfold Ng at b⊢;obtain⟨u,g,b⟩:=AD b;simp only[g,AX];split at b
   ·obtain⟨fs,d,b⟩:=AD b;obtain⟨x,f,b⟩:=AD b;simp only[d,AX,hc _ _ _ f,b];exact a
   ·cases b
include hh hy
omit hc in
theorem Acy {e:Nat->Option A8} {nx:Nat} {d:AB×List AB} {r:Out×List Nat×Nat} (a:I1 h y e nx d=some r):I1 h' y' e nx d=some r:=by
 unfold I1 at a⊢;split at a
 ·unfold Ld at a⊢;obtain⟨x,b,a⟩:=AD a;simp only[hh _ _ _ _ _ b,AX];exact a
 ·unfold Ld at a⊢;obtain⟨x,b,a⟩:=AD a;simp only[hy _ _ _ _ _ b,AX];exact a
 ·cases a
theorem Ur {df:Bool} {V AU:Nat} {ops:Array Oper} {b:Nat}:∀(os:List Oper) (k:Nat) (m q:Dr),IM E df c h y V AU ops b k os m=some q->IM E df c' h' y' V AU ops b k os m=some q
 | [],_,_,_,a=>a
 | o::os,k,m,q,a=>by
  simp only[IM]at a⊢;obtain⟨j,g,a⟩:=AD a;simp only[g,AX];cases j with
  | false=>exact Ur os _ _ _ a
  | true =>
   simp only[AY]at a⊢;cases l:R6 E df (EN V m.base m.loc) o.op with
   | true=>rw[l]at a;exact Ur os _ _ _ a
   | false =>
   rw[l]at a;simp only[Ac]at a⊢;obtain⟨u,d,a⟩:=AD a;simp only[AbV hc d,AX];cases u with
   | some r=>exact Ur os _ _ _ a
   | none =>
    simp only at a⊢;obtain⟨BU,e,a⟩:=AD a;obtain⟨z,f,a⟩:=AD a;obtain⟨C,i,a⟩:=AD a;simp only[e,f,AX,Acy hh hy i];exact Ur os _ _ _ a
theorem YW {V AU:Nat} {ops:Array Oper} {b:Nat}:∀(os:List Oper) (k:Nat) (m u:Dr) (ds:List (Nat×Dd)),Hs E c h y V AU ops b k os m ds=some u->Hs E c' h' y' V AU ops b k os m ds=some u
 | [],_,_,_,_,a=>a
 | o::os,k,m,u,ds,a=>by
  simp only[Hs]at a⊢;obtain⟨f,a⟩:=Ad a;refine(RS f).trans ?_;obtain⟨q,j,a⟩:=AD a;simp only[j,AX];cases q with
  | false=>exact YW os _ _ _ _ a
  | true =>
   simp only[AY]at a⊢;obtain⟨z,e,a⟩:=AD a;simp only[AbV hc e,AX];cases z with
   | some r =>
    simp only at a⊢;obtain⟨d,a⟩:=Ad a;rw[d];exact YW os _ _ _ _ a
   | none =>
    simp only at a⊢;obtain⟨BU,d,a⟩:=AD a;obtain⟨C,i,a⟩:=AD a;obtain⟨I,l,a⟩:=AD a;simp only[d,i,AX,Acy hh hy l];obtain⟨g,a⟩:=Ad a;refine(RS g).trans ?_;exact YW os _ _ _ _ a
theorem AmS {df:Bool} {V AU:Nat} {ops:Array Oper} {e:Bool} {s i:BV} (b:N6 E df c h y V AU ops e s=some i):N6 E df c' h' y' V AU ops e s=some i:=by
 unfold N6 at b⊢;obtain⟨m,a,d⟩:=AD b;clear b;cases e with
 | true =>
  simp only[AY]at a⊢;rw[YW hc hh hy _ _ _ _ _ a];exact d
 | false =>
  simp only[Ac]at a⊢;rw[Ur hc hh hy _ _ _ _ a];exact d
omit hc hh hy in
theorem SA {nrm:BV->Option BV} {st d:BV->Option (Ce×BV)} (hs:∀s r,st s=some r->d s=some r):∀(n e:Nat) (s:BV) (r:Ce×BV),n<=e->iter nrm st n s=some r->iter nrm d e s=some r
 | 0,_,_,_,_,h=>by cases h
 | n+1,0,_,_,i,_=>by omega
 | n+1,e+1,s,r,i,h=>by
  simp only[iter]at h⊢;obtain⟨l,b,h⟩:=AD h;obtain⟨q,a,h⟩:=AD h;simp only[b,AX,hs _ _ a];obtain⟨ex,j⟩:=q;cases ex with
  | normal=>exact SA hs n e j r (by omega) h
  | _=>exact h
omit hc hh hy in
theorem AnB {g u:Nat->Option (Ce×BV)} (c:∀j r,g j=some r->u j=some r) {l:List Nat} {r:Ce×BV} (h:VE g l=some r):VE u l=some r:=by
 cases l with
 | nil=>cases h
 | cons j C =>
  obtain⟨q,f,h⟩:=AD h;obtain⟨e,h⟩:=Ad h;cases h;simp only[VE,c _ _ f,AX];refine(congrArg (fun b=>bif b then some r else none) (List.all_eq_true.2 fun i AA=>?_)).trans rfl;have a:=List.all_eq_true.1 e i AA;split at a
  ·rename_i z d;rw[c _ _ d];exact a
  ·cases a
omit hc hh hy in
theorem mS {F:Ag} {Af y it C:Nat} {d:Nat×Nat×Nat×Nat} {nrm:BV->Option BV} {s z:BV->Option (Ce×BV)} (hs:∀x r,s x=some r->z x=some r):∀(n u:Nat) (x:BV) (r:Ce×BV),n<=u->Ns F Af y it C d nrm s n x=some r->Ns F Af y it C d nrm z u x=some r
 | 0,_,_,_,_,h=>by cases h
 | n+1,0,_,_,hl,_=>by omega
 | n+1,u+1,x,r,hl,h=>by
  simp only[Ns]at h⊢;obtain⟨I,o,h⟩:=AD h;simp only[o,AX];split at h
  ·rename_i k g
   try rw[g]
   split at h
   ·rename_i m N seen f
    try simp only[f]
    split at h
    ·rename_i es i
     try simp only[i]
     obtain⟨b,h⟩:=Ad h;simp only[b,AY];split at h
     ·exact h
     ·refine AnB (fun j q a=>?_) h
      ·obtain⟨e,c,a⟩:=AD a;obtain⟨BD,l,a⟩:=AD a;simp only[c,AX,hs _ _ l]
       revert a
       split
       ·exact mS hs n u _ _ (by omega)
       ·intro a;obtain⟨p,a⟩:=Ad a;simp only[p,AY];exact mS hs n u _ _ (by omega) a
       ·intro a;cases a
    ·cases h
   ·cases h
  ·cases h
theorem KD {Cb:Option Nat} {Bj:Nat} {F:Ag} {f u:Nat} (hf:f<=u):∀(C:Code) (Af:Nat) (s:BV) (r:Ce×BV),CY E Cb Bj F c h y f Af C s=some r->CY E Cb Bj F c' h' y' u Af C s=some r
 | .skip,_,_,_,e=>e
 | .label _,_,_,_,e=>e
 | .ret,_,_,_,e=>e
 | .exit _,_,_,_,e=>e
 | .goto _,_,_,_,e=>e
 | .refuse _,_,_,_,e=>e
 | .region _ ops M,Af,s,r,e=>by
  simp only[CY]at e⊢;obtain⟨I,g,e⟩:=AD e;rw[AmS hc hh hy g];exact e
 | .seq a b,Af,s,r,e=>by
  simp only[CY]at e⊢;obtain⟨q,g,e⟩:=AD e;simp only[KD hf a _ _ _ g,AX];obtain⟨ex,Q⟩:=q;cases ex with
  | normal=>exact KD hf b _ _ _ e
  | _=>exact e
 | .cond x a b,Af,s,r,e=>by
  simp only[CY]at e⊢;cases A5:CA s.base.get x with
  | none=>rw[A5]at e;cases e
  | some d =>
   rw[A5]at e;cases d<;>simp only[reduceCtorEq]at e;rename_i t;simp only;cases t with
   | true=>exact KD hf a _ _ _ e
   | false=>exact KD hf b _ _ _ e
 | .block id a,Af,s,r,e=>by
  simp only[CY]at e⊢;obtain⟨q,g,e⟩:=AD e;simp only[KD hf a _ _ _ g,AX];exact e
 | .loop a,Af,s,r,e=>by
  simp only[CY]at e⊢;split at e
  ·rename_i p i
   try rw[i]
   cases hb:Nat.beq p.2.2.1 F.AU with
   | false =>
    simp only[hb,Ac]at e⊢;exact e
   | true =>
    simp only[hb,AY]at e⊢;split at e
    ·rename_i i0 r0 Z x y W J z;obtain⟨d,g,e⟩:=AD e;obtain⟨j,k,e⟩:=AD e;obtain⟨l,e⟩:=Ad e;simp only[g,k,AX,l,AY];exact mS (fun s r h=>KD hf z _ s r h) _ _ _ _ hf e
    ·cases e
  rename_i i
  try rw[i]
  obtain⟨j,g,e⟩:=AD e;simp only[g,AX];exact SA (fun s r h=>KD hf a _ s r h) _ _ _ _ hf e
 | .scope a,Af,s,r,e=>by
  simp only[CY]at e⊢;exact KD hf a _ _ _ e
 | .rangeFunc U AP as K,Af,s,r,e=>by
  simp only[CY]at e⊢;obtain⟨m,e⟩:=Ad e;rw[m];simp only[AY];obtain⟨I,g,e⟩:=AD e;refine(congrArg (fun z=>Option.bind z _) g).trans ?_;simp only[AX];obtain⟨O,k,e⟩:=AD e;rw[k];simp only[AX];split at e
  ·obtain⟨x,l,e⟩:=AD e;simp only[hh _ _ _ _ _ l,AX];exact e
  ·cases e
end
theorem Abj {E:Env} {h h':D5} (hh:GV h h'):GV (Kq E h) (Kq E h'):=fun g as o nx r a=>by
 unfold Kq at a⊢;obtain⟨F,c,a⟩:=AD a;simp only[c,AX];cases hc:F.can with
 | false=>rw[hc]at a;exact hh _ _ _ _ _ a
 | true =>
  rw[hc]at a;simp only[AY]at a⊢;obtain⟨hb,a⟩:=Ad a;obtain⟨x,b,a⟩:=AD a;rw[hb];simp only[AY];rw[hh _ _ _ _ _ b];exact a
theorem mB {E:Env} {c c':Nat->List AB->Option AB} {h h' y y':D5} (hc:Ju c c') (hh:GV h h') (hy:GV y y') {n i:Nat} (hn:n<=i):GV (JI E c h y n) (JI E c' h' y' i):=fun g as o nx r a=>by
 unfold JI at a⊢;obtain⟨F,e,a⟩:=AD a;obtain⟨b,a⟩:=Ad a;obtain⟨q,d,a⟩:=AD a;simp only[e,AX,b,AY,KD hc hh hy hn _ _ _ _ d];exact a
theorem mC {E:Env} {c c':Nat->List AB->Option AB} {h h' y y':D5} (hc:Ju c c') (hh:GV h h') (hy:GV y y') {n j:Nat} (hn:n<=j):GV (P5 E c h y n) (P5 E c' h' y' j):=fun l as o nx r a=>by
 unfold P5 at a⊢;split at a
 ·rename_i Bj base AP assign body Af d
  try rw[d]
  try simp only
  obtain⟨F,i,a⟩:=AD a;obtain⟨b,e,a⟩:=AD a;obtain⟨q,f,a⟩:=AD a;simp only[i,e,AX,KD hc hh hy hn _ _ _ _ f];split at a
  ·obtain⟨BD,g,a⟩:=AD a;simp only[KD hc hh hy hn _ _ _ _ g,AX];exact a
  ·cases a
 ·cases a
theorem mP (E:Env) {r r':D5} (h:GV r r'):GV (fun g as o nx=>JF E g r g as o nx) (fun g as o nx=>JF E g r' g as o nx):=fun g as o nx x a=>by
 simp only[JF]at a⊢;cases Bn:E.leaf g with
 | some L=>rw[Bn]at a;exact a
 | none =>
  rw[Bn]at a;cases hc:E.Hh g with
  | some t=>rw[hc]at a;exact a
  | none =>
   rw[hc]at a;cases d:E.Mr g with
   | some e=>rw[d]at a;exact a
   | none =>
    rw[d]at a;cases hs:E.Mz g with
    | some e =>
     rw[hs]at a;simp only at a⊢;split at a
     ·exact a
     ·exact h g as o nx x a
    | none=>rw[hs]at a;exact h g as o nx x a
theorem ZZ (E:Env):∀n,GV (B8 E n false) (B8 E (n+1) false)/\GV (B8 E n true) (B8 E (n+1) true)
 | 0=>⟨fun _ _ _ _ _ h=>by simp[B8]at h,fun _ _ _ _ _ h=>by simp[B8]at h⟩
 | n+1=>by
  obtain⟨d,i⟩:=ZZ E n;have e:Ju (fun g as=>(B8 E n false g as .leaf 0).bind fun x=>BP x.2.1.get x.1) (fun g as=>(B8 E (n+1) false g as .leaf 0).bind fun x=>BP x.2.1.get x.1):=fun g as r h=>by
   obtain⟨x,b,a⟩:=AD h;simp only[d _ _ _ _ _ b,AX];exact a
  constructor
  ·exact mP E (Abj (mB e d i (Nat.le_succ n)))
  ·exact mC (E:=E) e d i (Nat.le_succ n)
theorem US (E:Env) (n:Nat):∀M,GV (B8 E n false) (B8 E (n+M) false)/\GV (B8 E n true) (B8 E (n+M) true)
 | 0=>⟨fun _ _ _ _ _ h=>h,fun _ _ _ _ _ h=>h⟩
 | M+1=>⟨fun g as o nx r h=>(ZZ E (n+M)).1 _ _ _ _ _ ((US E n M).1 _ _ _ _ _ h),fun g as o nx r h=>(ZZ E (n+M)).2 _ _ _ _ _ ((US E n M).2 _ _ _ _ _ h)⟩
theorem M5 (E:Env) {n m:Nat} (h:n<=m):Ju (EQ E n) (EQ E m):=fun g as r a=>by
 obtain⟨M,rfl⟩:=Nat.exists_eq_add_of_le h;unfold EQ at a⊢;obtain⟨x,c,b⟩:=AD a;rw[(US E n M).1 _ _ _ _ _ c];exact b
theorem AcW {E:Env} {c:Nat->List AB->Option AB} {M:Nat} (hc:Ju c (EQ E M)):∀n,GV (Mj E c n false) (B8 E (n+M) false)/\GV (Mj E c n true) (B8 E (n+M) true)
 | 0=>⟨fun _ _ _ _ _ h=>by simp[Mj]at h,fun _ _ _ _ _ h=>by simp[Mj]at h⟩
 | n+1=>by
  obtain⟨i,e⟩:=AcW hc n;have d:Ju c (fun g as=>(B8 E (n+M) false g as .leaf 0).bind fun x=>BP x.2.1.get x.1):=fun g as r h=>M5 E (Nat.le_add_left M n) g as r (hc g as r h);rw[show n+1+M=(n+M)+1 by omega]
  exact⟨mP E (Abj (mB d i e (Nat.le_add_right n M))),mC (E:=E) d i e (Nat.le_add_right n M)⟩
def CH (E:Env) (e:Nat×List AB×AB):Prop:=∃N,EQ E N e.1 e.2.1=some e.2.2
theorem iV {E:Env}:∀{l:List (Nat×List AB×AB)},(∀e∈l,CH E e)->∃N,Ju (VL l) (EQ E N)
 | [],_=>⟨0,fun _ _ _ h=>by cases h⟩
 | (f,xs,d)::l,hl=>by
  obtain⟨N,j⟩:=iV (l:=l) fun e a=>hl e (by simp[a])
  obtain⟨M,i⟩:=hl (f,xs,d) (by simp)
  refine⟨N+M,fun g as r h=>?_⟩;simp only[VL]at h;cases q:Nat.beq f g&&Nr xs as with
  | true =>
   rw[q]at h;cases h;simp only[Ar]at q;have c:=Al q.1;have b:=YF _ _ q.2;subst c b;exact M5 E (Nat.le_add_left M N) _ _ _ i
  | false =>
   rw[q]at h;exact M5 E (Nat.le_add_right N M) _ _ _ (j _ _ _ h)
theorem AbX {E:Env} {l:List (Nat×List AB×AB)} (hl:∀e∈l,CH E e) {n f:Nat} {as:List AB} {d:AB} (h:oK E l n f as=some d):CH E (f,as,d):=by
 obtain⟨N,i⟩:=iV hl;have hc:Ju (Rn E l n) (EQ E (N+n)):=fun g as r a=>by
  unfold Rn at a;cases j:l.any fun e=>Nat.beq e.1 g with
  | true=>rw[j]at a;exact M5 E (Nat.le_add_right N n) _ _ _ (i _ _ _ a)
  | false=>rw[j]at a;exact M5 E (Nat.le_add_left n N) _ _ _ a
 refine⟨n+(N+n),?_⟩;unfold oK Rt at h;obtain⟨x,c,b⟩:=AD h;unfold EQ;rw[(AcW hc n).1 _ _ _ _ _ c];exact b
theorem Ao2 {E:Env} {n f:Nat} {as:List AB} {d:AB} (h:EQ E n f as=some d):Db fun m=>EQ E m f as=some d:=by
 have step:∀m,EQ E m f as=some d->EQ E (m+1) f as=some d:=fun m a=>by
  unfold EQ at a⊢;obtain⟨x,c,b⟩:=AD a;rw[(ZZ E m).1 _ _ _ _ _ c];exact b
 refine⟨n,fun m a=>?_⟩
 induction m with
 | zero =>
  have:n=0:=by omega
  subst this;exact h
 | succ m ih =>
  by_cases e:n=m+1
  ·subst e;exact h
  ·exact step m (ih (by omega))
theorem Acx {S:Nat->Type} {X:C1 S} {g:Nat} {F:Option Bool} (c:F=some true) (h:CH X.E (g,[],.bool true)):B6 X g ⟨[],[.bool],fun _=>F⟩:=fun xs r AH=>by
 have a:(some true:Option Bool)=some r:=by rw[<-c];exact AH
 cases a;obtain⟨N,b⟩:=h;exact Ao2 b
end Go.Ab
namespace Go.Ab
abbrev VH:Type:=Nat->List AB->Tr A8->Nat->Option (AB×Tr A8×Nat)
def mT (E:Env) (e:VH) (callH:D5):D5:=fun g as o nx=>(E.fn g).bind fun F=>bif F.can then
  let fs:=as.map fun d=>(BP o.get d).getD d
  let BN:=E9 o (DE o.get (Bm as))
  let R:=reach BN.get 4096 (EP fs) []
  let k:=FO R
  bif Nv R&&(E8 (fun i=>Fc i R) fs&&OG (fun i=>Fc i R) BN.get R)then
   (match e g (Ec (Hd R) fs) (Fv (Hd R) BN.get R) k with
   | some y=>some y
   | none=>(callH g (Ec (Hd R) fs) (Fv (Hd R) BN.get R) k).bind (Hw k)).bind fun y =>
    some (Bk (DT k nx R) y.1,E9 BN (JD (DT k nx R) y.2.1.get (FA 0 y.2.2)),nx+(y.2.2-k))
  else none
 else callH g as o nx
theorem Amd {E:Env} {i:VH} {h h':D5} (hh:GV h h') (f:∀g as o k y,i g as o k=some y->(h' g as o k).bind (Hw k)=some y):GV (mT E i h) (Kq E h'):=fun g as o nx r a=>by
 unfold mT at a;unfold Kq;obtain⟨F,j,a⟩:=AD a;simp only[j,AX];cases hc:F.can with
 | false=>rw[hc]at a;exact hh _ _ _ _ _ a
 | true =>
  rw[hc]at a;simp only[AY]at a⊢;obtain⟨hb,a⟩:=Ad a;obtain⟨y,b,a⟩:=AD a;rw[hb];simp only[AY];have key:(h' g (Ec (Hd (reach (E9 o (DE o.get (Bm as))).get 4096 (EP (as.map fun d=>(BP o.get d).getD d)) [])) (as.map fun d=>(BP o.get d).getD d)) (Fv (Hd (reach (E9 o (DE o.get (Bm as))).get 4096 (EP (as.map fun d=>(BP o.get d).getD d)) [])) (E9 o (DE o.get (Bm as))).get (reach (E9 o (DE o.get (Bm as))).get 4096 (EP (as.map fun d=>(BP o.get d).getD d)) [])) (FO (reach (E9 o (DE o.get (Bm as))).get 4096 (EP (as.map fun d=>(BP o.get d).getD d)) []))).bind (Hw (FO (reach (E9 o (DE o.get (Bm as))).get 4096 (EP (as.map fun d=>(BP o.get d).getD d)) [])))=some y:=by
   split at b
   ·rename_i y' hy;cases b;exact f _ _ _ _ _ hy
   ·obtain⟨x,c,e⟩:=AD b;rw[hh _ _ _ _ _ c];exact e
  obtain⟨x,c,e⟩:=AD key;rw[c,AX,e];exact a
def Mk (E:Env) (call:Nat->List AB->Option AB) (d:VH):Nat->Bool->D5
 | 0,_=>fun _ _ _ _=>none
 | n+1,false=>fun g as o nx=>JF E g (mT E d (JI E call (Mk E call d n false) (Mk E call d n true) n)) g as o nx
 | n+1,true=>P5 E call (Mk E call d n false) (Mk E call d n true) n
theorem AcX {E:Env} {c:Nat->List AB->Option AB} {b:VH} {M:Nat} (hc:Ju c (EQ E M)) (a:∀g as o k y,b g as o k=some y->∀n,M<=n->(Lv E n g as o k).bind (Hw k)=some y) :
  ∀n,GV (Mk E c b n false) (B8 E (n+M) false)/\GV (Mk E c b n true) (B8 E (n+M) true)
 | 0=>⟨fun _ _ _ _ _ h=>by simp[Mk]at h,fun _ _ _ _ _ h=>by simp[Mk]at h⟩
 | n+1=>by
  obtain⟨i,e⟩:=AcX hc a n;have d:Ju c (fun g as=>(B8 E (n+M) false g as .leaf 0).bind fun x=>BP x.2.1.get x.1):=fun g as r h=>M5 E (Nat.le_add_left M n) g as r (hc g as r h);rw[show n+1+M=(n+M)+1 by omega]
  exact⟨mP E (Amd (mB d i e (Nat.le_add_right n M)) fun g as o k y h=>a g as o k y h (n+M) (Nat.le_add_left M n)),mC (E:=E) d i e (Nat.le_add_right n M)⟩
abbrev VK:Type:=Nat×List AB×Tr A8×Nat×(AB×Tr A8×Nat)
def P0 (E:Env) (e:VK):Prop:=Db fun n=>(Lv E n e.1 e.2.1 e.2.2.1 e.2.2.2.1).bind (Hw e.2.2.2.1)=some e.2.2.2.2
def ZI:List VK->VH
 | [],_,_,_,_=>none
 | (f,xs,d,j,y)::l,g,as,o,k=>bif Nat.beq f g&&(Nat.beq j k&&(JK xs as&&d.Mt VP o))then some y else ZI l g as o k
theorem zN {E:Env}:∀{l:List VK},(∀e∈l,P0 E e)->∃M,∀g as o k y,ZI l g as o k=some y->∀n,M<=n->(Lv E n g as o k).bind (Hw k)=some y
 | [],_=>⟨0,fun _ _ _ _ _ h=>by cases h⟩
 | (f,xs,C,j,z)::l,hl=>by
  obtain⟨N,m⟩:=zN (l:=l) fun e p=>hl e (by simp[p])
  obtain⟨M,d⟩:=hl (f,xs,C,j,z) (by simp)
  refine⟨N+M,fun g as o k y h n hn=>?_⟩;simp only[ZI]at h;cases u:Nat.beq f g&&(Nat.beq j k&&(JK xs as&&C.Mt VP o))with
  | true =>
   rw[u]at h;cases h;simp only[Ar]at u;have r:=Al u.1;have c:=Al u.2.1;have i:=L9 u.2.2.1;have q:=Tr.VQ (fun a b=>AcD) u.2.2.2;subst r c i q;exact d n (by omega)
  | false =>
   rw[u]at h;exact m _ _ _ _ _ h n (by omega)
theorem Z6 {E:Env} {l:List (Nat×List AB×AB)} (hl:∀e∈l,CH E e) {u:List VK} (b:∀e∈u,P0 E e) {n f:Nat} {as:List AB} {d:AB} (h:Rt (Mk E (Rn E l n) (ZI u) n false) f as=some d):CH E (f,as,d):=by
 obtain⟨N,j⟩:=iV hl;obtain⟨M,i⟩:=zN b;have hc:Ju (Rn E l n) (EQ E (N+n+M)):=fun g as r a=>by
  unfold Rn at a;cases z:l.any fun e=>Nat.beq e.1 g with
  | true=>rw[z]at a;exact M5 E (by omega) _ _ _ (j _ _ _ a)
  | false=>rw[z]at a;exact M5 E (by omega) _ _ _ a
 refine⟨n+(N+n+M),?_⟩;unfold Rt at h;obtain⟨x,p,c⟩:=AD h;unfold EQ;rw[(AcX hc (fun g as o k y hy m q=>i g as o k y hy m (by omega)) n).1 _ _ _ _ _ p];exact c
theorem Ada {S:Nat->Type} {E:Env} {o:Tr (A3 S)} (h:Mf (fun _ x => !Uh (some x)) o=true):CT E o:=fun i=>by
 cases AA:o.get i with
 | none=>trivial
 | some x=>exact jK (by have:=RY h AA;simpa using this)
theorem AcY {S:Nat->Type} {X:C1 S} {e:Dc S} {F:Dl S e.ts->Option (EU S (e.outs.map (·.ts)))} (f:Fe X e F) {x:Dl S e.ts} {o:EU S (e.outs.map (·.ts))} (j:F x=some o) {s:Ay S} {bs:List (AJ S)} (hs:JL X.E e.head (Ih e.ts x)=some s) (l:Mo s.base 0 e.Du=some bs)
  (a:Mf (fun _ x => !Uh (some x)) s.AM=true) {v:AJ S} {os:Tr (A3 S)} {q:Nat} (b:Lu X.E e.outs o (fun _ t=>some t)=some ⟨Jh 0 [v] .leaf,os,q⟩) :
  P0 X.E (e.g,Av X.T bs,s.AM.BL (BH X.T),s.next,(AI X.T v,os.BL (BH X.T),q)):=by
 obtain⟨z,u,C,i,_,c⟩:=f x o j s bs hs l (Ada a);have h:=i _ (fun _ t=>some t);rw[b]at h;simp only[Bc,Ay.mk.injEq]at h;obtain⟨d,rfl,rfl⟩:=h;have hv:=congrArg (fun t=>Tr.get t 0) d;simp only[Xq]at hv;simp at hv;subst hv;exact c
theorem AoR {E:Env} {Bj:Nat} {F:Ag} {f:Nat->List AB->Option AB} {h y:D5} {n:Nat} {a b u d:Code} {s0 q l j:BV} {r:Option (Ce×BV)} (e:CY E none Bj F f h y n 0 a s0=some (.normal,q)) (i:CY E none Bj F f h y n 0 b q=some (.normal,l)) (c:CY E none Bj F f h y n 0 u l=some (.normal,j)) (g:CY E none Bj F f h y n 0 d j=r):CY E none Bj F f h y n 0 (.seq a (.seq b (.seq u d))) s0=r:=by
 simp only[CY,e,i,c,AX];exact g
theorem Ao9 {E:Env} {g:Nat} {F:Ag} (p:E.fn g=some F) {bs:List AB} {o:Tr A8} {k:Nat} {a b u d:Code} (hb:F.body=.seq a (.seq b (.seq u d))) (c:Nat.ble bs.length F.AU=true) {s0 J I C z:BV} (e:(⟨Kl F.E6 0 bs .leaf,o,k⟩:BV)=s0)
  (h:Db fun n=>CY E none g F (EQ E n) (B8 E n false) (B8 E n true) n 0 a s0=some (.normal,J)) (l:Db fun n=>CY E none g F (EQ E n) (B8 E n false) (B8 E n true) n 0 b J=some (.normal,I)) (f:Db fun n=>CY E none g F (EQ E n) (B8 E n false) (B8 E n true) n 0 u I=some (.normal,C))
  {m:Nat} (q:CY E none g F (EQ E m) (B8 E m false) (B8 E m true) m 0 d C=some (.ret,z)) {y:AB×Tr A8×Nat} (hy:((G6 E z.base.get z.AM.get F.JQ).bind fun vs=>some (Hz vs,z.AM,z.next)).bind (Hw k)=some y):P0 E (g,bs,o,k,y):=by
 obtain⟨n0,M⟩:=h;obtain⟨K,Q⟩:=l;obtain⟨O,U⟩:=f;refine⟨n0+K+O+m,fun n hn=>?_⟩;have i:CY E none g F (EQ E n) (B8 E n false) (B8 E n true) n 0 d C=some (.ret,z):=by
  obtain⟨j,rfl⟩:=Nat.exists_eq_add_of_le (show m<=n by omega)
  exact KD (M5 E (Nat.le_add_right m j)) (US E m j).1 (US E m j).2 (Nat.le_add_right m j) _ _ _ _ q
 have AH:Lv E n g bs o k=(G6 E z.base.get z.AM.get F.JQ).bind fun vs=>some (Hz vs,z.AM,z.next):=by
  show JI E (EQ E n) (B8 E n false) (B8 E n true) n g bs o k=_;unfold JI;rw[p,AX,c,AY,e,hb,AoR (M n (by omega)) (Q n (by omega)) (U n (by omega)) i]
  rfl
 show(Lv E n g bs o k).bind (Hw k)=some y;rw[AH];exact hy
end Go.Ab
