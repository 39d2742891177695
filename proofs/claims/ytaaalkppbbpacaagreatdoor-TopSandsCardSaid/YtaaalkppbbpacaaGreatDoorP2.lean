/- The plain functions of the program and of the document answer alike. -/
import Derived.Test.YtaaalkppbbpacaaGreatDoorP1
set_option linter.unusedSectionVars false
set_option linter.unusedVariables false
set_option linter.unusedSimpArgs false
open Go Go.Ab
namespace Nore
theorem XaW {x lo hi:Int} (h:¬lo<=hi):X7K x lo hi=[]:=by simp[X7K,X8L h]
theorem XaG {x lo hi:Int} (h:lo<=hi):X7K x lo hi=⟨x,lo⟩::X7K x (lo+1) hi:=by simp[X7K,X8l h]
instance:DecidableEq Point:=fun a b =>
 if h:a.X=b.X/\a.Y=b.Y then isTrue (by cases a;cases b;simp only at h;rw[h.1,h.2])else isFalse (fun e=>h (by rw[e];exact⟨rfl,rfl⟩))
def X4q (a b:Point):Int:=a.X*b.X+a.Y*b.Y
def Xbm (a:Point) (r:Int) (c d:Point):Bool :=
 if X4q (X1 d c) (X1 a c)<0 then decide (X4q (X1 a c) (X1 a c)<r*r)
 else if X4q (X1 d c) (X1 a c)>X4q (X1 d c) (X1 d c)then decide (X4q (X1 (X1 a c) (X1 d c)) (X1 (X1 a c) (X1 d c))<r*r)
 else decide (Xj (X1 d c) (X1 a c)*Xj (X1 d c) (X1 a c)<r*r*X4q (X1 d c) (X1 d c))
def X9g (a:Point) (r:Int):Point->Bool->List Point->Bool
 | _,on,[]=>on
 | c,on,d::l=>if 0<=Xj (X1 d c) (X1 a c)then X9g a r d on l else if Xbm a r c d then true else X9g a r d false l
def XaU (s:CtSand) (a:Point) (r:Int):Bool:=X9g a r (s.Hz2.getD (s.Hz2.length-1) P0) true s.Hz2
theorem X8A (p q:Point) (a : -2000000<=p.X/\p.X<=2000000) (d : -2000000<=p.Y/\p.Y<=2000000) (b : -2000000<=q.X/\q.X<=2000000) (c : -2000000<=q.Y/\q.Y<=2000000):X34 p q=some (X4q p q):=by
 rw[X6P];unfold X2F X4q;have m1:=X1I 2000000 2000000 a.1 a.2 b.1 b.2;have m2:=X1I 2000000 2000000 d.1 d.2 c.1 c.2;rw[w64 (x:=p.X*q.X),w64 (x:=p.Y*q.Y),w64]<;>omega
theorem X90 (s:CtSand) (a:Point) (r:Int) (k:X5i s) (g:Bd 10500 a) (hr:0<=r/\r<=5000):X2G ⟨s⟩ a r=some (XaU s a r):=by
 obtain⟨p,h,_,_⟩:=k;rw[X5n];unfold X11 XaU;have m:IntKind.wrap .i64 ((s.Hz2.length:Int)-1)=(s.Hz2.length:Int)-1:=by rw[w64]<;>omega
 have ht:((s.Hz2.length:Int)-1).toNat=s.Hz2.length-1:=by omega
 have l:decide ((0:Int)<=(s.Hz2.length:Int)-1)=true:=by rw[jl];omega
 have o:decide ((s.Hz2.length:Int)-1<(s.Hz2.length:Int))=true:=by rw[jl];omega
 simp only[m,ht,l,o,ju,jB];have c:Bd 10000 (s.Hz2.getD (s.Hz2.length-1) P0):=by
  rw[X0 _ _ _ (by omega)];exact X3G h _ (by omega)
 have rr:=X1I 5000 5000 (a:=r) (b:=r) (by omega) (by omega) (by omega) (by omega)
 have w0:IntKind.wrap .i64 (r*r)=r*r:=by rw[w64]<;>omega
 unfold X2t;have gen:∀(n i:Nat) (last:Point) (on:Bool),i+n=s.Hz2.length->Bd 10000 last →
   Option.bind (Z9t (Xs (↑s.Hz2.length) s.Hz2 a r) ((i:Int),last,on)) (fun o176=>Sum.elim (fun y177=>some y177.snd.fst) (fun y178=>Sum.elim (fun y179=>some y179.snd.fst) (fun y180=>Sum.elim (fun y181=>some y181.snd.fst) (fun y182=>some y182.snd) y180) y178) o176)=some (X9g a r last on (s.Hz2.drop i)):=by
  intro n
  induction n with
  | zero =>
   intro i last on hi f;rw[X2o,jd (by omega)]
   have d1:decide ((i:Int)<↑s.Hz2.length)=false:=by rw[decide_eq_false_iff_not];omega
   simp only[Xs,XD,d1,jA,jm,jw,X9g]
  | succ n ih =>
   intro i last on hi f;have e:i<s.Hz2.length:=by omega
   have bp:=X3G h i e;have bp':=bp;have j:=f;unfold Bd at bp f g;rw[X2o,jb e];simp only[Xs,XD];rw[Int.toNat_natCast,X0 _ _ _ e,X9f i (by omega)]
   have ih1:=fun on=>ih (i+1) s.Hz2[i] on (by omega) bp'
   generalize s.Hz2[i]=d at *;rw[X2p 10000 (by omega) (a:=d.X) ⟨bp.1,bp.2.1⟩ ⟨f.1,f.2.1⟩,X2p 10000 (by omega) (a:=d.Y) bp.2.2 f.2.2,X2p 10500 (by omega) (a:=a.X) ⟨g.1,g.2.1⟩ (by omega),X2p 10500 (by omega) (a:=a.Y) g.2.2 (by omega)]
   rw[X2p 30500 (by omega) (a:=a.X-last.X) (b:=d.X-last.X) (by omega) (by omega),X2p 30500 (by omega) (a:=a.Y-last.Y) (b:=d.Y-last.Y) (by omega) (by omega)]
   rw[X8c 2000000 rfl (by omega) (by omega) (by omega) (by omega),w0]
   rw[X8A ⟨d.X-last.X,d.Y-last.Y⟩ ⟨d.X-last.X,d.Y-last.Y⟩ (by simp only;omega) (by simp only;omega) (by simp only;omega) (by simp only;omega),
    X8A ⟨d.X-last.X,d.Y-last.Y⟩ ⟨a.X-last.X,a.Y-last.Y⟩ (by simp only;omega) (by simp only;omega) (by simp only;omega) (by simp only;omega),
    X8A ⟨a.X-last.X,a.Y-last.Y⟩ ⟨a.X-last.X,a.Y-last.Y⟩ (by simp only;omega) (by simp only;omega) (by simp only;omega) (by simp only;omega),
    X8A ⟨a.X-last.X-(d.X-last.X),a.Y-last.Y-(d.Y-last.Y)⟩ ⟨a.X-last.X-(d.X-last.X),a.Y-last.Y-(d.Y-last.Y)⟩ (by simp only;omega) (by simp only;omega) (by simp only;omega) (by simp only;omega)]
   have d1:decide ((i:Int)<↑s.Hz2.length)=true:=by rw[jl];omega
   have d2:=z0S i;simp only[d1,d2,ju,jB,jm];have l1:=X1I 20000 20500 (a:=d.X-last.X) (b:=a.Y-last.Y) (by omega) (by omega) (by omega) (by omega)
   have l2:=X1I 20000 20500 (a:=d.Y-last.Y) (b:=a.X-last.X) (by omega) (by omega) (by omega) (by omega)
   have q1:=X1I 20000 20000 (a:=d.X-last.X) (b:=d.X-last.X) (by omega) (by omega) (by omega) (by omega)
   have q2:=X1I 20000 20000 (a:=d.Y-last.Y) (b:=d.Y-last.Y) (by omega) (by omega) (by omega) (by omega)
   have eL:(d.X-last.X)*(a.Y-last.Y)-(d.Y-last.Y)*(a.X-last.X)=Xj (X1 d last) (X1 a last):=rfl;have eD:X4q ⟨d.X-last.X,d.Y-last.Y⟩ ⟨d.X-last.X,d.Y-last.Y⟩=X4q (X1 d last) (X1 d last):=rfl;have eW:X4q ⟨d.X-last.X,d.Y-last.Y⟩ ⟨a.X-last.X,a.Y-last.Y⟩=X4q (X1 d last) (X1 a last):=rfl;have eT:X4q ⟨a.X-last.X,a.Y-last.Y⟩ ⟨a.X-last.X,a.Y-last.Y⟩=X4q (X1 a last) (X1 a last):=rfl;have eE:X4q ⟨a.X-last.X-(d.X-last.X),a.Y-last.Y-(d.Y-last.Y)⟩ ⟨a.X-last.X-(d.X-last.X),a.Y-last.Y-(d.Y-last.Y)⟩=X4q (X1 (X1 a last) (X1 d last)) (X1 (X1 a last) (X1 d last)):=rfl;have bD : -800000000<=X4q (X1 d last) (X1 d last)/\X4q (X1 d last) (X1 d last)<=800000000:=by rw[<-eD];unfold X4q;simp only;omega
   have bL : -900000000<=Xj (X1 d last) (X1 a last)/\Xj (X1 d last) (X1 a last)<=900000000:=by rw[<-eL];omega
   rw[eL,eD,eW,eT,eE];have ll:=X1I 900000000 900000000 bL.1 bL.2 bL.1 bL.2;have rd:=X1I 25000000 800000000 (a:=r*r) (b:=X4q (X1 d last) (X1 d last)) (by omega) (by omega) bD.1 bD.2
   have w1:IntKind.wrap .i64 (r*r*1)=r*r:=by rw[Int.mul_one];exact w0
   have w2:IntKind.wrap .i64 (Xj (X1 d last) (X1 a last)*Xj (X1 d last) (X1 a last))=Xj (X1 d last) (X1 a last)*Xj (X1 d last) (X1 a last):=by rw[w64]<;>omega
   have w3:IntKind.wrap .i64 (r*r*X4q (X1 d last) (X1 d last))=r*r*X4q (X1 d last) (X1 d last):=by rw[w64]<;>omega
   rw[w1,w2,w3];simp only[X9g,Xbm]
   by_cases c1:0<=Xj (X1 d last) (X1 a last)
   ·have:decide (Xj (X1 d last) (X1 a last)>=0)=true:=by rw[jl];exact c1
    simp only[this,jB,jm,jz,if_pos c1];exact ih1 on
   ·have:decide (Xj (X1 d last) (X1 a last)>=0)=false:=by rw[decide_eq_false_iff_not];exact c1
    simp only[this,jA,if_neg c1]
    by_cases c2:X4q (X1 d last) (X1 a last)<0
    ·simp only[c2,decide_true,jB,if_true]
     by_cases c3:X4q (X1 a last) (X1 a last)<r*r
     ·simp[c3]
     ·simp only[c3,decide_false,jA,jm,jz,jg,if_false];exact ih1 false
    ·simp only[c2,decide_false,jA,if_false]
     by_cases c4:X4q (X1 d last) (X1 a last)>X4q (X1 d last) (X1 d last)
     ·simp only[c4,decide_true,jB,if_true]
      by_cases c3:X4q (X1 (X1 a last) (X1 d last)) (X1 (X1 a last) (X1 d last))<r*r
      ·simp[c3]
      ·simp only[c3,decide_false,jA,jm,jz,jg,if_false];exact ih1 false
     ·simp only[c4,decide_false,jA,if_false]
      by_cases c3:Xj (X1 d last) (X1 a last)*Xj (X1 d last) (X1 a last)<r*r*X4q (X1 d last) (X1 d last)
      ·simp[c3]
      ·simp only[c3,decide_false,jA,jm,jz,jg,if_false];exact ih1 false
 exact gen s.Hz2.length 0 _ true (by omega) c
theorem X8f {σ ω:Type} (st:σ->Option (σ⊕ω)) (s:σ):Z9t st s=Option.bind (st s) (Sum.elim (fun s'=>Z9t st s') some):=by
 have:=X2o st some s;rw[X1n]at this;rw[this];congr 1;funext o;cases o with
 | inl s'=>exact X1n _
 | inr w=>rfl
def X7y (s:CtSand) (at_:Point) (r:Int) (mv:Point):Bool:=XaU s (X1 at_ mv) r
def X9z (c:Zo) (at_:Point) (r:Int):Bool:=c.Hzb.any fun s=>(X6n s.Hzc).any (X7y s at_ r)
theorem Xb4 (s:CtSand) (at_:Point) (r:Int) (d:X5i s) (c:Bd 10000 at_) (hr:0<=r/\r<=5000) (x y:Int) (e : -500<=x/\x<=500) (hy : -500<=y/\y<=500) :
  X2G ⟨s⟩ ⟨IntKind.wrap .i64 (at_.X-x),IntKind.wrap .i64 (at_.Y-y)⟩ r=some (X7y s at_ r ⟨x,y⟩):=by
 unfold Bd at c;rw[X2p 10000 (by omega) (a:=at_.X) (b:=x) (by omega) (by omega),X2p 10000 (by omega) (a:=at_.Y) (b:=y) (by omega) (by omega)]
 exact X90 s ⟨at_.X-x,at_.Y-y⟩ r d (by unfold Bd;simp only;omega) hr
theorem X9S (s:CtSand) (at_:Point) (r:Int) (b:X5i s) (h:Bd 10000 at_) (hr:0<=r/\r<=5000) (x:Int) (i : -500<=x/\x<=500) :
  ∀(n:Nat) (y:Int) (j:Point),(s.Hzc.Y.Hi+1-y).toNat=n -> -500<=y->∃o,Z9t (W9 x r at_ ⟨s⟩) (y,j)=some o ∧
   (((X7K x y s.Hzc.Y.Hi).any (X7y s at_ r)=true/\∃mv,o=.inl (true,mv))\/((X7K x y s.Hzc.Y.Hi).any (X7y s at_ r)=false/\∃mv,o=.inr mv)):=by
 have d:=X4E b.box;intro n
 induction n with
 | zero =>
  intro y j f hy;refine⟨.inr j,?_,.inr ⟨by rw[XaW (by omega)];rfl,j,rfl⟩⟩
  have d1:decide (y<=s.Hzc.Y.Hi)=false:=by rw[decide_eq_false_iff_not];omega
  rw[X8f];simp only[W9,Wr,d1,jA,jm,jw]
 | succ n ih =>
  intro y j f hy;have a:y<=s.Hzc.Y.Hi:=by omega
  have d1:decide (y<=s.Hzc.Y.Hi)=true:=by rw[jl];exact a
  have e:IntKind.wrap .i64 (y+1)=y+1:=by rw[w64]<;>omega
  rw[X8f,XaG a];simp only[W9,Wr,d1,jB,Xb4 s at_ r b h hr x y i (by omega),jm,e,List.any_cons]
  cases hq:X7y s at_ r ⟨x,y⟩with
  | true=>exact⟨_,rfl,.inl ⟨rfl,_,rfl⟩⟩
  | false =>
   obtain⟨o,c,g⟩:=ih (y+1) ⟨x,y⟩ (by omega) (by omega)
   refine⟨o,c,?_⟩;simpa only[Bool.false_or]using g
theorem X9R (s:CtSand) (at_:Point) (r:Int) (c:X5i s) (k:Bd 10000 at_) (hr:0<=r/\r<=5000) :
  ∀(n:Nat) (x:Int) (j:Point),(s.Hzc.X.Hi+1-x).toNat=n -> -500<=x->∃o,Z9t (W8 r at_ ⟨s⟩) (x,j)=some o ∧
   (((WL x s.Hzc).any (X7y s at_ r)=true/\∃mv,o=.inl (true,mv))\/((WL x s.Hzc).any (X7y s at_ r)=false/\∃mv,o=.inr mv)):=by
 have e:=X4E c.box;intro n
 induction n with
 | zero =>
  intro x j g m;refine⟨.inr j,?_,.inr ⟨by rw[X7x (by omega)];rfl,j,rfl⟩⟩
  have d1:decide (x<=s.Hzc.X.Hi)=false:=by rw[decide_eq_false_iff_not];omega
  rw[X8f];simp only[W8,Wq,d1,jA,jm,jw]
 | succ n ih =>
  intro x j g m;have a:x<=s.Hzc.X.Hi:=by omega
  have d1:decide (x<=s.Hzc.X.Hi)=true:=by rw[jl];exact a
  have f:IntKind.wrap .i64 (x+1)=x+1:=by rw[w64]<;>omega
  obtain⟨o,d,h⟩:=X9S s at_ r c k hr x (by omega) _ s.Hzc.Y.Lo j rfl (by omega)
  rw[X8f,X74 a];simp only[W8,Wq,X3q,d1,jB,d,jm,f,List.any_append];rcases h with⟨b,mv,rfl⟩|⟨b,mv,rfl⟩
  ·exact⟨_,rfl,.inl ⟨by rw[b];rfl,_,rfl⟩⟩
  ·obtain⟨o,l,i⟩:=ih (x+1) mv (by omega) (by omega)
   refine⟨o,l,?_⟩;rw[b];simpa only[Bool.false_or]using i
theorem X7O (c:Zo) (at_:Point) (r:Int) (hc:(X2g c).2.2=0) (q:Bd 10000 at_) (hr:1<=r/\r<=5000) :
  ∃i mv,X5e c at_ r=some (i,mv,X9z c at_ r)/\(X9z c at_ r=false->i=0/\mv=⟨0,0⟩):=by
 obtain⟨w,v⟩:=X6R hc;rw[X6w];unfold X2c X3o;rw[X3v (show r≠0 by omega)]
 simp only[jA];have gen:∀(n i:Nat) (j:Point),i+n=c.Hzb.length->∃o,Z9t (XC (↑c.Hzb.length) r c.Hzb at_) ((i:Int),j)=some o ∧
   (((c.Hzb.drop i).any (fun s=>(X6n s.Hzc).any (X7y s at_ r))=true/\∃k s mv t,o=.inl (true,k,s,mv,t))\/((c.Hzb.drop i).any (fun s=>(X6n s.Hzc).any (X7y s at_ r))=false/\∃mv,o=.inr mv)):=by
  intro n
  induction n with
  | zero =>
   intro i j hi;refine⟨.inr j,?_,.inr ⟨by rw[jd (by omega)];rfl,j,rfl⟩⟩
   have d1:decide ((i:Int)<↑c.Hzb.length)=false:=by rw[decide_eq_false_iff_not];omega
   rw[X8f];simp only[XC,Wp,d1,jA,jm,jw]
  | succ n ih =>
   intro i j hi;have b:i<c.Hzb.length:=by omega
   have d:=v c.Hzb[i] (jo b);have m:=X4E d.box;obtain⟨o,f,e⟩:=X9R c.Hzb[i] at_ r d q (by omega) _ c.Hzb[i].Hzc.X.Lo j rfl (by omega)
   rw[X8f,jb b];have d1:decide ((i:Int)<↑c.Hzb.length)=true:=by rw[jl];omega
   have d2:=z0S i;simp only[XC,Wp,X3p,d1,d2,ju,jB,Int.toNat_natCast,X0 _ _ _ b,X9f i (by omega),f,jm,List.any_cons]
   rcases e with⟨a,mv,rfl⟩|⟨a,mv,rfl⟩
   ·refine⟨_,rfl,.inl ⟨?_,_,_,_,_,rfl⟩⟩;show((WL _ _).any _||_)=true;rw[a];rfl
   ·obtain⟨o,u,p⟩:=ih (i+1) mv (by omega)
    refine⟨o,u,?_⟩;have g:(X6n c.Hzb[i].Hzc).any (X7y c.Hzb[i] at_ r)=false:=a;rw[g];simpa only[Bool.false_or]using p
 obtain⟨o,f,e⟩:=gen c.Hzb.length 0 ⟨0,0⟩ (by omega)
 have l:Z9t (XC (↑c.Hzb.length) r c.Hzb at_) (0,⟨0,0⟩)=some o:=f;rw[l];rw[List.drop_zero]at e;rcases e with⟨a,k,s,mv,t,rfl⟩|⟨a,mv,rfl⟩
 ·refine⟨k,mv,?_,fun h=>?_⟩
  ·show some _=some (_,_,X9z c at_ r);rw[show X9z c at_ r=true from a]
  ·rw[show X9z c at_ r=true from a]at h;cases h
 ·refine⟨0,⟨0,0⟩,?_,fun _=>⟨rfl,rfl⟩⟩;show some _=some (_,_,X9z c at_ r);rw[show X9z c at_ r=false from a]
end Nore
