/- The plain functions of the program and of the document answer alike. -/
import Derived.Test.YtehofdemanfenaaGreatP1
set_option linter.unusedSectionVars false
set_option linter.unusedVariables false
set_option linter.unusedSimpArgs false
open Go Go.Ab
namespace Nore
def X7F (f:ZI) (s:List Nat) (marks insts:List Bool):Prop:=marks.length=f.Hz9.Hz8.length∧insts.length=f.Hz0.length∧(∀ k,k<f.Hz9.Hz8.length→marks.getD k false=s.contains k)∧∀ k,k<f.Hz0.length→insts.getD k false=s.contains (X0 f+k)
theorem X9h (s:List Nat) (i:Nat) (hi:i<s.length):(toI s).getD i 0=(s[i]:Int):=by
 unfold toI;rw [List.getD_eq_getElem?_getD,List.getElem?_map,List.getElem?_eq_getElem hi];rfl
theorem X8G (l:List Bool) (i k:Nat) (hi:i<l.length):(l.set i true).getD k false=if k=i then true else l.getD k false:=by
 rw [List.getD_eq_getElem?_getD,List.getD_eq_getElem?_getD,List.getElem?_set]
 by_cases c:i=k
 ·subst c;simp [hi]
 ·have c':¬ k=i:=fun e=>c e.symm
  simp [c,c']
theorem X8d (n k:Nat):(List.replicate n false).getD k false=false:=by
 rw [List.getD_eq_getElem?_getD,List.getElem?_replicate]
 split<;>rfl
theorem X90 {f:ZI} (hg:XZ f) (s:List Nat) (hs:∀ t∈s,t<X0 f+f.Hz0.length) (hsl:s.length≤1000) :
  ∃ marks insts,X2N (toI s) (0,List.replicate f.Hz0.length false,List.replicate f.Hz9.Hz8.length false)=some (insts,marks)∧X7F f s marks insts:=by
 have hM:=hg.marks
 have hI:=hg.inst
 obtain ⟨w,h1,h2⟩:=X2i (XV (toI s)) s.length (fun i (b:List Bool×List Bool)=>((i:Int),b.1,b.2)) (fun i b=>X7F f (s.take i) b.2 b.1) (fun w=>X7F f s w.2 w.1)
  (fun b hb=>⟨(b.1,b.2),by simp [XV,W3,toI],by rw [List.take_length] at hb;exact hb⟩)
  (fun i b hi hb=>by
   right
   obtain ⟨l1,l2,b1,b2⟩:=hb
   have hi':i<(toI s).length:=by unfold toI;simpa using hi
   have hw:=wS i (by omega)
   have e1:decide ((i:Int)<↑(toI s).length)=true:=by simp;omega
   have e2:=z0S i
   have ht:=hs _ (List.getElem_mem hi)
   obtain ⟨t,htd⟩:∃ t,s[i]=t:=⟨_,rfl⟩
   rw [htd] at ht
   have hgd:(toI s).getD i 0=(t:Int):=by rw [X9h s i hi,htd]
   have htk:s.take (i+1)=s.take i++[t]:=by rw [List.take_succ_eq_append_getElem hi,htd]
   have hc:∀ k,(s.take (i+1)).contains k=((s.take i).contains k||decide (k=t)):=fun k=>by
    rw [htk,Bool.eq_iff_iff,List.contains_iff_mem,Bool.or_eq_true,List.contains_iff_mem,List.mem_append,List.mem_singleton,decide_eq_true_eq]
   simp only [XV,W3,e1,e2,hw,cond_true,Bool.and_self,Int.toNat_natCast,hgd]
   by_cases c:t<X0 f
   ·have hcm:t<f.Hz9.Hz8.length:=c
    have d1:decide ((t:Int)<(b.2.length:Int))=true:=by simp;omega
    have d2:decide ((0:Int)≤(t:Int))=true:=by simp
    have d3:Nat.blt t b.2.length=true:=by rw [Tr.blt_dec];simp;omega
    simp only [d1,d2,d3,cond_true,Bool.and_self]
    refine ⟨(b.1,b.2.set t true),rfl,by simpa using l1,l2,fun k hk => ?_,fun k hk => ?_⟩
    ·rw [X8G _ _ _ (by omega),b1 k hk,hc]
     by_cases e:k=t<;>simp [e]
    ·rw [b2 k hk,hc]
     have:¬ X0 f+k=t:=by omega
     simp [this]
   ·have hcm:¬ t<f.Hz9.Hz8.length:=c
    have hMl:X0 f=f.Hz9.Hz8.length:=rfl
    have d1:decide ((t:Int)<(b.2.length:Int))=false:=by simp;omega
    have hw2:IntKind.wrap .i64 ((t:Int)-(b.2.length:Int))=((t-X0 f:Nat):Int):=by rw [l1,←hMl];rw [w64]<;>omega
    have d2:decide ((0:Int)≤((t-X0 f:Nat):Int))=true:=by simp
    have d3:decide (((t-X0 f:Nat):Int)<(b.1.length:Int))=true:=by simp;omega
    have d4:Nat.blt (t-X0 f) b.1.length=true:=by rw [Tr.blt_dec];simp;omega
    simp only [d1,hw2,d2,d3,d4,cond_true,cond_false,Bool.and_self,Int.toNat_natCast]
    refine ⟨(b.1.set (t-X0 f) true,b.2),rfl,l1,by simpa using l2,fun k hk => ?_,fun k hk => ?_⟩
    ·rw [b1 k hk,hc]
     have:¬ k=t:=by omega
     simp [this]
    ·rw [X8G _ _ _ (by omega),b2 k hk,hc]
     by_cases e:X0 f+k=t
     ·have h1:k=t-X0 f:=by omega
      rw [if_pos h1,e];simp
     ·have h1:¬ k=t-X0 f:=by omega
      rw [if_neg h1];simp [e]) 0 (List.replicate f.Hz0.length false,List.replicate f.Hz9.Hz8.length false) (by omega) ⟨by simp,by simp,fun k _=>by rw [X8d];simp,fun k _=>by rw [X8d];simp⟩
 exact ⟨w.2,w.1,h1,h2⟩
theorem X8C {f:ZI} (hg:XZ f) {l:List Zl} (hl:∀ x∈l,XK f x=0) {s:List Nat} {marks insts:List Bool} (h:X7F f s marks insts) (p:Zu):X6u f l p marks insts=(atN f (X2F f l s) p 0 0).2:=by
 obtain ⟨l1,l2,b1,b2⟩:=h
 rw [Bool.eq_iff_iff,X9U hg]
 unfold X6u
 rw [List.all_eq_true]
 have hnum:∀ i v,i<f.Hz0.length→s.contains (X0 f+i)=false→(Num f (X2F f l s) p 0 0 i v↔Num f (l.filter (X33 f marks)) p 0 0 i v):=fun i v hi hc=>by
  unfold Num X7y
  constructor
  ·rintro ⟨h1,h2⟩
   refine ⟨h1,fun x hx hk he=>h2 x ?_ hk he⟩
   obtain ⟨hx1,hx2⟩:=List.mem_filter.1 hx
   unfold X2F
   rw [List.mem_filter]
   refine ⟨hx1,?_⟩
   unfold X7R
   rw [he,hc]
   unfold X33 at hx2
   cases hL:(Xy f x.Hz1).Lead
   ·obtain ⟨m1,m2⟩:=X4V (hl x hx1) hL
    rw [hL,b1 _ m2] at hx2
    simpa using hx2
   ·rfl
  ·rintro ⟨h1,h2⟩
   refine ⟨h1,fun x hx hk he=>h2 x ?_ hk he⟩
   unfold X2F at hx
   obtain ⟨hx1,hx2⟩:=List.mem_filter.1 hx
   rw [List.mem_filter]
   refine ⟨hx1,?_⟩
   unfold X7R at hx2
   rw [he,hc] at hx2
   unfold X33
   cases hL:(Xy f x.Hz1).Lead
   ·obtain ⟨m1,m2⟩:=X4V (hl x hx1) hL
    rw [hL] at hx2
    rw [b1 _ m2]
    simpa using hx2
   ·rfl
 constructor
 ·intro hh i
  by_cases c:i<f.Hz0.length
  ·have h1:=hh i (List.mem_range.2 c)
   rw [b2 i c] at h1
   cases hc:s.contains (X0 f+i)
   ·rw [hc,Bool.false_or] at h1
    cases hn:X6m f (l.filter (X33 f marks)) p i with
    | nil=>rw [hn] at h1;cases h1
    | cons a r=>exact ⟨a,(hnum i a c hc).2 ((X8M hg _ p i a).1 (by rw [hn];simp))⟩
   ·refine ⟨(X7 f i).Lo,⟨Int.le_refl _,X7U hg i⟩,fun x hx _ he => ?_⟩
    unfold X2F at hx
    have hx2:=(List.mem_filter.1 hx).2
    unfold X7R at hx2
    rw [he,hc] at hx2
    simp at hx2
  ·refine ⟨0,?_,fun x hx _ he => ?_⟩
   ·unfold inS X7
    rw [dif_neg c];simp
   ·exfalso
    have:=(X5v (hl x (X9I x hx))).2
    omega
 ·intro hh i hi
  have c:=List.mem_range.1 hi
  rw [b2 i c]
  cases hc:s.contains (X0 f+i)
  ·obtain ⟨v,hv⟩:=hh i
   have:=(X8M hg _ p i v).2 ((hnum i v c hc).1 hv)
   cases hn:X6m f (l.filter (X33 f marks)) p i with
   | nil=>rw [hn] at this;cases this
   | cons a r=>rfl
  ·rfl
theorem X8U {f:ZI} {l:List Zl} (hs:X6Z f l) (s:List Nat) (hs':∀ t∈s,t<X0 f+f.Hz0.length) (hsl:s.length≤1000):X4g f l (toI s)=some (okW f l s):=by
 have hg:=hs.fix
 have hM:=hg.marks
 have hI:=hg.inst
 rw [X5A];unfold X1T
 simp only [Int.toNat_natCast]
 rw [X9H _ (by omega),X9H _ (by omega)]
 obtain ⟨marks,insts,hb1,hb2⟩:=X90 hg s hs' hsl
 simp only [cond_true]
 rw [hb1]
 simp only [Option.bind_some]
 rw [X8t hg]
 simp only [Option.bind_some]
 have hok:okW f l s=(X45 f).any fun p=>(atN f (X2F f l s) p 0 0).2:=by unfold okW X79;rw [X6E]
 have hbd:∀ p∈X45 f,Bd 4000 p:=fun p hp=>X9O hg hp
 have hgl:(X45 f).length≤1000:=by
  have hh:=hg.half
  have hw0:(X8 f:Int)=2*f.Half+1:=by unfold X8;omega
  have hw1:X8 f≤17:=by omega
  have:∀ (n:Nat) (x:Int),(W0 f x n).length=n*X8 f:=fun n=>by
   induction n with
   | zero=>intro x;simp [W0]
   | succ n ih=>intro x;simp only [W0,List.length_append,X6t,ih,Nat.succ_mul];omega
  have h3:(X45 f).length=X8 f*X8 f:=this _ _
  have h4:X8 f*X8 f≤17*17:=Nat.mul_le_mul hw1 hw1
  omega
 rw [hok]
 generalize X45 f=g at *
 obtain ⟨w,h1,h2⟩:=X2i (XW l g insts f marks) g.length (fun i (_:Unit)=>(i:Int)) (fun i _=>((g.drop i).any fun p=>(atN f (X2F f l s) p 0 0).2)=g.any fun p=>(atN f (X2F f l s) p 0 0).2)
  (fun w=>(w = .inr ()∧(g.any fun p=>(atN f (X2F f l s) p 0 0).2)=false)∨(w = .inl true∧(g.any fun p=>(atN f (X2F f l s) p 0 0).2)=true))
  (fun _ hb=>⟨.inr (),by simp [XW,W4],.inl ⟨rfl,by rw [←hb,List.drop_length];rfl⟩⟩)
  (fun i _ hi hb=>by
   have hw:=wS i (by omega)
   have e1:decide ((i:Int)<↑g.length)=true:=by simp [hi]
   have e2:=z0S i
   have hb':=hbd _ (List.getElem_mem hi)
   rw [List.drop_eq_getElem_cons hi,List.any_cons] at hb
   simp only [XW,W4,e1,e2,hw,cond_true,Bool.and_self,Int.toNat_natCast,X1 _ _ _ hi]
   rw [X80 hg hs.each (by have:=hs.len;omega) (by unfold Bd at *;omega) marks insts hb2.1 hb2.2.1,X8C hg hs.each hb2]
   simp only [Option.bind_some]
   cases hat:(atN f (X2F f l s) g[i] 0 0).2
   ·right
    rw [hat,Bool.false_or] at hb
    exact ⟨(),rfl,hb⟩
   ·left
    rw [hat,Bool.true_or] at hb
    exact ⟨_,rfl,.inr ⟨rfl,hb.symm⟩⟩) 0 () (by omega) rfl
 have h1':X2O l g insts f marks 0=some w:=h1
 rw [h1']
 rcases h2 with ⟨h3,h4⟩|⟨h3,h4⟩
 ·subst h3;rw [h4];rfl
 ·subst h3;rw [h4];rfl
theorem X9a {f:ZI} (hg:XZ f) (L:List (List Nat)) (q:Nat) (hq:q<L.length) (hs:∀ t∈L[q],t<X0 f+f.Hz0.length) (hsl:L[q].length≤1000) :
  X3t (q:Int) (L.map toI) f (0,[],[])=some (X1q f L[q],X1p f L[q]):=by
 have hM:=hg.marks
 have hI:=hg.inst
 obtain ⟨s,hsd⟩:∃ s,L[q]=s:=⟨_,rfl⟩
 rw [hsd] at hs hsl ⊢
 have hgq:(L.map toI).getD q []=toI s:=by rw [X1 _ _ _ (by simpa using hq),List.getElem_map,hsd]
 have q1:decide ((0:Int)≤(q:Int))=true:=by simp
 have q2:decide ((q:Int)<↑(L.map toI).length)=true:=by simp [hq]
 have mk1:∀ (r:List Nat) (t:Nat),X1p f (r++[t])=if decide (X0 f≤t) then X1p f r++[(t:Int)-(X0 f:Int)] else X1p f r:=fun r t=>by
  unfold X1p
  rw [List.filter_append,List.map_append]
  by_cases c:X0 f≤t<;>simp [c]
 have mk2:∀ (r:List Nat) (t:Nat),X1q f (r++[t])=if decide (t<X0 f) then X1q f r++[(t:Int)] else X1q f r:=fun r t=>by
  unfold X1q
  rw [List.filter_append,List.map_append]
  by_cases c:t<X0 f<;>simp [c]
 obtain ⟨w,h1,h2⟩:=X2i (WH (q:Int) (L.map toI) f) s.length (fun i (b:List Int×List Int)=>((i:Int),b.1,b.2)) (fun i b=>b.1.length≤i∧b.2.length≤i∧b.1=X1q f (s.take i)∧b.2=X1p f (s.take i)) (fun w=>w=(X1q f s,X1p f s))
  (fun b hb=>⟨(b.1,b.2),by
   have e:decide ((s.length:Int)<↑(toI s).length)=false:=by unfold toI;simp
   simp only [WH,X14,q1,q2,Bool.and_self,cond_true,Int.toNat_natCast,hgq,e,cond_false],by
   rw [hb.2.2.1,hb.2.2.2,List.take_length]⟩)
  (fun i b hi hb=>by
   right
   obtain ⟨l1,l2,b1,b2⟩:=hb
   have hi':i<(toI s).length:=by unfold toI;simpa using hi
   have hw:=wS i (by omega)
   have e1:decide ((i:Int)<↑(toI s).length)=true:=by simp;omega
   have e2:=z0S i
   have ht:=hs _ (List.getElem_mem hi)
   obtain ⟨t,htd⟩:∃ t,s[i]=t:=⟨_,rfl⟩
   rw [htd] at ht
   have hgd:(toI s).getD i 0=(t:Int):=by rw [X9h s i hi,htd]
   have htk:s.take (i+1)=s.take i++[t]:=by rw [List.take_succ_eq_append_getElem hi,htd]
   have ble:∀ (c:List Int) (d:Int),c.length≤i→Nat.ble ((c.length+[d].length)*(8+1)) 200000000000000=true:=fun c d h=>by
    apply Nat.ble_eq_true_of_le;simp only [List.length_cons,List.length_nil];omega
   have hMl:X0 f=f.Hz9.Hz8.length:=rfl
   simp only [WH,X14,q1,q2,e1,e2,hw,cond_true,Bool.and_self,Int.toNat_natCast,hgq,hgd,ble _ _ l1,ble _ _ l2]
   by_cases c:t<X0 f
   ·have d1:decide ((t:Int)<(f.Hz9.Hz8.length:Int))=true:=by simp;omega
    rw [d1]
    refine ⟨(b.1++[(t:Int)],b.2),rfl,by simp;omega,by simp only;omega,?_,?_⟩
    ·rw [htk,mk2,if_pos (by simpa using c),b1]
    ·rw [htk,mk1,if_neg (by simp;omega),b2]
   ·have d1:decide ((t:Int)<(f.Hz9.Hz8.length:Int))=false:=by simp;omega
    have hw2:IntKind.wrap .i64 ((t:Int)-(f.Hz9.Hz8.length:Int))=(t:Int)-(X0 f:Int):=by rw [←hMl];rw [w64]<;>omega
    simp only [d1,hw2,cond_false,ble _ _ l2,cond_true]
    refine ⟨(b.1,b.2++[(t:Int)-(X0 f:Int)]),rfl,by simp only;omega,by simp;omega,?_,?_⟩
    ·rw [htk,mk2,if_neg (by simpa using c),b1]
    ·rw [htk,mk1,if_pos (by simp;omega),b2]) 0 ([],[]) (by omega) ⟨by simp,by simp,rfl,rfl⟩
 exact h1.trans (by rw [h2])
theorem X9N {L:List (List Nat)} {ok:List Nat→Bool} (q:Nat) (hq:q<L.length):(L.drop q).find? ok=if ok L[q] then some L[q] else (L.drop (q+1)).find? ok:=by
 rw [List.drop_eq_getElem_cons hq,List.find?_cons]
 cases ok L[q]<;>simp
theorem X89 (f:ZI) (l:List Zl):X5h f l=some (if (X21 f l).2=0 then (X1q f (X4d f l),X1p f (X4d f l),0) else ([],[],(X21 f l).2)):=by
 rw [X6p];unfold X2x
 rw [X67]
 simp only [Option.bind_some]
 by_cases h0:(X21 f l).2=0
 ·have hs:=X6h h0
  have hg:=hs.fix
  have hI:=hg.inst
  have ws:=X6Y hg hs.each
  simp only [h0,bne_self_eq_false,cond_false,if_true]
  have hlt:∀ n,∀ s∈XR n (Xx f l),(∀ t∈s,t<X0 f+f.Hz0.length)∧s.length=n:=fun n s hm=>by
   obtain ⟨g1,g2⟩:=(X4I _ _ _).1 hm
   exact ⟨fun t ht=>X7I (g1.subset ht),g2⟩
  have inner:∀ n,n≤1000→X3s l ((XR n (Xx f l)).map toI) f 0=some (match (XR n (Xx f l)).find? (okW f l) with|some s => .inl (0,X1q f s,X1p f s)|none => .inr ()):=fun n hn=>by
   have hL:=hlt n
   have hLlen:(XR n (Xx f l)).length≤10000:=by
    have h1:=X6C (Xx f l) n
    have h2:=X8i hg l 0
    rw [X6X] at h2
    have h3:2 ^ (Xx f l).length≤2 ^ 12:=Nat.pow_le_pow_right (by omega) h2
    omega
   generalize XR n (Xx f l)=L at *
   obtain ⟨w,h1,h2⟩:=X2i (WG l (L.map toI) f) L.length (fun i (_:Unit)=>(i:Int)) (fun i _=>(L.drop i).find? (okW f l)=L.find? (okW f l))
    (fun w=>w=(match L.find? (okW f l) with|some s => .inl (0,X1q f s,X1p f s)|none => .inr ()))
    (fun _ hb=>⟨.inr (),by simp [WG,X13],by rw [←hb,List.drop_length];rfl⟩)
    (fun i _ hi hb=>by
     have hw:=wS i (by omega)
     have e1:decide ((i:Int)<↑(L.map toI).length)=true:=by simp [hi]
     have e2:=z0S i
     have hgq:(L.map toI).getD i []=toI L[i]:=by rw [X1 _ _ _ (by simpa using hi),List.getElem_map]
     obtain ⟨g1,g2⟩:=hL _ (List.getElem_mem hi)
     rw [X9N i hi] at hb
     simp only [WG,X13,e1,e2,hw,cond_true,Bool.and_self,Int.toNat_natCast,hgq]
     rw [X8U hs _ g1 (by omega)]
     simp only [Option.bind_some]
     cases hok:okW f l L[i]
     ·right
      rw [hok] at hb
      exact ⟨(),rfl,by simpa using hb⟩
     ·left
      rw [hok] at hb
      simp only [if_true] at hb
      simp only [Bool.not_true,cond_false]
      rw [X9a hg L i hi g1 (by omega)]
      exact ⟨_,rfl,by rw [←hb]⟩) 0 () (by omega) rfl
   exact h1.trans (by rw [h2])
  have outer:∀ (k n:Nat) (s:List Nat),X4N (okW f l) (Xx f l) n k=some s→n+k=f.Hz0.length+1→Z8N (X1U l f) (n:Int)=some (.inl (0,X1q f s,X1p f s)):=fun k=>by
   induction k with
   | zero=>intro n s h;cases h
   | succ k ih =>
    intro n s h hk
    rw [ZgL]
    have e1:decide ((n:Int)≤(f.Hz0.length:Int))=true:=by simp;omega
    have hw:=wS n (by omega)
    simp only [X1U,X24,e1,hw,cond_true]
    rw [X9t hs n (by omega)]
    simp only [Option.bind_some]
    rw [inner n (by omega)]
    unfold X4N at h
    cases hf:(XR n (Xx f l)).find? (okW f l) with
    | some r=>rw [hf] at h;cases h;rfl
    | none =>
     rw [hf] at h
     simp only [Option.bind_some,Sum.elim_inr]
     exact ih (n+1) s h (by omega)
  have hr:=outer (f.Hz0.length+1) 0 _ ws.first (by omega)
  have hr':X3r l f 0=some (.inl (0,X1q f (X4d f l),X1p f (X4d f l))):=hr
  rw [hr']
  simp
 ·simp [h0,X1A h0]
theorem X7K (f:ZI) (l:List Zl):X3h f l=some true:=by
 rw [X4T];unfold WV
 rw [X85,X89]
 simp only [Option.bind_some]
 have hb:∀ a:List Int×List Int×Int,a=(if (X21 f l).2=0 then (X1q f (X4d f l),X1p f (X4d f l),0) else ([],[],(X21 f l).2))→a.1.length≤1000∧a.2.1.length≤1000:=fun a ha=>by
  split at ha
  ·rename_i h0
   have hs:=X6h h0
   have ws:=X6Y hs.fix hs.each
   have hln:=X9A f (X4d f l)
   have hul:=X9K hs.fix l
   have hwl:=ws.sub.length_le
   subst ha
   simp only;omega
  ·subst ha;simp
 obtain ⟨b1,b2⟩:=hb _ rfl
 rw [X8e _ (by omega)]
 simp only [Option.bind_some,cond_true]
 rw [X8e _ (by omega)]
 simp
end Nore
