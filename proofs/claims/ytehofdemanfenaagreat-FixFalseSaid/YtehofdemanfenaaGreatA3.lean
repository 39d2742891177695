/- What the code of the program comes to on plain values. -/
import Derived.Test.YtehofdemanfenaaGreatA2
set_option linter.unusedSectionVars false
set_option linter.unusedVariables false
set_option linter.unusedSimpArgs false
namespace Go.Ab
open Go.RowKit
def ZgM:DV→Value→Bool
 | .bool a,.bool b=>a==b
 | .int k a,.int k' b=>k==k'&&a==b
 | .str a,.string b=>a==b
 | .nilp,.pointer none=>true
 | .nils,.slice none 0 0=>true
 | .nilmap,.map none=>true
 | .nilfn,.nilFunc=>true
 | .nilif,.nilIface=>true
 | _,_=>false
def Ze6:List DV→List Value→Bool
 | [],[]=>true
 | d::ds,v::vs=>ZgM d v&&Ze6 ds vs
 | _,_=>false
theorem Zc3 {d:DV} {v:Value} (h:ZgM d v=true):(∀ β G,Rep β G d v)∧Zb d=true∧ZA d=true:=by
 unfold ZgM at h
 split at h
 ·have:=eq_of_beq h;subst this;exact ⟨fun _ _=>ZL.2 rfl,rfl,rfl⟩
 ·rw [Bool.and_eq_true] at h
  have h1:=eq_of_beq h.1
  have h2:=eq_of_beq h.2
  subst h1 h2;exact ⟨fun _ _=>ZF.2 rfl,rfl,rfl⟩
 ·rename_i a b
  rw [Z89] at h
  have:=of_decide_eq_true h
  subst this;exact ⟨fun _ _=>YY.2 rfl,rfl,rfl⟩
 ·exact ⟨fun _ _=>ZfS.2 rfl,rfl,rfl⟩
 ·exact ⟨fun _ _=>Z2k.2 rfl,rfl,rfl⟩
 ·exact ⟨fun _ _=>Z5T.2 rfl,rfl,rfl⟩
 ·exact ⟨fun _ _=>by unfold Rep;rfl,rfl,rfl⟩
 ·exact ⟨fun _ _=>by unfold Rep;rfl,rfl,rfl⟩
 ·cases h
theorem Za0:∀ {ds:List DV} {vs:List Value},Ze6 ds vs=true→(∀ β G,Zf β G ds vs)∧Z9 ds=true∧ds.all ZA=true
 | [],[],_=>⟨fun _ _=>Zl.2 rfl,rfl,rfl⟩
 | d::ds,v::vs,h=>by
  simp only [Ze6,Bool.and_eq_true] at h
  obtain ⟨h1,h2,h3⟩:=Zc3 h.1
  obtain ⟨h4,h5,h6⟩:=Za0 h.2
  exact ⟨fun β G=>Zd.2 ⟨v,vs,rfl,h1 β G,h4 β G⟩,by simp [Z9,h2,h5],by simp only [List.all_cons,h3,h6,Bool.and_self]⟩
 | [],_::_,h=>by cases h
 | _::_,[],h=>by cases h
def ZaM:List (Nat×Nat)→List (Nat×Nat)→Bool
 | [],[]=>true
 | (a,b)::l,(c,d)::m=>Nat.beq a c&&Nat.beq b d&&ZaM l m
 | _,_=>false
theorem Z9T:∀ {l m:List (Nat×Nat)},ZaM l m=true→l=m
 | [],[],_=>rfl
 | (a,b)::l,(c,d)::m,h=>by
  simp only [ZaM,Bool.and_eq_true] at h
  have h1:=Nat.eq_of_beq_eq_true h.1.1
  have h2:=Nat.eq_of_beq_eq_true h.1.2
  have h3:=Z9T h.2
  subst h1 h2 h3;rfl
 | [],_::_,h=>by cases h
 | _::_,[],h=>by cases h
def ZgY (P:Program) (t:TypeId) (k:TK):Bool :=
 match k,P.underlying t with
 | .bool,some .bool=>true
 | .int k,some (.int k')=>k==k'
 | .string,some .string=>true
 | .struct fs,some (.struct fields)=>ZaM (fields.toList.map fun f=>(f.type,f.offset)) fs&&(fields.toList.mapM (fun f=>(P.info? f.type).map fun i=>(f.offset,i.size))).isSome
 | .array n e,some (.array n' e')=>Nat.beq n n'&&Nat.beq e e'
 | .slice e,some (.slice e')=>Nat.beq e e'
 | .map k e,some (.map k' e')=>Nat.beq k k'&&Nat.beq e e'
 | .ptr e,some (.pointer e')=>Nat.beq e e'
 | .func,some (.func _ _ _)=>true
 | .iface,some (.interface _)=>true
 | _,_=>false
def ZdU (P:Program) (t:TypeId) (m:String) (g:Nat):Bool:=match P.info? t with
 | some i=>(match i.methods.find? (·.name==m) with
  | some mt=>mt.path.isEmpty&&(match mt.func,P.underlying t with
   | some (f,pr),some (.pointer _)=>Nat.beq f g&&pr
   | some (f,pr),some _=>Nat.beq f g && !pr
   | _,_=>false)
  | none=>false)
 | none=>false
def ZaD (P:Program) (t:TypeId):List (String×Nat)→Bool
 | []=>true
 | (m,g)::l=>ZdU P t m g&&ZaD P t l
theorem ZfD {P:Program} {t:TypeId} {m:String} {g:Nat} (h:ZdU P t m g=true) (v:Value) (args:Array Value) (w:World):(callMethod (.iface t v) m args).run P w=(callFunc g (#[v]++args)).run P w:=by
 unfold ZdU at h
 split at h
 ·rename_i i hi
  split at h
  ·rename_i mt hm
   simp only [Bool.and_eq_true] at h
   obtain ⟨hp,h⟩:=h
   have hpath:mt.path.toList=[]:=by
    have:mt.path = #[]:=by simpa using hp
    rw [this]
   have hmeth:∀ fuel,(method (fuel+1) t v m).run P w = .ok (g,v) w:=fun fuel=>by
    unfold method
    rw [Sem.run_bind]
    have hti:(typeInfo t).run P w = .ok i w:=by simp [typeInfo,hi]
    rw [hti]
    simp only [Result.andThen_ok,hm]
    rw [hpath]
    simp only [follow,pure_bind]
    split at h
    ·rename_i f pr e hfn hu
     simp only [Bool.and_eq_true] at h
     have hg:=Nat.eq_of_beq_eq_true h.1
     rw [hfn]
     simp only
     rw [Sem.run_bind]
     unfold receiverAt
     rw [Sem.run_bind,Go.run_underlying hu w]
     simp only [Result.andThen_ok,h.2,Place.get,Sem.run_pure,hg]
    ·rename_i f pr dd hne hfn hu
     simp only [Bool.and_eq_true,Bool.not_eq_true'] at h
     have hg:=Nat.eq_of_beq_eq_true h.1
     rw [hfn]
     simp only
     rw [Sem.run_bind]
     unfold receiverAt
     rw [Sem.run_bind,Go.run_underlying hu w]
     cases dd<;>first|(simp only [Result.andThen_ok,h.2,Place.get,Sem.run_pure,hg];done)|exact absurd rfl (hne _)
    ·cases h
   unfold callMethod
   simp only
   rw [Sem.run_bind,show (program).run P w = .ok P w from rfl]
   simp only [Result.andThen_ok]
   rw [Sem.run_bind,show P.types.size+Made.depth=(P.types.size+99)+1 from rfl,hmeth]
   rfl
  ·cases h
 ·cases h
theorem Z9N {P:Program} {t:TypeId}:∀ {l:List (String×Nat)},ZaD P t l=true→∀ {m:String} {g:Nat},Z70 m l=some g→ZdU P t m g=true
 | [],_,_,_,h=>by cases h
 | (n,f)::l,hl,m,g,h=>by
  simp only [ZaD,Bool.and_eq_true] at hl
  unfold Z70 at h
  cases hq:(n==m) with
  | true =>
   rw [hq] at h
   simp only [cond_true,Option.some.injEq] at h
   have:=eq_of_beq hq
   subst this h
   exact hl.1
  | false=>rw [hq] at h;exact Z9N hl.2 h
def Zg6 (P:Program) (t:TypeId) (ti:TI):Bool :=
 (match P.info? t with
  | some i=>Nat.beq i.size ti.size&&Nat.beq i.bytes ti.bytes&&(match i.zero with
   | some z=>Nat.beq z.cells.size ti.size&&Ze6 ti.zero z.cells.toList&&(bif ti.isAgg then (match z with | .agg _=>true|_=>false) else (match ti.zero with|[d]=>ZgM d z|_=>false))
   | none=>false)
  | none=>false) &&
 (!ti.eqOk||(Z1R P 64 t ti.zero&&(match P.underlying t with|some (.struct _)=>true|some (.array _ _)=>true|_=>false) && !P.eqGuardType P.depth t)) &&
 ZgY P t ti.k&&(!ti.keyOk||(Z9P P 64 t&&Z1R P 64 t ti.zero&&(match P.underlying t with|some (.struct _)=>true|_=>false)))&&ZaD P t ti.meths
theorem ZgU {P:Program} {t:TypeId} {ti:TI} (h:Zg6 P t ti=true):ZN P t ti:=by
 unfold Zg6 at h
 simp only [Bool.and_eq_true] at h
 obtain ⟨⟨⟨⟨h1,h2⟩,h3⟩,h4⟩,h5⟩:=h
 cases hi:P.info? t with
 | none=>rw [hi] at h1;cases h1
 | some i =>
  rw [hi] at h1
  simp only [Bool.and_eq_true] at h1
  obtain ⟨⟨a1,a2⟩,a3⟩:=h1
  cases hz:i.zero with
  | none=>rw [hz] at a3;cases a3
  | some z =>
   rw [hz] at a3
   simp only [Bool.and_eq_true] at a3
   obtain ⟨⟨b1,b2⟩,b3⟩:=a3
   obtain ⟨c1,c2,c3⟩:=Za0 b2
   refine ⟨⟨i,z,hi,Nat.eq_of_beq_eq_true a1,Nat.eq_of_beq_eq_true a2,hz,Nat.eq_of_beq_eq_true b1,c1⟩,c3,fun he => ?_,c2,fun hna d hd i' z' hi' hz' β G => ?_,fun hna => ?_,fun ha i' z' hi' hz' => ?_,fun m g hm v args w=>ZfD (Z9N h5 hm) v args w,fun hko xs hkx b β G vx w hrx => ?_,?_⟩
   ·rw [he] at h2
    simp only [Bool.not_true,Bool.false_or,Bool.and_eq_true,Bool.not_eq_true'] at h2
    obtain ⟨⟨d1,d2⟩,d3⟩:=h2
    refine ⟨fun xs ys r hr hx hy β G vx vy w hrx hry => ?_,d3⟩
    have hv:∀ vs,YU P t vs = .agg vs.toArray:=fun vs=>by
     unfold YU
     cases hu:P.underlying t with
     | none=>rw [hu] at d2;cases d2
     | some dd=>rw [hu] at d2;cases dd<;>first|rfl|cases d2
    have:=(ZdE (P:=P) (β:=β) (G:=G) 64).1 t ti.zero d1 10000 (by omega) xs ys r vx vy w hr hx hy hrx hry
    rw [hv,hv] at this
    exact this
   ·rw [hi'] at hi;cases hi
    rw [hz'] at hz;cases hz
    rw [hna,hd] at b3
    exact (Zc3 (by simpa using b3)).1 β G
   ·rw [hna] at b3
    simp only [cond_false] at b3
    split at b3
    ·rename_i e;rw [e];rfl
    ·cases b3
   ·rw [hi'] at hi;cases hi
    rw [hz'] at hz;cases hz
    rw [ha] at b3
    simp only [cond_true] at b3
    split at b3
    ·exact ⟨_,rfl⟩
    ·cases b3
   ·rw [hko] at h4
    simp only [Bool.not_true,Bool.false_or,Bool.and_eq_true] at h4
    obtain ⟨⟨e1,e2⟩,e3⟩:=h4
    have hv:YU P t vx = .agg vx.toArray:=by
     unfold YU
     split at e3
     ·rename_i e;rw [e]
     ·cases e3
    have:=ZbK (P:=P) (β:=β) (G:=G) b 64 t e1 64 ti.zero e2 9936 xs vx w hkx hrx
    rw [hv] at this
    exact this
   ·unfold ZgY at h3
    cases hu:P.underlying t with
    | none=>rw [hu] at h3;cases hk:ti.k<;>rw [hk] at h3<;>cases h3
    | some dd =>
     rw [hu] at h3
     cases hk:ti.k with
     | bool=>rw [hk] at h3;cases dd<;>first|rfl|cases h3
     | int k=>rw [hk] at h3;cases dd<;>first|(cases eq_of_beq h3;rfl)|cases h3
     | string=>rw [hk] at h3;cases dd<;>first|rfl|cases h3
     | struct fs =>
      rw [hk] at h3
      cases dd with
      | struct fields =>
       simp only [Bool.and_eq_true] at h3
       exact ⟨fields,rfl,Z9T h3.1,Option.isSome_iff_exists.1 h3.2⟩
      | _=>cases h3
     | array n e =>
      rw [hk] at h3
      cases dd with
      | array n' e' =>
       simp only [Bool.and_eq_true] at h3
       have h4:=Nat.eq_of_beq_eq_true h3.1
       have h5:=Nat.eq_of_beq_eq_true h3.2
       subst h4 h5;rfl
      | _=>cases h3
     | slice e =>
      rw [hk] at h3
      cases dd with
      | slice e' =>
       have h5:=Nat.eq_of_beq_eq_true h3
       subst h5;rfl
      | _=>cases h3
     | map k e =>
      rw [hk] at h3
      cases dd with
      | map n' e' =>
       simp only [Bool.and_eq_true] at h3
       have h4:=Nat.eq_of_beq_eq_true h3.1
       have h5:=Nat.eq_of_beq_eq_true h3.2
       subst h4 h5;rfl
      | _=>cases h3
     | ptr e =>
      rw [hk] at h3
      cases dd with
      | pointer e' =>
       have h5:=Nat.eq_of_beq_eq_true h3
       subst h5;rfl
      | _=>cases h3
     | func=>rw [hk] at h3;cases dd<;>first|exact ⟨_,_,_,rfl⟩|cases h3
     | iface=>rw [hk] at h3;cases dd<;>first|exact ⟨_,rfl⟩|cases h3
     | other=>rw [hk] at h3;cases h3
def ZcC {α:Type} (p:Nat→α→Bool) (t:Tr α):Bool:=(t.tm (fun k x=>bif p k x then some (none:Option α) else none) 1 0).isSome
theorem Z5Y {α:Type} {p:Nat→α→Bool} {t:Tr α} (h:ZcC p t=true) {k:Nat} {x:α} (hk:t.get k=some x):p k x=true:=by
 unfold ZcC at h
 obtain ⟨t',ht⟩:=Option.isSome_iff_exists.1 h
 rcases Tr.tm_get1 ht k with ⟨h1,_⟩|⟨x',y,h1,h2,_⟩
 ·rw [hk] at h1;cases h1
 ·rw [hk] at h1;cases h1
  exact (Z2 h2).1
theorem Zev {P : Program} {f : FuncId} {fn : Func} {c : Code} (hf : P.funcs[f]? = some fn) (hb : fn.body = some c) (hn : (fn.name == "runtime.NumGoroutine") = false) : Z80 P f := fun args w => by
 have hn' : ¬ fn.name = "runtime.NumGoroutine" := by simpa using hn
 unfold callFunc
 simp [hf,hb,hn']
def Zf2 {α:Type} (p:Nat→α→Prop):Tr α→Nat→Nat→Prop
 | .leaf,_,_=>True
 | .node l v r,a,b=>Zf2 p l (2*a) (a+b)∧(match v with|some x=>p b x|none=>True)∧Zf2 p r (2*a) (2*a+b)
theorem Z84 {α:Type} {p:Nat→α→Prop}:∀ {t:Tr α} {a b:Nat},Zf2 p t a b→∀ {k:Nat} {x:α},t.get k=some x→p (a*k+b) x
 | .leaf,_,_,_,k,x,h=>by cases h
 | .node l v r,a,b,h,k,x,hk=>by
  rw [Tr.get_node] at hk
  obtain ⟨h1,h2,h3⟩:=h
  by_cases e0:k=0
  ·rw [if_pos e0] at hk;subst e0 hk;simpa using h2
  ·rw [if_neg e0] at hk
   by_cases e1:k % 2=1
   ·rw [if_pos e1] at hk
    have:=Z84 h1 hk
    rwa [show 2*a*(k / 2)+(a+b)=a*k+b by
     have:k=2*(k / 2)+1:=by omega
     generalize k / 2=m at this;subst this
     rw [Nat.mul_add,←Nat.mul_assoc,Nat.mul_comm a 2];omega] at this
   ·rw [if_neg e1] at hk
    have:=Z84 h3 hk
    rwa [show 2*a*(k / 2-1)+(2*a+b)=a*k+b by
     have:k=2*(k / 2-1)+2:=by omega
     generalize k / 2-1=m at this;subst this
     rw [Nat.mul_add,←Nat.mul_assoc,Nat.mul_comm a 2];omega] at this
theorem Zek {α:Type} {p:Nat→α→Prop} {t:Tr α} (h:Zf2 p t 1 0) {k:Nat} {x:α} (hk:t.get k=some x):p k x:=by
 have:=Z84 h hk;simpa using this
end Go.Ab
