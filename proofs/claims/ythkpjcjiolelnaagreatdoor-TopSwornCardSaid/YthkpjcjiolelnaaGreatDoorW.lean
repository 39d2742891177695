/- The row TopSworn: the call returns true whatever the input, and the input reads as it did. No condition. -/
import Derived.Test.YthkpjcjiolelnaaGreatDoorRows
import Derived.Test.YthkpjcjiolelnaaGreatDoorY
import Derived.WalkKit
import Derived.ProofKit
import Derived.OpenShut
import Derived.Below
import Derived.ChangeSame
import Derived.ReadAgain
import Derived.ChangeBears
import Derived.Test.YthkpjcjiolelnaaGreatDoorTie
import Derived.Test.YthkpjcjiolelnaaGreatDoorCards
import Derived.SizedLaws
import Derived.LaidMore
import Derived.Lay
import Derived.SevenTiedAt
import Derived.Stop.Joined
import Derived.MakeChecks
import Derived.Test.YthkpjcjiolelnaaGreatDoorP1
import Derived.Test.YthkpjcjiolelnaaGreatDoorC2
set_option linter.unusedSectionVars false
set_option linter.unusedVariables false
set_option linter.unusedSimpArgs false
namespace Go.Proofs.YthkpjcjiolelnaaGreatDoor
open Go.ChangeShapes Go.WideShapes Go.ChangeAt Go.RowKit Go.Ab Nore
section
variable {H:Type} {enc:TypeId×Value->H} {P:Program}
theorem AsN {f:Func} {s:ChangeSpec} {apart fresh handsOn again:Bool} {W W':World} {args:Array Value} {v:Value} {ds gs:List (DataW H)} {before pa pv:List MemPlace}
  (hW:DataW.Whole enc P f.params.toList s.vars apart W args.toList ds gs before)
  (hres:∀(b:Nat) (sp:Nat->Bool) (hd:Bool),DataW.TrodAll enc P W' b sp hd f.resultTypes.toList (v.resultList f.resultTypes.size) (s.fn H (ds++gs)).results [])
  (hargs:∀sp:Nat->Bool,(∀p∈before,sp p.block=true)->DataW.TrodAll enc P W' 0 sp true f.params.toList args.toList (s.fn H (ds++gs)).args pa)
  (hvars:∀sp:Nat->Bool,(∀p∈before,sp p.block=true)->DataW.TrodVars enc P W' sp s.vars (s.fn H (ds++gs)).vars pv)
  (hps:before=pa++pv) (hb:Below W.heap.size W W')
  (hok:∀(j:Nat) (t:TypeId) (r:Value),f.resultTypes[j]? = some t->(v.resultList f.resultTypes.size)[j]? = some r->Value.okWide P W' .any 0 t r) :
  s.post enc P f apart fresh handsOn again W args v W':=by
 have hlt:∀p∈before,p.block<W.heap.size:=fun p hp=>hW.lt p hp;have hold:∀p∈before,(fun b=>decide (b<W.heap.size)) p.block=true:=fun p hp=>by simpa using hlt p hp
 refine⟨ds,gs,before,[],pa,pv,hW,hres _ _ _,hargs _ hold,hvars _ hold,World.keptBut_mono (fun p hp=>⟨hp,?_⟩) (hb.frame (· ∈ before)),fun _=>?_⟩
 ·rw[hps,List.mem_append]at hp;exact Or.inr hp
 ·obtain⟨_,_,_,_,_,hz,hn⟩:=hW;refine⟨hok,_,_,([]++pa)++pv,⟨[]++pa,pv,trodAll_append (hargs _ (fun _ _=>rfl)) (hres _ _ _),hvars _ (fun _ _=>rfl),rfl,?_,?_⟩,?_⟩
  ·intro b off hp;have hin:MemPlace.cell b off∈before:=by rw[hps];simpa using hp
   rw[hb.frozen (hlt _ hin)];exact hz b off hin
  ·intro ha;have:=hn ha;rw[hps]at this;simpa using this
  ·intro p hp _;rw[hps];simpa using hp
end
theorem ApA (t:Az) (x:B1 Nore.S t):BW (Ck Nore.T t x)=true:=by
 cases t with
 | bool=>simp[Ck,BW]
 | int k=>simp[Ck,BW]
 | str=>simp[Ck,BW]
 | AR t=>simp[Ck,BW]
 | arr n t=>simp only[Ck,BW];exact N1 (IZ tok t n x)
 | st i=>simp only[Ck,BW];exact N1 (tok.plain i x)
theorem Ade:∀(ts:List Az) (x:Gu Nore.S ts),B4 (Jf Nore.T ts x)=true
 | [],_=>by simp[Jf,B4]
 | t::ts,x=>by simp only[Jf,B4,ApA,Ade ts,Bool.and_self]
theorem own:ownKnob Tryz.prog.godebug=none:=by kernel_rfl
theorem laidOut:laidOutB Tryz.prog=true:=by kernel_rfl
theorem AAA:mapsRowed Tryz.prog=true:=by kernel_rfl
theorem full:((List.range Tryz.prog.types.size).all fun t=>match Tryz.prog.underlying t with|some (.slice e)=>decide (0<Tryz.prog.cellsOf e)|_=>true)=true:=by kernel_rfl
section
variable {H:Type} {enc:TypeId×Value->H}
set_option maxRecDepth 100000 in
theorem carry {W W':World} {ts:List TypeId}:∀{vs:List Value} {ds:List (DataW H)} {AP:List MemPlace},DataW.TrodAll enc Tryz.prog W 0 (fun _=>true) true ts vs ds AP->(∀p∈AP,W.sameAt W' p)->DataW.TrodAll enc Tryz.prog W' 0 (fun _=>true) true ts vs ds AP:=by
 induction ts with
 | nil =>
  intro vs ds AP h _;obtain⟨rfl,rfl,rfl⟩:=trodAll_nil h;exact rfl
 | cons t ts ih =>
  intro vs ds AP h hs;obtain⟨v,vs,d,ds,p,q,rfl,rfl,rfl,h1,h2⟩:=trodAll_cons h;obtain⟨n,hn⟩:=h1;exact⟨p,q,⟨n,DataW.trod_carry n _ _ _ hn (fun x hx=>hs x (List.mem_append_left _ hx))⟩,ih h2 (fun x hx=>hs x (List.mem_append_right _ hx)),rfl⟩
set_option maxRecDepth 100000 in
theorem As5 {W W':World} {ts:List TypeId} {vs:List Value} {ds:List (DataW H)} {AP:List MemPlace} (hts:(ts.all fun t=>decide (t<Tryz.prog.types.size))=true) (h:DataW.TrodAll enc Tryz.prog W 0 (fun _=>true) true ts vs ds AP)
  (hb:Below W.heap.size W W') (hlt:∀p∈AP,p.block<W.heap.size) (sp:Nat->Bool) (hsp:∀p∈AP,sp p.block=true):DataW.TrodAll enc Tryz.prog W' 0 sp true ts vs ds AP :=
 DataW.TrodAll.respare (T:=fun t=>t<Tryz.prog.types.size) (kids_rows laidOut AAA) (fun t e ht hu=>slices_full_of Tryz.prog full t e ht hu)
  (fun t ht=>by have:=List.all_eq_true.1 hts t ht;simpa using this) (carry h (fun p hp=>hb.same (hlt p hp))) hsp
/-! Bounds of what is read. -/
theorem oQ {P:Program} {p:Nat->Bool}:∀{ts:List TypeId} {ds:List (DataW H)},(DataW.weightsEach P ts ds).all p=true->∀(j:Nat) t d,ts[j]? = some t->ds[j]? = some d->(DataW.weights P t d).all p=true
 | [],_,_,j,t,d,h1,_=>by simp at h1
 | _::_,[],_,j,t,d,_,h2=>by simp at h2
 | a::ts,b::ds,h,j,t,d,h1,h2=>by
  unfold DataW.weightsEach at h;rw[List.all_append,Bool.and_eq_true]at h;cases j with
  | zero=>simp only[List.getElem?_cons_zero,Option.some.injEq]at h1 h2;subst h1;subst h2;exact h.1
  | succ j=>exact oQ h.2 j t d (by simpa using h1) (by simpa using h2)
theorem oM {P:Program} {p:Nat->Bool} {e:TypeId}:∀{ds:List (DataW H)},(DataW.weightsAll P e ds).all p=true->∀d,d∈ds->(DataW.weights P e d).all p=true
 | [],_,d,h=>by cases h
 | b::ds,h,d,hd=>by
  unfold DataW.weightsAll at h;rw[List.all_append,Bool.and_eq_true]at h;rcases List.mem_cons.1 hd with rfl|hd
  ·exact h.1
  ·exact oM h.2 d hd
theorem Apj:Rw (H:=H) Tryz.prog X.code Adq (fun t d=>(DataW.weights Tryz.prog t d).all (· <= reachBytes)=true) where
 slice:=fun t e elems spare c hc h hw hB=>by
  unfold DataW.weights at hB;rw[h]at hB;simp only[List.all_cons,List.all_append,Bool.and_eq_true,decide_eq_true_eq]at hB;refine⟨?_,fun d hd=>oM hB.2.1 d hd⟩;have h1:Ps c<=Tryz.prog.bytesOf e:=by
   have:=RY (p:=fun e c=>Nat.beq (Tryz.prog.bytesOf e) 0||Nat.ble (Ps c) (Tryz.prog.bytesOf e)) AAE hc;simp only[Bool.or_eq_true]at this;rcases this with h0|h0
   ·have:=Nat.eq_of_beq_eq_true h0;omega
   ·exact Nat.le_of_ble_eq_true h0
  have h2:0<Ps c:=by unfold Ps;split<;>omega
  unfold Adq;rw[Nat.le_div_iff_mul_le h2];have h3:elems.length*Ps c<=(elems.length+spare.length)*Tryz.prog.bytesOf e:=Nat.mul_le_mul (by omega) h1
  omega
 struct:=fun t fs parts h hB j f d hf hd=>by
  unfold DataW.weights at hB;rw[h]at hB;exact oQ hB j f.type d (by simp[hf]) hd
 array:=fun t n e parts h hB d hd=>by
  unfold DataW.weights at hB;rw[h]at hB;exact oM hB d hd
theorem Z7:∀ds:List (DataW H),ds.length<=Rows.uptoBulkAll ds/\∀d,d∈ds->Rows.uptoBulk d<=Rows.uptoBulkAll ds
 | []=>⟨by simp[Rows.uptoBulkAll],fun d h=>by cases h⟩
 | d::ds=>by
  have ih:=Z7 ds;have h1:1<=Rows.uptoBulk d:=by cases d with
   | lit l=>cases l<;>simp[Rows.uptoBulk]
   | _=>simp[Rows.uptoBulk]
  simp only[Rows.uptoBulkAll,List.length_cons];refine⟨by omega,fun x hx=>?_⟩
  rcases List.mem_cons.1 hx with rfl|hx
  ·omega
  ·have:=ih.2 x hx;omega
theorem AAT:Rw (H:=H) Tryz.prog X.code (fun _=>1048576) (fun _ d=>Rows.uptoBulk d<=1048576) where
 slice:=fun t e elems spare _ _ _ _ hB=>by
  simp only[Rows.uptoBulk]at hB;have:=Z7 elems;exact⟨by omega,fun d hd=>by have:=this.2 d hd;omega⟩
 struct:=fun t fs parts _ hB j f d _ hd=>by
  simp only[Rows.uptoBulk]at hB;have:=(Z7 parts).2 d (List.mem_of_getElem? hd);omega
 array:=fun t n e parts _ hB d hd=>by
  simp only[Rows.uptoBulk]at hB;have:=(Z7 parts).2 d hd;omega
set_option maxRecDepth 100000 in
theorem Asd {g:Nat} {pts:List Az} {f:Gu Nore.S pts->Option Bool} {lim:Az->Nat} {B:Nat->DataW H->Prop} (hB:Rw Tryz.prog X.code lim B) (hfs:B6 X g ⟨pts,[.bool],f⟩) (law:∀x,SH lim (aR lim) pts x->f x=some true) {W:World} {args:Array Value} {ts:List TypeId} {ds:List (DataW H)} {AP:List MemPlace} {base:Nat} (hiv:E.inv W)
  (hm:ts.map X.code=pts.map some) (hok:∀(j:Nat) t v,ts[j]? = some t->args[j]? = some v->Value.okWide Tryz.prog W .any base t v) (hBd:∀(j:Nat) t d,ts[j]? = some t->ds[j]? = some d->B t d) (hA:DataW.TrodAll enc Tryz.prog W 0 (fun _=>true) true ts args.toList ds AP) :
  Calls Tryz.prog g args W fun e w'=>e=.returned (.bool true)/\Below W.heap.size W w':=by
 obtain⟨x,hx,hxk⟩:=AcM (β:=⟨fun _=>none,fun _ _=>none⟩) (G:=fun b o=>W.cell? ⟨b,o,none⟩) Gc Nore.F Ai4 AAy hB (fun _ _ _ h=>h) ts pts args.toList ds AP hm (fun j t v h1 h2=>hok j t v h1 (by simpa using h2)) hBd hA
 obtain⟨N,hN⟩:=hfs x true (law x hxk);have h:=AoE (P:=Tryz.prog) (E:=E) Ai4 AAD mixed (hN N (Nat.le_refl _)) (w:=W) (β:=⟨fun _=>none,fun _ _=>none⟩) (G:=fun b o=>W.cell? ⟨b,o,none⟩) (vs:=args) hiv (fun _ _ _ hq=>hq) hx (Ade pts x);refine Calls.mono h fun e w' he=>?_;obtain⟨v,G',rfl,hb,_,_,_,AH⟩:=he;rw[Es.1 AH];exact⟨rfl,hb⟩
end
end Go.Proofs.YthkpjcjiolelnaaGreatDoor
namespace Go.Proofs.YthkpjcjiolelnaaGreatDoor.topSworn
open Go.ChangeShapes Go.WideShapes Go.ChangeAt Go.RowKit Go.Ab Nore
abbrev MA:List (String×DataW Unit):=Rows.topSwornRow.laid
set_option maxRecDepth 100000 in
theorem As4 {W:World} (hs:W.ShapedOpen Tryz.prog) (h:laidMetH Tryz.prog MA W):E.inv W:=by
 rw[MakeChecks.laidMetH_plain _ _ _ (by kernel_rfl)]at h
 have h2:=laidMet.filter (fun x=>x.1==(MA.map (·.1)).getD 2 default) h;have e:MA.filter (fun x=>x.1==(MA.map (·.1)).getD 2 default)=[((MA.map (·.1)).getD 2 default,Lib.tabData .u64 Lib.pow10Tab)]:=by kernel_rfl
 rw[e]at h2;exact⟨Tryz.o4.s1_3 W hs,Eq.mp (congrArg (fun s=>Lib.TabIs Tryz.prog W s .u64 Lib.pow10Tab) (show(MA.map (·.1)).getD 2 default=Aeb by kernel_rfl)) (Lib.tabIs_of_head (g:=3) (t:=317) (e:=270) (n:=20) (by kernel_rfl) (by kernel_rfl) (by kernel_rfl) (by kernel_rfl) (by kernel_rfl) (by kernel_rfl) h2)⟩
section
variable {H:Type} {enc:TypeId×Value->H}
theorem As3 {a:Assume} {C:Checked} {os:Os} {f:FuncId} {fn:Func} {s:ChangeSpec} {conds:List PathCond} {apart fresh handsOn again:Bool} {X:World->Array Value->Prop}
  (hX:∀(w w':World) (args:Array Value),w.heap=w'.heap->X w args->X w' args)
  (own:ownKnob C.prog.godebug=none) (started:os.Started) (noInit:C.prog.inits.idxOf? f=none) (hfn:C.prog.funcs[f]? = some fn)
  (witness:∃(w:World) (tape:Tape) (i:Input),w.os=os/\(w.forCall tape i).Shaped C.prog/\i.vars=[]/\Input.okWide C.prog (w.forCall tape i) .any w.heap.size f i ∧
   ((s.pre enc C.prog fn conds apart (w.forCall tape i).memory i.args/\X (w.forCall tape i).memory i.args)/\sizedMet enc C.prog fn (OpenSpec.ofChange s) apart (w.forCall tape i).memory i.args)/\a.holds C.prog (lone (Frame.enter C.prog f i.args .normal) [] (w.forCall tape i)))
  (contract:∀(W:World) (base:Nat) (args:Array Value) (ds gs:List (DataW H)) (before:List MemPlace),W.ShapedOpen C.prog →
   (∀(j:Nat) t v,fn.params[j]? = some t->args[j]? = some v->Value.okWide C.prog W .any base t v) →
   DataW.Whole enc C.prog fn.params.toList s.vars apart W args.toList ds gs before →
   (DataW.weightsEach C.prog (fn.params.toList++s.plain.varTypes C.prog) (ds++gs)).all (· <= reachBytes)=true->X W args →
   Calls C.prog f args W fun e W'=>∃v,e=.returned v/\s.post enc C.prog fn apart fresh handsOn again W args v W') :
  ReturnsInHanded a C os f .any (fun w args=>(s.pre enc C.prog fn conds apart w args/\X w args)/\sizedMet enc C.prog fn (OpenSpec.ofChange s) apart w args) (s.post enc C.prog fn apart fresh handsOn again):=by
 refine returnsInHanded_of_calls own started noInit witness ?_;intro w tape i _ hsh _ hok hpre _;obtain⟨_,_,_,fn',hfn',_,_,_,_,hval⟩:=hok;have e:fn'=fn:=Option.some.inj (hfn'.symm.trans hfn);subst e;obtain⟨⟨⟨ds,gs,before,hw,hc⟩,hx⟩,hz⟩:=hpre;have hw':=DataW.Whole.of_heap (w':=w.forCall tape i) (by rfl) hw
 refine(contract (w.forCall tape i) w.heap.size i.args ds gs before hsh hval hw' (hz.weights hw) (hX _ _ _ (by rfl) hx)).mono fun e W' ⟨v,he,hp⟩=>?_
 subst he;exact ChangeSpec.post_blind hp
end
set_option maxRecDepth 100000 in
theorem walk {H:Type} {enc:TypeId×Value->H} {W:World} {args:Array Value} {ds:List (DataW H)} {AP:List MemPlace} {base:Nat} (hiv:E.inv W)
  (hok:∀(j:Nat) t v,Tryz.f3.params[j]? = some t->args[j]? = some v->Value.okWide Tryz.prog W .any base t v) (hwt:(DataW.weightsEach Tryz.prog Tryz.f3.params.toList ds).all (· <= reachBytes)=true) (hA:DataW.TrodAll enc Tryz.prog W 0 (fun _=>true) true Tryz.f3.params.toList args.toList ds AP) :
  Calls Tryz.prog 3 args W fun e w'=>e=.returned (.bool true)/\Below W.heap.size W w' :=
 Asd Apj (pts:=[(.st 20),(.st 22),(.st 27)]) (f:=fun x=>TM x.1 x.2.1 x.2.2.1) Aio (fun x h=>have k:=h.2.2.1.2.1;AiO x.1 x.2.1 x.2.2.1 k.1.1.2 k.1.2.1.2 k.2.1.1 k.2.1.2.1.2 k.2.2.1 k.2.2.2.1) hiv (ts:=Tryz.f3.params.toList) (by kernel_rfl) (fun j t v h1 h2=>hok j t v (by simpa using h1) h2) (fun j t d h1 h2=>oQ hwt j t d h1 h2) hA
set_option maxRecDepth 100000 in
theorem lifted (os:Os) (started:os.Started) (H:Type) (enc:TypeId×Value->H) :
  ReturnsInHanded {} Tryz.checked os 3 .any (fun w args=>(Rows.topSwornSpec.pre enc Tryz.prog Tryz.f3 Rows.topSwornRow.domain false w args/\laidMetH Tryz.prog MA w)/\sizedMet enc Tryz.prog Tryz.f3 (OpenSpec.ofChange Rows.topSwornSpec) false w args)
   (Rows.topSwornSpec.post enc Tryz.prog Tryz.f3 false true false false):=by
 refine As3 (C:=Tryz.checked) (X:=fun w _=>laidMetH Tryz.prog MA w) (fun _ _ _ hh h=>h.of_heap hh) own started (by kernel_rfl) Tryz.func3
  (ChangeSpec.witness_shaped (enc:=enc) (C:=Tryz.checked) (os:=os) (X:=fun w _=>laidMetH Tryz.prog MA w) false (World.laidAll Tryz.prog os MA) #[.agg #[.slice none 0 0,.slice none 0 0],.agg #[.slice none 0 0,.int .i64 0,.int .i64 0,.int .i64 0,.int .i64 0],.agg #[.int .i64 0,.int .i64 0,.int .i64 0,.int .i64 0,.int .i64 0,.slice none 0 0,.slice none 0 0,.int .u16 0,.int .u16 0,.int .u16 0,.int .u16 0,.slice none 0 0,.int .u16 0,.int .u16 0,.int .u16 0]] 8 (World.laidAll_os _ _ _)
   (World.shaped_of_ZipB (by kernel_rfl) (by kernel_rfl)) (by kernel_rfl) (by kernel_rfl) (by kernel_rfl)
   (by rw[MakeChecks.laidMetH_plain _ _ _ (by kernel_rfl)];exact laidMet_laidAll _ (by kernel_rfl) (by kernel_rfl))) ?_
 intro W base args ds gs before hsh hval0 hW hwt Bn;have hW':=hW;obtain⟨p,q,hA,hV,rfl,hfz,hnd⟩:=hW;obtain⟨rfl,rfl⟩:=trodVars_none hV;simp only[List.append_nil]at hW';have hlt:∀x∈p,x.block<W.heap.size:=fun x hx=>hW'.lt x hx;have hA0:DataW.TrodAll enc Tryz.prog W 0 (fun _=>true) true Tryz.f3.params.toList args.toList ds p:=hA;rw[Tryz.params3]at hA;have hds:∃d0 d1 d2,ds=[d0,d1,d2]:=by
  obtain⟨v0,v1,v2,d0,d1,d2,p0,p1,p2,_,rfl,_⟩:=trodAll_three hA;exact⟨_,_,_,rfl⟩
 have hwt0:(DataW.weightsEach Tryz.prog Tryz.f3.params.toList ds).all (· <= reachBytes)=true:=by
  have hvt:DataSpec.varTypes Tryz.checked.prog Rows.topSwornSpec.plain=[]:=rfl;rw[hvt,List.append_nil,List.append_nil]at hwt;exact hwt
 refine(walk (As4 hsh Bn) hval0 hwt0 hA0).mono fun e W' ⟨he,hg⟩=>?_;subst he;obtain⟨d0,d1,d2,rfl⟩:=hds;exact⟨_,rfl,AsN (pa:=p) (pv:=[]) hW' (fun _ _ _=>(trodAll_cons_mk (shut_bool Tryz.underlying4 _) trodAll_mk0)) (fun sp hsp=>As5 (by kernel_rfl) hA0 hg hlt sp hsp) (fun _ _=>rfl) (by simp)
  hg (ok_one (by kernel_rfl) rfl (okWide_bool_mk Tryz.underlying4 _))⟩
theorem over:Rows.TopSwornSaid :=
 OpenClaim.holds_of_wide 3 Tryz.f3 rfl rfl rfl rfl rfl rfl rfl ⟨rfl,rfl,rfl,rfl,rfl⟩ rfl rfl rfl rfl rfl (by kernel_rfl) Tryz.func3 (by kernel_rfl)
  (of_decide_eq_true (by kernel_rfl)) (by unfold Func.isWrapper;first|(rw[if_pos (by decide +kernel)];kernel_rfl)|(rw[if_neg (by decide +kernel)];exact⟨rfl,rfl⟩))
  (fun os started H enc _=>lifted os started H enc)
theorem proved:Rows.TopSwornCardSaid :=
 Claim7.holds_tied_plain_at .later [] [.data, .data, .data, .data, .sentinel, .sentinel, .pinned] true (true, "342751a13a29dae2b22892144ffa5a7711ccf8eb65193d21d5aacfd7a52d23d1") true over (fun _ h => by cases h) (by kernel_rfl) (fun _ h => by cases h) topSworn_row_tie rfl ⟨rfl, rfl⟩ (by kernel_rfl) rfl
  (fun f fn hf hfn=>by
   obtain rfl:f=3:=Option.some.inj ((show Tryz.prog.funcNamed Rows.topSwornRow.func=some 3 by kernel_rfl).symm.trans hf) |>.symm
   obtain rfl:fn=Tryz.f3:=(Option.some.inj (Tryz.func3.symm.trans hfn)).symm;exact⟨by kernel_rfl,fun j t ht=>by
    rw[Tryz.params3]at ht;have hm:t∈[25,30,46]:=by simpa using Array.mem_of_getElem? ht
    have hall:([25,30,46].all fun u => !Tryz.prog.wantsStandIn u)=true:=by kernel_rfl
    exact(show Tryz.prog.wantsStandIn t=false by simpa using List.all_eq_true.1 hall t hm)⟩)
  (by kernel_rfl)
end Go.Proofs.YthkpjcjiolelnaaGreatDoor.topSworn
