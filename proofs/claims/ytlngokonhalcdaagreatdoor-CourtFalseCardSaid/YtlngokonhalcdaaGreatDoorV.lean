/- The row CourtFalse: the call returns true whatever the input, and the input reads as it did. No condition. -/
import Derived.Test.YtlngokonhalcdaaGreatDoorX
import Derived.Test.YtlngokonhalcdaaGreatDoorTie
import Derived.Test.YtlngokonhalcdaaGreatDoorCards
import Derived.SizedLaws
import Derived.LaidMore
import Derived.Lay
import Derived.SevenTiedAt
import Derived.Stop.Joined
import Derived.MakeChecks
import Derived.Test.YtlngokonhalcdaaGreatDoorP
import Derived.Test.YtlngokonhalcdaaGreatDoorC2
set_option linter.unusedSectionVars false
set_option linter.unusedVariables false
set_option linter.unusedSimpArgs false
namespace Go.Proofs.YtlngokonhalcdaaGreatDoor.courtFalse
open Go.ChangeShapes Go.WideShapes Go.ChangeAt Go.RowKit Go.Ab Nore
abbrev lvs:List (String×DataW Unit):=Rows.courtFalseRow.laid
set_option maxRecDepth 100000 in
theorem inv_of {W:World} (hs:W.ShapedOpen Tryz.prog) (h:laidMetH Tryz.prog lvs W):E.inv W:=by
 rw[MakeChecks.laidMetH_plain _ _ _ (by kernel_rfl)]at h
 have h2:=laidMet.filter (fun x=>x.1==(lvs.map (·.1)).getD 2 default) h;have e:lvs.filter (fun x=>x.1==(lvs.map (·.1)).getD 2 default)=[((lvs.map (·.1)).getD 2 default,Lib.tabData .u64 Lib.pow10Tab)]:=by kernel_rfl
 rw[e]at h2;exact⟨Tryz.laysM146.s1_3 W hs,Eq.mp (congrArg (fun s=>Lib.TabIs Tryz.prog W s .u64 Lib.pow10Tab) (show(lvs.map (·.1)).getD 2 default=powN by kernel_rfl)) (Lib.tabIs_of_head (g:=3) (t:=249) (e:=219) (n:=20) (by kernel_rfl) (by kernel_rfl) (by kernel_rfl) (by kernel_rfl) (by kernel_rfl) (by kernel_rfl) h2)⟩
section
variable {H:Type} {enc:TypeId×Value->H}
theorem handed_shaped {a:Assume} {C:Checked} {os:Os} {f:FuncId} {fn:Func} {s:ChangeSpec} {conds:List PathCond} {apart fresh handsOn again:Bool} {X:World->Array Value->Prop}
  (hX:∀(w w':World) (args:Array Value),w.heap=w'.heap->X w args->X w' args)
  (own:ownKnob C.prog.godebug=none) (started:os.Started) (noInit:C.prog.inits.idxOf? f=none) (hfn:C.prog.funcs[f]? = some fn)
  (witness:∃(w:World) (tape:Tape) (i:Input),w.os=os/\(w.forCall tape i).Shaped C.prog/\i.vars=[]/\Input.okWide C.prog (w.forCall tape i) .any w.heap.size f i ∧
   ((s.pre enc C.prog fn conds apart (w.forCall tape i).memory i.args/\X (w.forCall tape i).memory i.args)/\sizedMet enc C.prog fn (OpenSpec.ofChange s) apart (w.forCall tape i).memory i.args)/\a.holds C.prog (lone (Frame.enter C.prog f i.args .normal) [] (w.forCall tape i)))
  (contract:∀(W:World) (base:Nat) (args:Array Value) (ds gs:List (DataW H)) (before:List MemPlace),W.ShapedOpen C.prog →
   (∀(j:Nat) t v,fn.params[j]? = some t->args[j]? = some v->Value.okWide C.prog W .any base t v) →
   DataW.Whole enc C.prog fn.params.toList s.vars apart W args.toList ds gs before →
   (DataW.weightsEach C.prog (fn.params.toList++s.plain.varTypes C.prog) (ds++gs)).all (· <= reachBytes)=true->X W args →
   Calls C.prog f args W fun e W'=>∃v,e=.returned v/\s.post enc C.prog fn apart fresh handsOn again W args v W') :
  ReturnsInHanded a C os f .any (fun w args=>(s.pre enc C.prog fn conds apart w args/\X w args)/\sizedMet enc C.prog fn (OpenSpec.ofChange s) apart w args) (s.post enc C.prog fn apart fresh handsOn again):=by
 refine returnsInHanded_of_calls own started noInit witness ?_;intro w tape i _ hsh _ hok hpre _;obtain⟨_,_,_,fn',hfn',_,_,_,_,hval⟩:=hok;have e:fn'=fn:=Option.some.inj (hfn'.symm.trans hfn);subst e;obtain⟨⟨⟨ds,gs,before,hw,hc⟩,hx⟩,hz⟩:=hpre;have hw':=DataW.Whole.of_heap (w':=w.forCall tape i) (by rfl) hw
 refine(contract (w.forCall tape i) w.heap.size i.args ds gs before hsh hval hw' (hz.weights hw) (hX _ _ _ (by rfl) hx)).mono fun e W' ⟨v,he,hp⟩=>?_
 subst he;exact ChangeSpec.post_blind hp
end
set_option maxRecDepth 100000 in
theorem walk {H:Type} {enc:TypeId×Value->H} {W:World} {args:Array Value} {ds:List (DataW H)} {ps:List MemPlace} {base:Nat} (hiv:E.inv W)
  (hok:∀(j:Nat) t v,Tryz.f9.params[j]? = some t->args[j]? = some v->Value.okWide Tryz.prog W .any base t v) (hwt:(DataW.weightsEach Tryz.prog Tryz.f9.params.toList ds).all (· <= reachBytes)=true) (hA:DataW.TrodAll enc Tryz.prog W 0 (fun _=>true) true Tryz.f9.params.toList args.toList ds ps) :
  Calls Tryz.prog 9 args W fun e w'=>e=.returned (.bool true)/\Below W.heap.size W w' :=
 law_walk bounds_w (pts:=[(.st 20),(.st 30),(.arr 3 (.int .u16))]) (f:=fun x=>X1Q x.1 x.2.1 x.2.2.1) X4O (fun x h=>X6s x.1 x.2.1 x.2.2.1 h.2.1.1.2 h.2.1.2.1.2 h.2.2.1) hiv (ts:=Tryz.f9.params.toList) (by kernel_rfl) (fun j t v h1 h2=>hok j t v (by simpa using h1) h2) (fun j t d h1 h2=>each_get hwt j t d h1 h2) hA
set_option maxRecDepth 100000 in
theorem lifted (os:Os) (started:os.Started) (H:Type) (enc:TypeId×Value->H) :
  ReturnsInHanded {} Tryz.checked os 9 .any (fun w args=>(Rows.courtFalseSpec.pre enc Tryz.prog Tryz.f9 Rows.courtFalseRow.domain false w args/\laidMetH Tryz.prog lvs w)/\sizedMet enc Tryz.prog Tryz.f9 (OpenSpec.ofChange Rows.courtFalseSpec) false w args)
   (Rows.courtFalseSpec.post enc Tryz.prog Tryz.f9 false true false false):=by
 refine handed_shaped (C:=Tryz.checked) (X:=fun w _=>laidMetH Tryz.prog lvs w) (fun _ _ _ hh h=>h.of_heap hh) own started (by kernel_rfl) Tryz.func9
  (ChangeSpec.witness_shaped (enc:=enc) (C:=Tryz.checked) (os:=os) (X:=fun w _=>laidMetH Tryz.prog lvs w) false (World.laidAll Tryz.prog os lvs) #[.agg #[.slice none 0 0,.slice none 0 0],.agg #[.slice none 0 0,.slice none 0 0],.agg #[.int .u16 0,.int .u16 0,.int .u16 0]] 8 (World.laidAll_os _ _ _)
   (World.shaped_of_ZipB (by kernel_rfl) (by kernel_rfl)) (by kernel_rfl) (by kernel_rfl) (by kernel_rfl)
   (by rw[MakeChecks.laidMetH_plain _ _ _ (by kernel_rfl)];exact laidMet_laidAll _ (by kernel_rfl) (by kernel_rfl))) ?_
 intro W base args ds gs before hsh hval0 hW hwt hL;have hW':=hW;obtain⟨p,q,hA,hV,rfl,hfz,hnd⟩:=hW;obtain⟨rfl,rfl⟩:=trodVars_none hV;simp only[List.append_nil]at hW';have hlt:∀x∈p,x.block<W.heap.size:=fun x hx=>hW'.lt x hx;have hA0:DataW.TrodAll enc Tryz.prog W 0 (fun _=>true) true Tryz.f9.params.toList args.toList ds p:=hA;rw[Tryz.params9]at hA;have hds:∃d0 d1 d2,ds=[d0,d1,d2]:=by
  obtain⟨v0,v1,v2,d0,d1,d2,p0,p1,p2,_,rfl,_⟩:=trodAll_three hA;exact⟨_,_,_,rfl⟩
 have hwt0:(DataW.weightsEach Tryz.prog Tryz.f9.params.toList ds).all (· <= reachBytes)=true:=by
  have hvt:DataSpec.varTypes Tryz.checked.prog Rows.courtFalseSpec.plain=[]:=rfl;rw[hvt,List.append_nil,List.append_nil]at hwt;exact hwt
 refine(walk (inv_of hsh hL) hval0 hwt0 hA0).mono fun e W' ⟨he,hg⟩=>?_;subst he;obtain⟨d0,d1,d2,rfl⟩:=hds;exact⟨_,rfl,post_of_below (pa:=p) (pv:=[]) hW' (fun _ _ _=>(trodAll_cons_mk (shut_bool Tryz.underlying4 _) trodAll_mk0)) (fun sp hsp=>keep_args (by kernel_rfl) hA0 hg hlt sp hsp) (fun _ _=>rfl) (by simp)
  hg (ok_one (by kernel_rfl) rfl (okWide_bool_mk Tryz.underlying4 _))⟩
theorem over:Rows.CourtFalseSaid :=
 OpenClaim.holds_of_wide 9 Tryz.f9 rfl rfl rfl rfl rfl rfl rfl ⟨rfl,rfl,rfl,rfl,rfl⟩ rfl rfl rfl rfl rfl (by kernel_rfl) Tryz.func9 (by kernel_rfl)
  (of_decide_eq_true (by kernel_rfl)) (by unfold Func.isWrapper;first|(rw[if_pos (by decide +kernel)];kernel_rfl)|(rw[if_neg (by decide +kernel)];exact⟨rfl,rfl⟩))
  (fun os started H enc _=>lifted os started H enc)
theorem proved:Rows.CourtFalseCardSaid :=
 Claim7.holds_tied_plain_at .later [] [.data, .data, .data, .data, .sentinel, .sentinel, .pinned] true (true, "9a6ea421806c1c153fe0dca1c109f116880d9d7a5e101dce762efae8d0a18b82") true over (fun _ h => by cases h) (by kernel_rfl) (fun _ h => by cases h) courtFalse_row_tie rfl ⟨rfl, rfl⟩ (by kernel_rfl) rfl
  (fun f fn hf hfn=>by
   obtain rfl:f=9:=Option.some.inj ((show Tryz.prog.funcNamed Rows.courtFalseRow.func=some 9 by kernel_rfl).symm.trans hf) |>.symm
   obtain rfl:fn=Tryz.f9:=(Option.some.inj (Tryz.func9.symm.trans hfn)).symm;exact⟨by kernel_rfl,fun j t ht=>by
    rw[Tryz.params9]at ht;have hm:t∈[25,73,75]:=by simpa using Array.mem_of_getElem? ht
    have hall:([25,73,75].all fun u => !Tryz.prog.wantsStandIn u)=true:=by kernel_rfl
    exact(show Tryz.prog.wantsStandIn t=false by simpa using List.all_eq_true.1 hall t hm)⟩)
  (by kernel_rfl)
end Go.Proofs.YtlngokonhalcdaaGreatDoor.courtFalse
