/- Regions of typed operations whose order is drawn. Conditions: the tables are right (XOk); what calls come to is right (SpecsOk, CallOk). -/
import Derived.Test.YtdoejdmpmpgmiaaTv8
set_option linter.unusedSectionVars false
set_option linter.unusedVariables false
set_option linter.unusedSimpArgs false
set_option linter.unusedSectionVars false
namespace Go.Ab
variable {S : Nat → Type} {R : Type}

def dvD (T : TS S) (d : DoneT S) : Done := ⟨d.dst, d.anc, d.touch, dvOut T d.out⟩
def dvDs (T : TS S) (ds : List (Nat × DoneT S)) : List (Nat × Done) := ds.map fun p => (p.1, dvD T p.2)

section
variable {T : TS S} (hT : TOk T)
include hT

theorem touch_dv (ρ : Nat → Option (TV S)) (op : Op) : touch (dvr T ρ) op = touchT ρ op := by
  unfold touch touchT
  congr 1
  funext x
  rw [opnd_dv]
  cases opndT ρ x with
  | none => rfl
  | some v => exact ids_dv hT v

omit hT in
theorem seen_dv (anc : Nat) (ρ : Nat → Option (TV S)) : ∀ (ds : List (Nat × DoneT S)) (t : Nat), seen anc (dvr T ρ) (dvDs T ds) t = (seenT anc ρ ds t).map (dv T)
  | [], t => rfl
  | (j, d) :: ds, t => by
    have ih := seen_dv anc ρ ds t
    show seen anc (dvr T ρ) ((j, dvD T d) :: dvDs T ds) t = _
    simp only [seen, seenT, dvD]
    rw [ih]
    cases d.dst with
    | none => rfl
    | some s =>
      simp only
      cases Nat.beq s t with
      | true =>
        simp only [cond_true]
        cases Nat.testBit anc j <;> rfl
      | false => rfl

omit hT in
theorem updF_dv (id : Nat) : ∀ (u : List (Nat × Option (TObj S))), updFind id (dvu T u) = (updFT id u).map (Option.map (dvO T))
  | [] => rfl
  | (i, x) :: u => by
    have ih := updF_dv id u
    unfold dvu at ih
    simp only [dvu, List.map_cons, updFind, updFT, ih]
    cases updFT id u with
    | some y => rfl
    | none =>
      simp only [Option.map_none]
      cases Nat.beq i id <;> rfl

omit hT in
theorem seenH_dv (anc : Nat) (h : Nat → Option (TObj S)) : ∀ (ds : List (Nat × DoneT S)), seenH anc (dvh T h) (dvDs T ds) = dvh T (seenHT anc h ds)
  | [] => rfl
  | (j, d) :: ds => by
    funext id
    have ih := congrFun (seenH_dv anc h ds) id
    unfold dvDs at ih
    simp only [dvDs, List.map_cons, seenH, dvD, dvOut, updF_dv]
    show _ = (seenHT anc h ((j, d) :: ds) id).map (dvO T)
    simp only [seenHT]
    cases updFT id d.out.upd with
    | none => exact ih
    | some x =>
      simp only [Option.map_some]
      cases Nat.testBit anc j <;> rfl

omit hT in
theorem anc_dv (ops : Array Oper) (ds : List (Nat × DoneT S)) (o : Oper) (k : Nat) : ancOf ops (dvDs T ds) o k = ancT ops ds o k := by
  unfold ancOf ancT
  congr 1
  funext m e
  have : ((dvDs T ds).find? (fun d => Nat.beq d.1 e.on)).map (·.2.anc) = (ds.find? (fun d => Nat.beq d.1 e.on)).map (·.2.anc) := by
    unfold dvDs
    rw [List.find?_map, Option.map_map]
    rfl
  rw [this]

omit hT in
theorem putAll_dv (V nt : Nat) : ∀ (ds : List (Nat × DoneT S)) (m : MidT S), putAll V nt (dvDs T ds) (dvM T m) = dvM T (putAllT V nt ds m)
  | [], m => rfl
  | (j, d) :: ds, m => by
    have ih := putAll_dv V nt ds m
    unfold dvDs at ih
    simp only [dvDs, List.map_cons, putAll, putAllT, ih]
    exact putU_dv T V nt (putAllT V nt ds m) d.dst d.out
end

def DsOk (ds : List (Nat × DoneT S)) : Prop := ∀ p ∈ ds, NoLoop p.2.out.upd

theorem putAll_wf {E : Env} {V nt : Nat} : ∀ {ds : List (Nat × DoneT S)} {m : MidT S}, DsOk ds → WfO E m.objs → WfO E (putAllT V nt ds m).objs
  | [], _, _, h => h
  | (j, d) :: ds, m, hd, h => by
    simp only [putAllT]
    rw [putT_objs]
    exact (putAll_wf (fun p hp => hd p (by simp [hp])) h).upd (hd (j, d) (by simp))

theorem seen_agree {ρ : Nat → Option (TV S)} {a a' : Nat} {v v' : TV S} : ∀ {ds : List (Nat × DoneT S)} {t : Nat}, seenT a ρ ds t = some v → seenT a' ρ ds t = some v' → v = v'
  | [], t, h, h' => by simp only [seenT] at h h'; rw [h] at h'; cases h'; rfl
  | (j, d) :: ds, t, h, h' => by
    simp only [seenT] at h h'
    cases hd : d.dst with
    | none =>
      rw [hd] at h h'
      exact seen_agree h h'
    | some s =>
      rw [hd] at h h'
      simp only at h h'
      cases hm : Nat.beq s t with
      | true =>
        rw [hm] at h h'
        simp only [cond_true] at h h'
        cases h1 : Nat.testBit a j with
        | false => rw [h1] at h; cases h
        | true => cases h2 : Nat.testBit a' j with
          | false => rw [h2] at h'; cases h'
          | true => rw [h1] at h; rw [h2] at h'; simp only [cond_true] at h h'; rw [h] at h'; cases h'; rfl
      | false =>
        rw [hm] at h h'
        exact seen_agree h h'

def KnD (kn : List (Nat × Bool)) (ρ : Nat → Option (TV S)) (ds : List (Nat × DoneT S)) : Prop := ∀ anc, KnOk kn (seenT anc ρ ds)

theorem knD_cons {kn : List (Nat × Bool)} {ρ : Nat → Option (TV S)} {ds : List (Nat × DoneT S)} {j : Nat} {d : DoneT S} (h : KnD kn ρ ds) : KnD (knDel kn d.dst) ρ ((j, d) :: ds) := fun anc =>
  knOk_del (h anc) fun t v hne hv => by
    simp only [seenT] at hv
    cases hd : d.dst with
    | none => rw [hd] at hv; exact hv
    | some s =>
      rw [hd] at hv
      have hm : Nat.beq s t = false := by
        simp only [Tr.beq_dec, decide_eq_false_iff_not]
        intro e; subst e; exact hne hd
      simp only [hm, cond_false] at hv
      exact hv

theorem bif_true {α : Type} {c : Bool} {x y : α} (h : c = true) : (bif c then x else y) = x := by rw [h]; rfl

theorem cond_dv {T : TS S} {ops : Array Oper} {ds : List (Nat × DoneT S)} {o : Oper} {k nt c : Nat}
    (hc : (o.after.all (fun e => !Region.binds .any e || Nat.blt e.on k) && (match o.dst with | none => true | some t => Nat.blt t nt) && (Nat.beq c 0 || Nat.testBit (ancT ops ds o k) (c - 1)) && ds.all (fun d => Nat.testBit (ancT ops ds o k) d.1 || (match o.dst with
        | none => true
        | some t => !((ops.getD d.1 o).looksAt ops).contains t && !(match d.2.dst with | some s => Nat.beq s t | none => false)))) = true) :
    (o.after.all (fun e => !Region.binds .any e || Nat.blt e.on k) && (match o.dst with | none => true | some t => Nat.blt t nt) && (Nat.beq c 0 || Nat.testBit (ancOf ops (dvDs T ds) o k) (c - 1)) && (dvDs T ds).all (fun d => Nat.testBit (ancOf ops (dvDs T ds) o k) d.1 || (match o.dst with
        | none => true
        | some t => !((ops.getD d.1 o).looksAt ops).contains t && !(match d.2.dst with | some s => Nat.beq s t | none => false)))) = true := by
  refine Eq.trans ?_ hc
  rw [anc_dv]
  congr 1
  have : ∀ f : Nat × Done → Bool, (dvDs T ds).all f = ds.all fun p => f (p.1, dvD T p.2) := fun f => by
    unfold dvDs; rw [List.all_map]; rfl
  rw [this]
  rfl

section
variable {X : TEnv S} (hX : XOk X) {cs : Specs S R} (hcs : SpecsOk X cs)
include hX hcs

theorem draw_sim {callH callY : CallHT S R} (hH : CallOk X false callH) (hY : CallOk X true callY) {path : List Nat} {V nt : Nat} {ops : Array Oper} {b : Nat} :
    ∀ (os : List Oper) (k : Nat) (kn : List (Nat × Bool)) (m : MidT S) (c : Nat) (ds : List (Nat × DoneT S)) (kk : MidT S → Option R) (r : R), drawK X cs callH callY path V nt ops b k os kn m c ds kk = some r → KnD kn (slotT V m.base m.loc) ds → DsOk ds → WfO X.E m.objs →
      ∃ m', Evt (fun n => evDraw X.E (evF X.E n) (evX X.E n false) (evX X.E n true) V nt ops b k os (dvM X.T m) c (dvDs X.T ds) = some (dvM X.T m')) ∧ WfO X.E m'.objs ∧ kk m' = some r
  | [], k, kn, m, c, ds, kk, r, h, _, hd, hw => by
    simp only [drawK] at h
    exact ⟨_, Evt.of fun _ => by simp only [evDraw, putAll_dv], putAll_wf hd hw, h⟩
  | o :: os, k, kn, m, c, ds, kk, r, h, hkn, hd, hw => by
    simp only [drawK] at h
    obtain ⟨hc, h⟩ := bif_some h
    rw [ovK_eq (hkn _)] at h
    obtain ⟨want, kn', h1, hkn1, hext, h⟩ := want_sim X.T (hkn _) h
    have hkn' : KnD kn' (slotT V m.base m.loc) ds := fun anc t b0 b' hk hv => by
      rcases hext t b0 hk with h2 | h2
      · exact hkn anc t b0 b' h2 hv
      · have := seen_agree h2 hv; cases this; rfl
    have e1 : slotOf V (dvM X.T m).base (dvM X.T m).loc = dvr X.T (slotT V m.base m.loc) := slot_dv X.T V m.base m.loc
    have e2 : seen (ancOf ops (dvDs X.T ds) o k) (slotOf V (dvM X.T m).base (dvM X.T m).loc) (dvDs X.T ds) = dvr X.T (seenT (ancT ops ds o k) (slotT V m.base m.loc) ds) := by
      rw [e1, anc_dv]; exact funext fun t => seen_dv _ _ ds t
    have e3 : seenH (ancOf ops (dvDs X.T ds) o k) (dvM X.T m).objs.get (dvDs X.T ds) = dvh X.T (seenHT (ancT ops ds o k) m.objs.get ds) := by
      rw [objs_get, anc_dv]; exact seenH_dv _ _ ds
    cases want with
    | false =>
      simp only [cond_false] at h
      obtain ⟨m', h2, h3, h4⟩ := draw_sim hH hY os (k + 1) _ m c _ kk r h (knD_cons (d := ⟨o.dst, ancT ops ds o k, [], ⟨some (.tup []), []⟩⟩) hkn')
        (fun p hp => by
          rcases List.mem_cons.1 hp with e | hp
          · subst e; exact noLoop_nil
          · exact hd p hp) hw
      refine ⟨m', h2.mono fun n hn => ?_, h3, h4⟩
      simp only [evDraw]
      refine (bif_true (cond_dv hc)).trans ?_
      simp only [e2, h1, Option.bind_some, cond_false]
      have e4 : dvDs X.T ((k, ⟨o.dst, ancT ops ds o k, [], ⟨some (.tup []), []⟩⟩) :: ds) = (k, ⟨o.dst, ancOf ops (dvDs X.T ds) o k, [], ⟨some (.tup []), []⟩⟩) :: dvDs X.T ds := by
        rw [anc_dv]
        simp [dvDs, dvD, dvOut, dv, dvl, dvu]
      rw [e4] at hn
      exact hn
    | true =>
      simp only [cond_true] at h
      rw [ovK_eq (hkn' _)] at h
      rcases step_sim hX hcs h with ⟨q, h2, h3, h⟩ | ⟨cl, tgt, h2, h3, h4, h⟩
      · obtain ⟨h5, h⟩ := bif_some h
        obtain ⟨m', h6, h7, h8⟩ := draw_sim hH hY os (k + 1) _ m c _ kk r h (knD_cons (d := ⟨o.dst, ancT ops ds o k, touchT (seenT (ancT ops ds o k) (slotT V m.base m.loc) ds) o.op, q⟩) hkn')
          (fun p hp => by
            rcases List.mem_cons.1 hp with e | hp
            · subst e; exact h3
            · exact hd p hp) hw
        refine ⟨m', (h2.and h6).mono fun n hn => ?_, h7, h8⟩
        simp only [evDraw]
        refine (bif_true (cond_dv hc)).trans ?_
        simp only [e2, e3, h1, Option.bind_some, cond_true]
        rw [hn.1]
        simp only [Option.bind_some]
        have h9 : (dvOut X.T q).upd.all (fun u => (dvDs X.T ds).all (fun d => Nat.testBit (ancOf ops (dvDs X.T ds) o k) d.1 || !d.2.touch.contains u.1 && (updFind u.1 d.2.out.upd).isNone)) = true := by
          rw [← h5, anc_dv]
          simp only [dvOut, dvu, dvDs, List.all_map]
          congr 1
          funext u
          simp only [Function.comp]
          congr 1
          funext d
          simp only [Function.comp, dvD, dvOut, updF_dv]
          cases updFT u.1 d.2.out.upd <;> rfl
        rw [h9]
        simp only [cond_true]
        have e4 : dvDs X.T ((k, ⟨o.dst, ancT ops ds o k, touchT (seenT (ancT ops ds o k) (slotT V m.base m.loc) ds) o.op, q⟩) :: ds) = (k, ⟨o.dst, ancOf ops (dvDs X.T ds) o k, touch (dvr X.T (seenT (ancT ops ds o k) (slotT V m.base m.loc) ds)) o.op, dvOut X.T q⟩) :: dvDs X.T ds := by
          rw [anc_dv, touch_dv hX.t]
          simp [dvDs, dvD]
        rw [← e4]
        exact hn.2
      · obtain ⟨h5, h⟩ := bif_some h
        have h9 : (dvDs X.T ds).all (fun d => Nat.testBit (ancOf ops (dvDs X.T ds) o k) d.1) = true := by
          rw [← h5, anc_dv]
          simp only [dvDs, List.all_map]
          rfl
        have hwp := putAll_wf (V := V) (nt := nt) hd hw
        obtain ⟨cl', h10, h⟩ := some_bind h
        obtain ⟨tgt', h11, h⟩ := some_bind h
        have h12 := target_sim (T := X.T) h11
        have e6 := putAll_dv (T := X.T) V nt ds m
        have e7 : slotOf V (dvM X.T (putAllT V nt ds m)).base (dvM X.T (putAllT V nt ds m)).loc = dvr X.T (slotT V (putAllT V nt ds m).base (putAllT V nt ds m).loc) := slot_dv X.T V _ _
        obtain ⟨f, as⟩ := tgt'
        simp only [impK] at h
        split at h
        · rename_i g x y as' he
          cases he
          obtain ⟨v, objs', next', h13, h14, h⟩ := hH _ _ _ _ _ _ _ h hwp
          obtain ⟨m', h15, h16, h17⟩ := draw_sim hH hY os (k + 1) [] _ (k + 1) [] kk r h (fun _ _ _ _ hk _ => by cases hk) (fun _ hp => by cases hp) (by rw [putT_objs]; exact h14)
          refine ⟨m', (h13.and h15).mono fun n hn => ?_, h16, h17⟩
          simp only [evDraw]
          refine (bif_true (cond_dv hc)).trans ?_
          simp only [e2, e3, h1, Option.bind_some, cond_true, h3]
          rw [h9]
          simp only [cond_true, h10, Option.bind_some, e6, e7, h12, dv, evImpure]
          have e8 : evX X.E n false g (dvl X.T as) (dvM X.T (putAllT V nt ds m)).objs (dvM X.T (putAllT V nt ds m)).next = _ := hn.1
          rw [e8]
          simp only [Option.bind_some]
          have e9 := put_dv X.T V nt { putAllT V nt ds m with objs := objs', next := next' } o.dst (some v)
          simp only [Option.map_some] at e9
          have e10 : ({ dvM X.T (putAllT V nt ds m) with objs := objs'.mapv (dvO X.T), next := next' } : Mid) = dvM X.T { putAllT V nt ds m with objs := objs', next := next' } := rfl
          rw [e10, e9]; exact hn.2
        · rename_i id as' he
          cases he
          obtain ⟨v, objs', next', h13, h14, h⟩ := hY _ _ _ _ _ _ _ h hwp
          obtain ⟨m', h15, h16, h17⟩ := draw_sim hH hY os (k + 1) [] _ (k + 1) [] kk r h (fun _ _ _ _ hk _ => by cases hk) (fun _ hp => by cases hp) (by rw [putT_objs]; exact h14)
          refine ⟨m', (h13.and h15).mono fun n hn => ?_, h16, h17⟩
          simp only [evDraw]
          refine (bif_true (cond_dv hc)).trans ?_
          simp only [e2, e3, h1, Option.bind_some, cond_true, h3]
          rw [h9]
          simp only [cond_true, h10, Option.bind_some, e6, e7, h12, dv, evImpure]
          have e8 : evX X.E n true id (dvl X.T as) (dvM X.T (putAllT V nt ds m)).objs (dvM X.T (putAllT V nt ds m)).next = _ := hn.1
          rw [e8]
          simp only [Option.bind_some]
          have e9 := put_dv X.T V nt { putAllT V nt ds m with objs := objs', next := next' } o.dst (some v)
          simp only [Option.map_some] at e9
          have e10 : ({ dvM X.T (putAllT V nt ds m) with objs := objs'.mapv (dvO X.T), next := next' } : Mid) = dvM X.T { putAllT V nt ds m with objs := objs', next := next' } := rfl
          rw [e10, e9]; exact hn.2
        · cases h

omit hX hcs in
theorem sN_eq {α : Type} (n : Nat) (k : Nat → α) : sN n k = k n := by cases n <;> rfl

omit hX hcs in
mutual
theorem sV_eq {α : Type} : ∀ (v : TV S) (k : TV S → α), sV v k = k v
  | .ptr _ _, _ => by simp only [sV, sN_eq]
  | .ap _ _ _ _ _, _ => by simp only [sV, sN_eq]
  | .rptr _ _ _ _ _, _ => by simp only [sV, sN_eq]
  | .pub cs, _ => by simp only [sV, sVs_eq cs]
  | .rs _ _, _ => by simp only [sV, sN_eq]
  | .agg cs, _ => by simp only [sV, sVs_eq cs]
  | .tup cs, _ => by simp only [sV, sVs_eq cs]
  | .fn _ a c, _ => by simp only [sV, sVs_eq a, sVs_eq c]
  | .map _, _ => by simp only [sV, sN_eq]
  | .iface _ v, _ => by simp only [sV, sV_eq v]
  | .iter _, _ => by simp only [sV, sN_eq]
  | .yld _, _ => by simp only [sV, sN_eq]
  | .bool _, _ => by simp only [sV]
  | .int _ _, _ => by simp only [sV]
  | .str _, _ => by simp only [sV]
  | .nilp, _ => by simp only [sV]
  | .nils, _ => by simp only [sV]
  | .sl0, _ => by simp only [sV]
  | .sl _ _, _ => by simp only [sV]
  | .arr _ _ _, _ => by simp only [sV]
  | .stc _ _, _ => by simp only [sV]
  | .nilfn, _ => by simp only [sV]
  | .nilmap, _ => by simp only [sV]
  | .nilif, _ => by simp only [sV]
theorem sVs_eq {α : Type} : ∀ (v : List (TV S)) (k : List (TV S) → α), sVs v k = k v
  | [], _ => by simp only [sVs]
  | c :: cs, _ => by simp only [sVs, sV_eq c, sVs_eq cs]
end

omit hX hcs in
theorem sTr_eq {α β : Type} {f : β → (β → α) → α} (hf : ∀ v k, f v k = k v) : ∀ (t : Tr β) (k : Tr β → α), sTr f t k = k t
  | .leaf, _ => rfl
  | .node l v r, k => by
    simp only [sTr, sTr_eq hf l, sTr_eq hf r]
    cases v with
    | none => rfl
    | some x => simp only [hf]

omit hX hcs in
theorem sO_eq {α : Type} (v : TObj S) (k : TObj S → α) : sO v k = k v := by
  cases v <;> simp only [sO, sVs_eq, sN_eq, sTr_eq sV_eq]

omit hX hcs in
theorem sSt_eq {α : Type} (s : StT S) (k : StT S → α) : sSt s k = k s := by
  unfold sSt
  rw [sTr_eq sV_eq, sTr_eq sO_eq, sN_eq]

theorem region_sim {callH callY : CallHT S R} (hH : CallOk X false callH) (hY : CallOk X true callY) {path : List Nat} {V nt : Nat} {ops : Array Oper} {draw : Bool} {s : StT S} {kk : StT S → Option R} {r : R}
    (h : regionK X cs callH callY path V nt ops draw s kk = some r) (hw : WfO X.E s.objs) :
    ∃ s', Evt (fun n => evRegion X.E (evF X.E n) (evX X.E n false) (evX X.E n true) V nt ops draw (dvSt X.T s) = some (dvSt X.T s')) ∧ WfO X.E s'.objs ∧ kk s' = some r := by
  unfold regionK at h
  cases draw with
  | true =>
    simp only [cond_true] at h
    obtain ⟨m', h1, h2, h3⟩ := draw_sim hX hcs hH hY _ 0 [] ⟨s.base, [], s.objs, s.next + ops.size⟩ 0 [] _ r h (fun _ _ _ _ hk _ => by cases hk) (fun _ hp => by cases hp) hw
    rw [sSt_eq] at h3
    refine ⟨⟨m'.base, m'.objs, m'.next⟩, h1.mono fun n hn => ?_, h2, h3⟩
    unfold evRegion
    simp only [cond_true]
    have e : evDraw X.E (evF X.E n) (evX X.E n false) (evX X.E n true) V nt ops (dvSt X.T s).next 0 ops.toList ⟨(dvSt X.T s).base, [], (dvSt X.T s).objs, (dvSt X.T s).next + ops.size⟩ 0 [] = some (dvM X.T m') := hn
    rw [e]; rfl
  | false =>
    simp only [cond_false] at h
    obtain ⟨m', h1, h2, h3⟩ := seq_sim hX hcs hH hY _ 0 [] ⟨s.base, [], s.objs, s.next + ops.size⟩ _ r h (fun _ _ _ hk _ => by cases hk) hw
    rw [sSt_eq] at h3
    refine ⟨⟨m'.base, m'.objs, m'.next⟩, h1.mono fun n hn => ?_, h2, h3⟩
    unfold evRegion
    simp only [cond_false]
    have e : evSeq X.E (evF X.E n) (evX X.E n false) (evX X.E n true) V nt ops (dvSt X.T s).next 0 ops.toList ⟨(dvSt X.T s).base, [], (dvSt X.T s).objs, (dvSt X.T s).next + ops.size⟩ = some (dvM X.T m') := hn
    rw [e]; rfl
end
end Go.Ab
