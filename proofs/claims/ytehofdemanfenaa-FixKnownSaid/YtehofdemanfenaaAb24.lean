/- Functions: the induction over the fuel; and the end: a call of plain values. -/
import Derived.Test.YtehofdemanfenaaAb23
namespace Go.Ab
open Go.RowKit

section
variable {P : Program} {E : Env}

def pureOf (E : Env) (n : Nat) (g : Nat) (as : List DV) : Option DV := (evX E n false g as .leaf 0).bind fun x => frz x.2.1.get x.1

/-- A run on a heap of its own. -/
def pureH (callH : CallH) (g : Nat) (as : List DV) : Option DV := (callH g as .leaf 0).bind fun x => frz x.2.1.get x.1

theorem pureH_ok {callH : CallH} (hH : HeapOk P E callH) : PureOk P (pureH callH) := fun g as d hd => by
  unfold pureH at hd
  obtain ⟨⟨r, objs', nx'⟩, h1, h2⟩ := some_bind hd
  obtain ⟨hent, hcs⟩ := hH _ _ _ _ _ _ _ h1
  refine ⟨hent, fun w β G vs hag hrep hid => ?_⟩
  have hh : HR E w G (fun _ => none) w ⟨fun _ => none, fun _ _ => none⟩ G (Tr.leaf : Tr AObj).get :=
    ⟨Below.refl _ _, fun _ _ => rfl, hag, fun _ _ h => (by cases h), fun _ _ _ h => (by cases h), fun _ _ _ _ _ h => (by cases h), fun _ _ h => (by cases h)⟩
  refine Calls.mono (hcs w G (fun _ => none) w _ G vs hh (fun _ _ => ⟨rfl, fun _ => rfl, rfl⟩) (RepL.free as _ hid hrep)) fun e w' he => ?_
  obtain ⟨v, β', G', rfl, _, _, hh', _, hr⟩ := he
  obtain ⟨G2, hx2, hh2, hs2⟩ := show_rows hh' (rowsOf r)
  obtain ⟨k1, k2⟩ := frz_rep hx2 (show_same _ _) h2 hs2 hr
  exact ⟨v, G2, rfl, hh2.below, hh2.g0, hh2.agree, k2, Rep.free d v k2 k1⟩

theorem pure_of_heap {n : Nat} (hH : HeapOk P E (evX E n false)) : PureOk P (pureOf E n) := pureH_ok hH

theorem fw_none : fw none = Fence.wide := rfl

/-- A function on a heap, whatever its calls are. -/
def runF (E : Env) (call : Nat → List DV → Option DV) (callH callY : CallH) (n : Nat) : CallH := fun f args objs next =>
  (E.fn f).bind fun F => bif Nat.ble args.length F.nt then
    (evC E none f F call callH callY n 0 F.body ⟨argBase F.vmask 0 args .leaf, objs, next⟩).bind fun r =>
      match r.1 with
      | .exit _ | .busy => none
      | _ => (resD E r.2.base.get r.2.objs.get F.nres).bind fun vs => some (pack vs, r.2.objs, r.2.next)
    else none

theorem runF_heap (hE : ∀ t ti, E.ty t = some ti → TyOk P t ti) (hFn : ∀ f F, E.fn f = some F → FnOk P f F) (hmix : P.follows .mixedOrders = true) {n : Nat} {call : Nat → List DV → Option DV} {callH callY : CallH} (hp : PureOk P call) (hH : HeapOk P E callH) (hY : YieldOk P E callY) : HeapOk P E (runF E call callH callY n) :=
  fun g as objs nx r objs' nx' hd => by
    unfold runF at hd
    obtain ⟨F, hF, hd⟩ := some_bind hd
    obtain ⟨hle, hd⟩ := bif_some hd
    obtain ⟨⟨ex, s'⟩, hc, hd⟩ := some_bind hd
    obtain ⟨⟨fn, hf1, hf2, hf3, hf4⟩, hent⟩ := hFn g F hF
    refine ⟨hent, fun w0 G0 D w β G vs hh hfr hrep => ?_⟩
    have hlen : as.length ≤ F.nt := Nat.le_of_ble_eq_true hle
    have hvl := repL_len hrep
    have hvs : vs.size = as.length := by simpa using hvl
    have hvals : ∃ rs, resD E s'.base.get s'.objs.get F.nres = some rs ∧ r = pack rs ∧ objs' = s'.objs ∧ nx' = s'.next ∧ (ex = .normal ∨ ex = .ret) := by
      cases ex with
      | normal => obtain ⟨rs, h1, h2⟩ := some_bind hd; cases h2; exact ⟨rs, h1, rfl, rfl, rfl, .inl rfl⟩
      | ret => obtain ⟨rs, h1, h2⟩ := some_bind hd; cases h2; exact ⟨rs, h1, rfl, rfl, rfl, .inr rfl⟩
      | exit i => cases hd
      | busy => cases hd
    obtain ⟨rs, hrs, rfl, rfl, rfl, hex⟩ := hvals
    refine (callsIn_wide (n := 0)).1 (callsIn_of_wp_marks hf1 hf2 trivial ?_)
    rw [hf3]
    have hm : SS E w0 G0 D F.vmask F.nt [] ⟨argBase F.vmask 0 as .leaf, objs, nx⟩ { tmps := vs ++ Array.replicate (F.nt - vs.size) undef, defers := [] } w β G := by
      refine ⟨fun t d ht => ?_, fun t d ht => ?_, ?_, by rw [pushD_nil]; exact hh, hfr, rfl, List.nodup_nil, by simp⟩
      · rcases argBase_get as 0 .leaf t d ht with ⟨_, h2, _⟩ | h1
        · obtain ⟨v, h3, h4⟩ := repL_get hrep (i := t) (d := d) (by simpa using h2)
          refine ⟨v, ?_, h4⟩
          have h5 : vs[t]? = some v := by simpa using h3
          have hlt : t < vs.size := (Array.getElem?_eq_some_iff.1 h5).1
          show (vs ++ Array.replicate (F.nt - vs.size) undef)[t]? = some v
          rw [Array.getElem?_append_left hlt]; exact h5
        · cases h1
      · rcases argBase_get as 0 .leaf t d ht with ⟨_, _, h3⟩ | h1
        · exact h3
        · cases h1
      · show (vs ++ Array.replicate (F.nt - vs.size) undef).size = F.nt
        simp; omega
    have hpost : ∀ own' a' w' β' G', nx ≤ s'.next → SS E w0 G0 D F.vmask F.nt own' s' a' w' β' G' → Go2 nx β G β' G' objs.get s'.objs.get →
        LeavesInM Fence.wide 0 P fn a'.tmps (HeapPost E w0 G0 D β G objs nx (pack rs) s'.objs s'.next) a'.defers .returning w' := fun own' a' w' β' G' k1 k2 k3 => by
      rw [k2.df.1]
      refine leaves_marks (fun w2 h2 => ?_) own' w' k2.df.2 k2.hr
      obtain ⟨v, h3, h4⟩ := results_sound hE k2.fr h2 hf4 hrs
      exact ⟨v, h3, v, β', G', rfl, k1, k3, h2, k2.fresh, h4⟩
    refine evC_sound (ro := none) (rnd := none) hE hmix hp hH hY hF n F.body 0 _ ex s' hc [] _ w β G _ rfl hm fun own' a' w' β' G' k1 k2 k3 => ?_
    rcases hex with rfl | rfl
    · exact hpost own' a' w' β' G' k1 k2 k3
    · exact hpost own' a' w' β' G' k1 k2 k3

theorem evX_heap (hE : ∀ t ti, E.ty t = some ti → TyOk P t ti) (hFn : ∀ f F, E.fn f = some F → FnOk P f F) (hmix : P.follows .mixedOrders = true) {n : Nat} (hH : HeapOk P E (evX E n false)) (hY : YieldOk P E (evX E n true)) : HeapOk P E (evX E (n + 1) false) :=
  runF_heap (n := n) hE hFn hmix (pure_of_heap hH) hH hY

/-- One round of a loop, whatever its calls are. -/
def runY (E : Env) (call : Nat → List DV → Option DV) (callH callY : CallH) (n : Nat) : CallH := fun l args objs next => (match objs.get l with
    | some (.loop fid base ps assign body bid .normal) => (E.fn fid).bind fun F => (setParams F.vmask F.nt ps args base).bind fun b =>
        let run := evC E (some l) fid F call callH callY n bid
        (run assign ⟨b, objs, next⟩).bind fun r => (match r.1, r.2.objs.get l with
        | .normal, some (.loop fid2 base2 ps2 assign2 body2 bid2 .normal) => (run body { r.2 with objs := r.2.objs.set l (some (.loop fid2 base2 ps2 assign2 body2 bid2 .busy)) }).bind fun r => (match r.1, r.2.objs.get l with
          | .busy, _ => none
          | ex, some (.loop fid3 base3 ps3 assign3 body3 bid3 .busy) => some (.bool (match ex with | .normal => true | _ => false), r.2.objs.set l (some (.loop fid3 base3 ps3 assign3 body3 bid3 ex)), r.2.next)
          | _, _ => none)
        | _, _ => none)
    | _ => none)

theorem runY_yield (hE : ∀ t ti, E.ty t = some ti → TyOk P t ti) (hmix : P.follows .mixedOrders = true) {n : Nat} {call : Nat → List DV → Option DV} {callH callY : CallH} (hp : PureOk P call) (hH : HeapOk P E callH) (hY : YieldOk P E callY) : YieldOk P E (runY E call callH callY n) :=
  fun l as objs nx r objs' nx' hd w0 G0 D w β G vs b hb hh hfr hrep => by
    unfold runY at hd
    split at hd
    · rename_i fid base ps assign body bid hob
      obtain ⟨F, hF, hd⟩ := some_bind hd
      obtain ⟨b1, hset, hd⟩ := some_bind hd
      obtain ⟨⟨ex1, s1⟩, hc1, hd⟩ := some_bind hd
      obtain ⟨b', tm, df, fn, F', k1, k2, k3, k4, k5, k6⟩ := hh.obj l _ hob
      rw [hb] at k1; cases k1
      rw [hF] at k4; cases k4
      obtain ⟨m1, m2, m3, m4⟩ := setParams_sound ps as base b1 vs.toList tm hset hrep k3 k5 k6
      have hsz : vs.size = ps.toArray.size := by simpa using m1.symm
      have hfold : (ps.toArray.zip vs).foldl (fun tmps (t, a) => tmps.setIfInBounds t a) tm = (ps.zip vs.toList).foldl (fun tmps (t, a) => tmps.setIfInBounds t a) tm := by
        rw [← Array.foldl_toList]; simp
      refine ⟨fn, _, assign, body, run_yield k2 hsz, fun n => ?_⟩
      refine roundIn_of_wpIn trivial ?_
      simp only
      rw [hfold]
      have hm : SS E w0 G0 D F.vmask F.nt [] ⟨b1, objs, nx⟩ { tmps := (ps.zip vs.toList).foldl (fun tmps (t, a) => tmps.setIfInBounds t a) tm, defers := [] } w β G :=
        ⟨m2, m4, m3, by rw [pushD_nil]; exact hh, hfr, rfl, List.nodup_nil, by simp⟩
      refine evC_sound (ro := some b) (rnd := some l) hE hmix hp hH hY hF _ assign bid _ ex1 s1 hc1 [] _ w β G _ ⟨b, rfl, hb⟩ hm fun own1 a1 w1 β1 G1 q1 q2 q3 => ?_
      split at hd
      · rename_i fid2 bs2 ps2 as2 bo2 bid2 hex1 hob2
        replace hex1 : ex1 = .normal := hex1
        replace hob2 : s1.objs.get l = some (.loop fid2 bs2 ps2 as2 bo2 bid2 .normal) := hob2
        subst hex1
        obtain ⟨⟨ex2, s2⟩, hc2, hd⟩ := some_bind hd
        have hb1 : β1.blk l = some b := q3.ext.blk _ _ hb
        obtain ⟨b'', tm2, df2, fn2, F2, j1, j2, j3⟩ := q2.hr.obj l _ hob2
        rw [hb1] at j1; cases j1
        have hst1 : ∀ id, Keep1 β1 β1 s1.objs.get (s1.objs.set l (some (.loop fid2 bs2 ps2 as2 bo2 bid2 .busy))).get id := fun id hf => ⟨by
          rw [Tr.get_set]
          by_cases e : id = l
          · subst e; rw [hf] at hob2; cases hob2
          · rw [if_neg e]; exact hf, rfl, fun _ => rfl⟩
        have hh2 : HR E w0 G0 (pushD own1 D) (w1.putObj b (.loop { state := .busy, pending := jumpOf .normal, fn := fn2, tmps := tm2, params := ps2.toArray, assign := as2, body := bo2, defers := df2 })) β1 G1 (s1.objs.set l (some (.loop fid2 bs2 ps2 as2 bo2 bid2 .busy))).get := by
          refine (turn_obj (o' := .loop fid2 bs2 ps2 as2 bo2 bid2 .busy) (ob' := .loop { state := .busy, pending := jumpOf .normal, fn := fn2, tmps := tm2, params := ps2.toArray, assign := as2, body := bo2, defers := df2 }) q2.hr hob2 hb1 j2 (by simp) (fun x hx => ?_) ?_).eq fun i => by rw [Tr.get_set, updF_one]
          · simp only [Owns] at hx; rw [hb1] at hx; cases hx; rfl
          · exact ⟨b, tm2, df2, fn2, F2, hb1, by rw [World.putObj_heap_same (Array.getElem?_eq_some_iff.1 j2).1]; simp [jumpOf], j3⟩
        refine ⟨_, run_beginRound j2 rfl, ?_⟩
        refine evC_sound (ro := some b) (rnd := some l) hE hmix hp hH hY hF _ body bid { s1 with objs := s1.objs.set l (some (.loop fid2 bs2 ps2 as2 bo2 bid2 .busy)) } ex2 s2 hc2 own1 a1 _ β1 G1 _ ⟨b, rfl, hb1⟩
          ⟨q2.fr, q2.dom, q2.sz, hh2, fun id hid => (hst1 id).fresh (q2.fresh id hid), q2.df⟩ fun own3 a3 w3 β3 G3 p1 p2 p3 => ?_
        have hfin : ex2 ≠ .busy ∧ ∃ fid3 bs3 ps3 as3 bo3 bid3, s2.objs.get l = some (.loop fid3 bs3 ps3 as3 bo3 bid3 .busy) ∧ r = .bool (jumpOf ex2).isNone ∧ objs' = s2.objs.set l (some (.loop fid3 bs3 ps3 as3 bo3 bid3 ex2)) ∧ nx' = s2.next := by
          split at hd
          · cases hd
          · rename_i hl3 hne
            cases hd
            have hne' : ex2 ≠ .busy := fun e => hne e
            refine ⟨hne', _, _, _, _, _, _, hl3, ?_, rfl, rfl⟩
            clear hc2 hl3
            cases ex2 <;> first | rfl | exact absurd rfl hne'
          · cases hd
        obtain ⟨hnb, fid3, bs3, ps3, as3, bo3, bid3, hob3, rfl, rfl, rfl⟩ := hfin
        have hb3 : β3.blk l = some b := p3.ext.blk _ _ hb1
        obtain ⟨b4, tm3, df3, fn3, F3, i1, i2, i3⟩ := p2.hr.obj l _ hob3
        rw [hb3] at i1; cases i1
        have hend := run_endRound (P := P) (jumpOf ex2) i2
        have hh4 : HR E w0 G0 (pushD own3 D) (w3.putObj b (.loop { state := (if (jumpOf ex2).isNone then .ready else .done), pending := jumpOf ex2, fn := fn3, tmps := tm3, params := ps3.toArray, assign := as3, body := bo3, defers := df3 })) β3 G3 (s2.objs.set l (some (.loop fid3 bs3 ps3 as3 bo3 bid3 ex2))).get := by
          refine (turn_obj (o' := .loop fid3 bs3 ps3 as3 bo3 bid3 ex2) (ob' := .loop { state := (if (jumpOf ex2).isNone then .ready else .done), pending := jumpOf ex2, fn := fn3, tmps := tm3, params := ps3.toArray, assign := as3, body := bo3, defers := df3 }) p2.hr hob3 hb3 i2 (by simp) (fun x hx => ?_) ?_).eq fun i => by rw [Tr.get_set, updF_one]
          · simp only [Owns] at hx; rw [hb3] at hx; cases hx; rfl
          · refine ⟨b, tm3, df3, fn3, F3, hb3, ?_, i3⟩
            rw [World.putObj_heap_same (Array.getElem?_eq_some_iff.1 i2).1]
            cases ex2 <;> simp [jumpOf] at hnb ⊢
        have hst3 : ∀ id, Keep1 β3 β3 s2.objs.get (s2.objs.set l (some (.loop fid3 bs3 ps3 as3 bo3 bid3 ex2))).get id := fun id hf => ⟨by
          rw [Tr.get_set]
          by_cases e : id = l
          · subst e; rw [hf] at hob3; cases hob3
          · rw [if_neg e]; exact hf, rfl, fun _ => rfl⟩
        have hpost : HeapPost E w0 G0 D β G objs nx (.bool (jumpOf ex2).isNone) (s2.objs.set l (some (.loop fid3 bs3 ps3 as3 bo3 bid3 ex2))) s2.next (.returned (.bool (jumpOf ex2).isNone)) (w3.putObj b (.loop { state := (if (jumpOf ex2).isNone then .ready else .done), pending := jumpOf ex2, fn := fn3, tmps := tm3, params := ps3.toArray, assign := as3, body := bo3, defers := df3 })) := by
          refine ⟨_, β3, G3, rfl, Nat.le_trans q1 p1, q3.trans ⟨p3.ext, fun id hid => ((hst1 id).trans (p3.keep id (Nat.lt_of_lt_of_le hid q1))).trans (hst3 id)⟩, hh4.lessD (fun d x hd => ?_), fun id hid => (hst3 id).fresh (p2.fresh id hid), rep_bool.2 ?_⟩
          · unfold pushD
            rw [if_neg (fun hm => by rw [p2.df.2.2 d hm] at hd; cases hd)]
            exact hd
          rfl
        cases ex2 with
        | normal => exact ⟨_, _, hend, hpost⟩
        | exit i => exact ⟨_, _, hend, hpost⟩
        | ret => exact ⟨_, _, hend, hpost⟩
        | busy => exact absurd rfl hnb
      · cases hd
    · cases hd

theorem evX_yield (hE : ∀ t ti, E.ty t = some ti → TyOk P t ti) (hmix : P.follows .mixedOrders = true) {n : Nat} (hH : HeapOk P E (evX E n false)) (hY : YieldOk P E (evX E n true)) : YieldOk P E (evX E (n + 1) true) :=
  runY_yield (n := n) hE hmix (pure_of_heap hH) hH hY

/-- The evaluator with other calls of plain values. -/
def evXg (E : Env) (call : Nat → List DV → Option DV) : Nat → Bool → CallH
  | 0, _ => fun _ _ _ _ => none
  | n + 1, false => runF E call (evXg E call n false) (evXg E call n true) n
  | n + 1, true => runY E call (evXg E call n false) (evXg E call n true) n

theorem evXg_sound (hE : ∀ t ti, E.ty t = some ti → TyOk P t ti) (hFn : ∀ f F, E.fn f = some F → FnOk P f F) (hmix : P.follows .mixedOrders = true) {call : Nat → List DV → Option DV} (hp : PureOk P call) : ∀ n, HeapOk P E (evXg E call n false) ∧ YieldOk P E (evXg E call n true)
  | 0 => ⟨fun _ _ _ _ _ _ _ h => by simp [evXg] at h, fun _ _ _ _ _ _ _ h => by simp [evXg] at h⟩
  | n + 1 =>
    have ih := evXg_sound hE hFn hmix hp n
    ⟨runF_heap hE hFn hmix hp ih.1 ih.2, runY_yield hE hmix hp ih.1 ih.2⟩

theorem evX_sound (hE : ∀ t ti, E.ty t = some ti → TyOk P t ti) (hFn : ∀ f F, E.fn f = some F → FnOk P f F) (hmix : P.follows .mixedOrders = true) : ∀ n, HeapOk P E (evX E n false) ∧ YieldOk P E (evX E n true)
  | 0 => ⟨fun _ _ _ _ _ _ _ h => by simp [evX] at h, fun _ _ _ _ _ _ _ h => by simp [evX] at h⟩
  | n + 1 =>
    have ih := evX_sound hE hFn hmix n
    ⟨evX_heap hE hFn hmix ih.1 ih.2, evX_yield hE hmix ih.1 ih.2⟩

/-- THE END: a function of plain values. -/
theorem evF_sound (hE : ∀ t ti, E.ty t = some ti → TyOk P t ti) (hFn : ∀ f F, E.fn f = some F → FnOk P f F) (hmix : P.follows .mixedOrders = true) {n f : Nat} {as : List DV} {d : DV} (hd : evF E n f as = some d)
    {w : World} {β : Bi} {G : Gh} {vs : Array Value} (hag : ∀ b o v, G b o = some v → w.cell? ⟨b, o, none⟩ = some v) (hrep : RepL β G as vs.toList) (hid : idfrees as = true) :
    Calls P f vs w fun e w' => ∃ v G', e = .returned v ∧ Below w.heap.size w w' ∧ (∀ b, b < w.heap.size → G' b = G b) ∧ (∀ b o v, G' b o = some v → w'.cell? ⟨b, o, none⟩ = some v) ∧ idfree d = true ∧ Rep β G' d v :=
  ((pure_of_heap (evX_sound hE hFn hmix n).1) f as d hd).2 w β G vs hag hrep hid

/-! Calls that are known beforehand -/
mutual
def dvEq : DV → DV → Bool
  | .bool a, .bool b => a == b
  | .int k a, .int k' b => k == k' && a == b
  | .str a, .str b => a.data.toList == b.data.toList
  | .nils, .nils => true
  | .nilp, .nilp => true
  | .sl a, .sl b => dvEqE a b
  | .agg a, .agg b => dvEqs a b
  | _, _ => false
def dvEqs : List DV → List DV → Bool
  | [], [] => true
  | a :: as, b :: bs => dvEq a b && dvEqs as bs
  | _, _ => false
def dvEqE : List (List DV) → List (List DV) → Bool
  | [], [] => true
  | a :: as, b :: bs => dvEqs a b && dvEqE as bs
  | _, _ => false
end

mutual
theorem dvEq_eq : ∀ (a b : DV), dvEq a b = true → a = b
  | .bool a, b, h => by cases b <;> simp [dvEq] at h; rw [h]
  | .int k a, b, h => by cases b <;> simp [dvEq] at h; rw [h.1, h.2]
  | .str a, b, h => by
    cases b <;> simp [dvEq] at h
    rename_i b
    cases a; cases b
    simp only at h
    rw [h]
  | .nils, b, h => by cases b <;> simp [dvEq] at h; rfl
  | .nilp, b, h => by cases b <;> simp [dvEq] at h; rfl
  | .sl a, b, h => by
    cases b <;> simp [dvEq] at h
    rw [dvEqE_eq _ _ h]
  | .agg a, b, h => by
    cases b <;> simp [dvEq] at h
    rw [dvEqs_eq _ _ h]
  | .ptr _ _, b, h => by simp [dvEq] at h
  | .rptr _ _ _ _ _, b, h => by simp [dvEq] at h
  | .pub _, b, h => by simp [dvEq] at h
  | .rs _ _, b, h => by simp [dvEq] at h
  | .tup _, b, h => by simp [dvEq] at h
  | .fn _ _ _, b, h => by simp [dvEq] at h
  | .nilfn, b, h => by simp [dvEq] at h
  | .map _, b, h => by simp [dvEq] at h
  | .nilmap, b, h => by simp [dvEq] at h
  | .iface _ _, b, h => by simp [dvEq] at h
  | .nilif, b, h => by simp [dvEq] at h
  | .iter _, b, h => by simp [dvEq] at h
  | .yld _, b, h => by simp [dvEq] at h
theorem dvEqs_eq : ∀ (a b : List DV), dvEqs a b = true → a = b
  | [], b, h => by cases b <;> simp [dvEqs] at h; rfl
  | a :: as, b, h => by
    cases b <;> simp [dvEqs] at h
    rw [dvEq_eq _ _ h.1, dvEqs_eq _ _ h.2]
theorem dvEqE_eq : ∀ (a b : List (List DV)), dvEqE a b = true → a = b
  | [], b, h => by cases b <;> simp [dvEqE] at h; rfl
  | a :: as, b, h => by
    cases b <;> simp [dvEqE] at h
    rw [dvEqs_eq _ _ h.1, dvEqE_eq _ _ h.2]
end

def look : List (Nat × List DV × DV) → Nat → List DV → Option DV
  | [], _, _ => none
  | (f, xs, d) :: l, g, as => bif Nat.beq f g && dvEqs xs as then some d else look l g as

/-- Some functions are looked up, the others run. -/
def someF (E : Env) (l : List (Nat × List DV × DV)) (n : Nat) (g : Nat) (as : List DV) : Option DV := bif l.any fun e => Nat.beq e.1 g then look l g as else evF E n g as

/-- A function of whose calls of plain values some are known. -/
def topF (E : Env) (l : List (Nat × List DV × DV)) (n f : Nat) (as : List DV) : Option DV := pureH (evXg E (someF E l n) n false) f as

theorem look_ok (hE : ∀ t ti, E.ty t = some ti → TyOk P t ti) (hFn : ∀ f F, E.fn f = some F → FnOk P f F) (hmix : P.follows .mixedOrders = true) : ∀ {l : List (Nat × List DV × DV)}, (∀ e ∈ l, ∃ c, PureOk P c ∧ c e.1 e.2.1 = some e.2.2) → PureOk P (look l)
  | [], _ => fun g as d h => by cases h
  | (f, xs, e) :: l, hl => fun g as d h => by
    simp only [look] at h
    cases hq : Nat.beq f g && dvEqs xs as with
    | true =>
      rw [hq] at h
      cases h
      simp only [Bool.and_eq_true] at hq
      have h1 := Nat.eq_of_beq_eq_true hq.1
      have h2 := dvEqs_eq _ _ hq.2
      subst h1 h2
      obtain ⟨c, h3, h4⟩ := hl (f, xs, e) (by simp)
      exact h3 f xs e h4
    | false =>
      rw [hq] at h
      exact look_ok hE hFn hmix (fun e he => hl e (by simp [he])) g as d h

theorem evF_pure (hE : ∀ t ti, E.ty t = some ti → TyOk P t ti) (hFn : ∀ f F, E.fn f = some F → FnOk P f F) (hmix : P.follows .mixedOrders = true) (n : Nat) : PureOk P (evF E n) := pure_of_heap (evX_sound hE hFn hmix n).1

theorem topF_pure (hE : ∀ t ti, E.ty t = some ti → TyOk P t ti) (hFn : ∀ f F, E.fn f = some F → FnOk P f F) (hmix : P.follows .mixedOrders = true) {l : List (Nat × List DV × DV)} (hl : ∀ e ∈ l, ∃ c, PureOk P c ∧ c e.1 e.2.1 = some e.2.2) (n : Nat) : PureOk P (topF E l n) :=
  pureH_ok (evXg_sound hE hFn hmix (call := someF E l n) (fun g as d h => by
    unfold someF at h
    cases hq : l.any fun e => Nat.beq e.1 g with
    | true => rw [hq] at h; exact look_ok hE hFn hmix hl g as d h
    | false => rw [hq] at h; exact evF_pure hE hFn hmix n g as d h) n).1

end
end Go.Ab
