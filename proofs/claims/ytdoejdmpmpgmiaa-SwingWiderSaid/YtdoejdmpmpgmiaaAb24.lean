/- Functions: the induction over the fuel; and the end: a call of plain values. -/
import Derived.Test.YtdoejdmpmpgmiaaAb23
set_option linter.unusedSectionVars false
set_option linter.unusedVariables false
set_option linter.unusedSimpArgs false
namespace Go.Ab
open Go.RowKit

section
variable {P : Program} {E : Env}

def pureOf (E : Env) (n : Nat) (g : Nat) (as : List DV) : Option DV := (evX E n false g as .leaf 0).bind fun x => frz x.2.1.get x.1

theorem pure_of_heap {n : Nat} (hH : HeapOk P E (evX E n false)) : PureOk P (pureOf E n) := fun g as d hd => by
  unfold pureOf at hd
  obtain ⟨⟨r, objs', nx'⟩, h1, h2⟩ := some_bind hd
  obtain ⟨hent, hcs⟩ := hH _ _ _ _ _ _ _ h1
  refine ⟨hent, fun w β G vs hag hrep hid => ?_⟩
  have hh : HR E w G [] w ⟨fun _ => none, fun _ _ => none⟩ G (Tr.leaf : Tr AObj).get :=
    ⟨Below.refl _ _, fun _ _ => rfl, hag, fun _ _ h => (by cases h), fun _ _ _ h => (by cases h), fun _ _ _ _ _ h => (by cases h), fun _ h => (by cases h)⟩
  refine Calls.mono (hcs w G [] w _ G vs List.nodup_nil hh (fun _ _ => ⟨rfl, fun _ => rfl, rfl⟩) (RepL.free as _ hid hrep)) fun e w' he => ?_
  obtain ⟨v, β', G', rfl, _, _, hh', _, hr⟩ := he
  obtain ⟨G2, hx2, hh2, hs2⟩ := show_rows hh' (rowsOf r)
  obtain ⟨k1, k2⟩ := frz_rep hx2 (show_same _ _) h2 hs2 hr
  exact ⟨v, G2, rfl, hh2.below, hh2.g0, hh2.agree, k2, Rep.free d v k2 k1⟩

theorem fw_none : fw none = Fence.wide := rfl

theorem evX_heap (hE : ∀ t ti, E.ty t = some ti → TyOk P t ti) (hFn : ∀ f F, E.fn f = some F → FnOk P f F) (hmix : P.follows .mixedOrders = true) {n : Nat} (hH : HeapOk P E (evX E n false)) (hY : YieldOk P E (evX E n true)) : HeapOk P E (evX E (n + 1) false) :=
  fun g as objs nx r objs' nx' hd => by
    simp only [evX] at hd
    obtain ⟨F, hF, hd⟩ := some_bind hd
    obtain ⟨hle, hd⟩ := bif_some hd
    obtain ⟨⟨ex, s'⟩, hc, hd⟩ := some_bind hd
    obtain ⟨⟨fn, hf1, hf2, hf3, hf4⟩, hent⟩ := hFn g F hF
    refine ⟨hent, fun w0 G0 D w β G vs hnd hh hfr hrep => ?_⟩
    have hlen : as.length ≤ F.nt := Nat.le_of_ble_eq_true hle
    have hvl := repL_len hrep
    have hvs : vs.size = as.length := by simpa using hvl
    have hvals : ∃ rs, resD E s'.base.get s'.objs.get F.nres = some rs ∧ r = pack rs ∧ objs' = s'.objs ∧ nx' = s'.next ∧ (ex = .normal ∨ ex = .ret) := by
      cases ex with
      | normal => obtain ⟨rs, h1, h2⟩ := some_bind hd; cases h2; exact ⟨rs, h1, rfl, rfl, rfl, .inl rfl⟩
      | ret => obtain ⟨rs, h1, h2⟩ := some_bind hd; cases h2; exact ⟨rs, h1, rfl, rfl, rfl, .inr rfl⟩
      | exit i => cases hd
      | busy => cases hd
    obtain ⟨rs, hrs, rfl, rfl, rfl, hex⟩ := hvals
    refine (callsIn_wide (n := 0)).1 (callsIn_of_wp_marks hf1 hf2 trivial ?_)
    rw [hf3]
    have hm : SS E w0 G0 D F.vmask F.nt [] ⟨argBase F.vmask 0 as .leaf, objs, nx⟩ { tmps := vs ++ Array.replicate (F.nt - vs.size) undef, defers := [] } w β G := by
      refine ⟨fun t d ht => ?_, fun t d ht => ?_, ?_, hh, hfr, rfl, hnd⟩
      · rcases argBase_get as 0 .leaf t d ht with ⟨_, h2, _⟩ | h1
        · obtain ⟨v, h3, h4⟩ := repL_get hrep (i := t) (d := d) (by simpa using h2)
          refine ⟨v, ?_, h4⟩
          have h5 : vs[t]? = some v := by simpa using h3
          have hlt : t < vs.size := (Array.getElem?_eq_some_iff.1 h5).1
          show (vs ++ Array.replicate (F.nt - vs.size) undef)[t]? = some v
          rw [Array.getElem?_append_left hlt]; exact h5
        · cases h1
      · rcases argBase_get as 0 .leaf t d ht with ⟨_, _, h3⟩ | h1
        · exact h3
        · cases h1
      · show (vs ++ Array.replicate (F.nt - vs.size) undef).size = F.nt
        simp; omega
    have hpost : ∀ own' a' w' β' G', nx ≤ s'.next → SS E w0 G0 D F.vmask F.nt own' s' a' w' β' G' → Go2 nx β G β' G' objs.get s'.objs.get →
        LeavesInM Fence.wide 0 P fn a'.tmps (HeapPost E w0 G0 D β G objs nx (pack rs) s'.objs s'.next) a'.defers .returning w' := fun own' a' w' β' G' k1 k2 k3 => by
      rw [k2.df.1]
      refine leaves_marks (fun w2 h2 => ?_) own' w' k2.df.2 k2.hr
      obtain ⟨v, h3, h4⟩ := results_sound hE k2.fr h2 hf4 hrs
      exact ⟨v, h3, v, β', G', rfl, k1, k3, h2, k2.fresh, h4⟩
    refine evC_sound (ro := none) (rnd := none) hE hmix (pure_of_heap hH) hH hY hF n F.body 0 _ ex s' hc [] _ w β G _ rfl hm fun own' a' w' β' G' k1 k2 k3 => ?_
    rcases hex with rfl | rfl
    · exact hpost own' a' w' β' G' k1 k2 k3
    · exact hpost own' a' w' β' G' k1 k2 k3

theorem evX_yield (hE : ∀ t ti, E.ty t = some ti → TyOk P t ti) (hmix : P.follows .mixedOrders = true) {n : Nat} (hH : HeapOk P E (evX E n false)) (hY : YieldOk P E (evX E n true)) : YieldOk P E (evX E (n + 1) true) :=
  fun l as objs nx r objs' nx' hd w0 G0 D w β G vs b hnd hb hh hfr hrep => by
    simp only [evX] at hd
    split at hd
    · rename_i fid base ps assign body bid hob
      obtain ⟨F, hF, hd⟩ := some_bind hd
      obtain ⟨b1, hset, hd⟩ := some_bind hd
      obtain ⟨⟨ex1, s1⟩, hc1, hd⟩ := some_bind hd
      obtain ⟨b', tm, df, fn, F', k1, k2, k3, k4, k5, k6⟩ := hh.obj l _ hob
      rw [hb] at k1; cases k1
      rw [hF] at k4; cases k4
      obtain ⟨m1, m2, m3, m4⟩ := setParams_sound ps as base b1 vs.toList tm hset hrep k3 k5 k6
      have hsz : vs.size = ps.toArray.size := by simpa using m1.symm
      have hfold : (ps.toArray.zip vs).foldl (fun tmps (t, a) => tmps.setIfInBounds t a) tm = (ps.zip vs.toList).foldl (fun tmps (t, a) => tmps.setIfInBounds t a) tm := by
        rw [← Array.foldl_toList]; simp
      refine ⟨fn, _, assign, body, run_yield k2 hsz, fun n => ?_⟩
      refine roundIn_of_wpIn trivial ?_
      simp only
      rw [hfold]
      have hm : SS E w0 G0 D F.vmask F.nt [] ⟨b1, objs, nx⟩ { tmps := (ps.zip vs.toList).foldl (fun tmps (t, a) => tmps.setIfInBounds t a) tm, defers := [] } w β G :=
        ⟨m2, m4, m3, hh, hfr, rfl, hnd⟩
      refine evC_sound (ro := some b) (rnd := some l) hE hmix (pure_of_heap hH) hH hY hF _ assign bid _ ex1 s1 hc1 [] _ w β G _ ⟨b, rfl, hb⟩ hm fun own1 a1 w1 β1 G1 q1 q2 q3 => ?_
      split at hd
      · rename_i fid2 bs2 ps2 as2 bo2 bid2 hex1 hob2
        replace hex1 : ex1 = .normal := hex1
        replace hob2 : s1.objs.get l = some (.loop fid2 bs2 ps2 as2 bo2 bid2 .normal) := hob2
        subst hex1
        obtain ⟨⟨ex2, s2⟩, hc2, hd⟩ := some_bind hd
        have hb1 : β1.blk l = some b := q3.ext.blk _ _ hb
        obtain ⟨b'', tm2, df2, fn2, F2, j1, j2, j3⟩ := q2.hr.obj l _ hob2
        rw [hb1] at j1; cases j1
        have hst1 : ∀ id, Fresh β1 s1.objs.get id → Fresh β1 (s1.objs.set l (some (.loop fid2 bs2 ps2 as2 bo2 bid2 .busy))).get id := fun id hf => ⟨hf.blk, hf.hdr, by
          rw [Tr.get_set]
          by_cases e : id = l
          · subst e; rw [hf.h] at hob2; cases hob2
          · rw [if_neg e]; exact hf.h⟩
        have hh2 : HR E w0 G0 (own1 ++ D) (w1.putObj b (.loop { state := .busy, pending := jumpOf .normal, fn := fn2, tmps := tm2, params := ps2.toArray, assign := as2, body := bo2, defers := df2 })) β1 G1 (s1.objs.set l (some (.loop fid2 bs2 ps2 as2 bo2 bid2 .busy))).get := by
          refine (turn_obj (o' := .loop fid2 bs2 ps2 as2 bo2 bid2 .busy) (ob' := .loop { state := .busy, pending := jumpOf .normal, fn := fn2, tmps := tm2, params := ps2.toArray, assign := as2, body := bo2, defers := df2 }) q2.hr hob2 hb1 j2 (by simp) (fun x hx => ?_) ?_).eq fun i => by rw [Tr.get_set, updF_one]
          · simp only [Owns] at hx; rw [hb1] at hx; cases hx; rfl
          · exact ⟨b, tm2, df2, fn2, F2, hb1, by rw [World.putObj_heap_same (Array.getElem?_eq_some_iff.1 j2).1]; simp [jumpOf], j3⟩
        refine ⟨_, run_beginRound j2 rfl, ?_⟩
        refine evC_sound (ro := some b) (rnd := some l) hE hmix (pure_of_heap hH) hH hY hF _ body bid { s1 with objs := s1.objs.set l (some (.loop fid2 bs2 ps2 as2 bo2 bid2 .busy)) } ex2 s2 hc2 own1 a1 _ β1 G1 _ ⟨b, rfl, hb1⟩
          ⟨q2.fr, q2.dom, q2.sz, hh2, fun id hid => hst1 id (q2.fresh id hid), q2.df⟩ fun own3 a3 w3 β3 G3 p1 p2 p3 => ?_
        have hfin : ex2 ≠ .busy ∧ ∃ fid3 bs3 ps3 as3 bo3 bid3, s2.objs.get l = some (.loop fid3 bs3 ps3 as3 bo3 bid3 .busy) ∧ r = .bool (jumpOf ex2).isNone ∧ objs' = s2.objs.set l (some (.loop fid3 bs3 ps3 as3 bo3 bid3 ex2)) ∧ nx' = s2.next := by
          split at hd
          · cases hd
          · rename_i hl3 hne
            cases hd
            have hne' : ex2 ≠ .busy := fun e => hne e
            refine ⟨hne', _, _, _, _, _, _, hl3, ?_, rfl, rfl⟩
            clear hc2 hl3
            cases ex2 <;> first | rfl | exact absurd rfl hne'
          · cases hd
        obtain ⟨hnb, fid3, bs3, ps3, as3, bo3, bid3, hob3, rfl, rfl, rfl⟩ := hfin
        have hb3 : β3.blk l = some b := p3.ext.blk _ _ hb1
        obtain ⟨b4, tm3, df3, fn3, F3, i1, i2, i3⟩ := p2.hr.obj l _ hob3
        rw [hb3] at i1; cases i1
        have hend := run_endRound (P := P) (jumpOf ex2) i2
        have hh4 : HR E w0 G0 (own3 ++ D) (w3.putObj b (.loop { state := (if (jumpOf ex2).isNone then .ready else .done), pending := jumpOf ex2, fn := fn3, tmps := tm3, params := ps3.toArray, assign := as3, body := bo3, defers := df3 })) β3 G3 (s2.objs.set l (some (.loop fid3 bs3 ps3 as3 bo3 bid3 ex2))).get := by
          refine (turn_obj (o' := .loop fid3 bs3 ps3 as3 bo3 bid3 ex2) (ob' := .loop { state := (if (jumpOf ex2).isNone then .ready else .done), pending := jumpOf ex2, fn := fn3, tmps := tm3, params := ps3.toArray, assign := as3, body := bo3, defers := df3 }) p2.hr hob3 hb3 i2 (by simp) (fun x hx => ?_) ?_).eq fun i => by rw [Tr.get_set, updF_one]
          · simp only [Owns] at hx; rw [hb3] at hx; cases hx; rfl
          · refine ⟨b, tm3, df3, fn3, F3, hb3, ?_, i3⟩
            rw [World.putObj_heap_same (Array.getElem?_eq_some_iff.1 i2).1]
            cases ex2 <;> simp [jumpOf] at hnb ⊢
        have hst3 : ∀ id, Fresh β3 s2.objs.get id → Fresh β3 (s2.objs.set l (some (.loop fid3 bs3 ps3 as3 bo3 bid3 ex2))).get id := fun id hf => ⟨hf.blk, hf.hdr, by
          rw [Tr.get_set]
          by_cases e : id = l
          · subst e; rw [hf.h] at hob3; cases hob3
          · rw [if_neg e]; exact hf.h⟩
        have hpost : HeapPost E w0 G0 D β G objs nx (.bool (jumpOf ex2).isNone) (s2.objs.set l (some (.loop fid3 bs3 ps3 as3 bo3 bid3 ex2))) s2.next (.returned (.bool (jumpOf ex2).isNone)) (w3.putObj b (.loop { state := (if (jumpOf ex2).isNone then .ready else .done), pending := jumpOf ex2, fn := fn3, tmps := tm3, params := ps3.toArray, assign := as3, body := bo3, defers := df3 })) := by
          refine ⟨_, β3, G3, rfl, Nat.le_trans q1 p1, q3.trans ⟨p3.ext, fun id hid hf => hst3 id (p3.stay id (Nat.lt_of_lt_of_le hid q1) (hst1 id hf))⟩, hh4.lessD (fun d hd => by simp [hd]), fun id hid => hst3 id (p2.fresh id hid), rep_bool.2 ?_⟩
          rfl
        cases ex2 with
        | normal => exact ⟨_, _, hend, hpost⟩
        | exit i => exact ⟨_, _, hend, hpost⟩
        | ret => exact ⟨_, _, hend, hpost⟩
        | busy => exact absurd rfl hnb
      · cases hd
    · cases hd

theorem evX_sound (hE : ∀ t ti, E.ty t = some ti → TyOk P t ti) (hFn : ∀ f F, E.fn f = some F → FnOk P f F) (hmix : P.follows .mixedOrders = true) : ∀ n, HeapOk P E (evX E n false) ∧ YieldOk P E (evX E n true)
  | 0 => ⟨fun _ _ _ _ _ _ _ h => by simp [evX] at h, fun _ _ _ _ _ _ _ h => by simp [evX] at h⟩
  | n + 1 =>
    have ih := evX_sound hE hFn hmix n
    ⟨evX_heap hE hFn hmix ih.1 ih.2, evX_yield hE hmix ih.1 ih.2⟩

/-- THE END: a function of plain values. -/
theorem evF_sound (hE : ∀ t ti, E.ty t = some ti → TyOk P t ti) (hFn : ∀ f F, E.fn f = some F → FnOk P f F) (hmix : P.follows .mixedOrders = true) {n f : Nat} {as : List DV} {d : DV} (hd : evF E n f as = some d)
    {w : World} {β : Bi} {G : Gh} {vs : Array Value} (hag : ∀ b o v, G b o = some v → w.cell? ⟨b, o, none⟩ = some v) (hrep : RepL β G as vs.toList) (hid : idfrees as = true) :
    Calls P f vs w fun e w' => ∃ v G', e = .returned v ∧ Below w.heap.size w w' ∧ (∀ b, b < w.heap.size → G' b = G b) ∧ (∀ b o v, G' b o = some v → w'.cell? ⟨b, o, none⟩ = some v) ∧ idfree d = true ∧ Rep β G' d v :=
  ((pure_of_heap (evX_sound hE hFn hmix n).1) f as d hd).2 w β G vs hag hrep hid

end
end Go.Ab
