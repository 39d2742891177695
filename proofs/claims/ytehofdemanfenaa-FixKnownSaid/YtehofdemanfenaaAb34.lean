/- A call gets the part of the heap that it reaches; the rest stays as it is. -/
import Derived.Test.YtehofdemanfenaaAb17
namespace Go.Ab
open Go.RowKit

section
variable {P : Program} {E : Env} {w0 : World} {G0 : Gh} {D : DD} {w : World} {β : Bi} {G : Gh} {h : Nat → Option AObj}

def isShown (h : Nat → Option AObj) (i : Nat) : Bool := match h i with | some (.row _ _ p _) => Nat.beq p 1 | _ => false

theorem shown_nil (h : Nat → Option AObj) (is : List Nat) : showRows h (is.filter (isShown h)) = [] := by
  induction is with
  | nil => rfl
  | cons i is ih =>
    rw [List.filter_cons]
    cases hq : isShown h i with
    | false => simpa using ih
    | true =>
      simp only [if_true, showRows, ih, List.append_nil]
      unfold isShown at hq
      split at hq
      · rename_i p _ hi
        rw [hi]; simp only [hq, cond_true]
      · cases hq

theorem frzC_rep {G' : Gh} (hx : Ext β G β G') {is : List Nat} (hs : ∀ i ∈ is.filter (isShown h), Shown E β G' h i) {hv : Nat → Option AObj} (hvw : ∀ i ∈ is, ∀ x, hv i = some x → h i = some x) {d : DV} {v : Value} (hm : ∀ i ∈ rowsOf d, i ∈ is) (hr : Rep β G d v) : Rep β G' (frzC hv d) v := by
  unfold frzC
  split
  · rename_i id ver
    split
    · rename_i es p u ho'
      have ho := hvw id (hm id (by simp [rowsOf])) _ ho'
      cases hq : Nat.beq p 1 && Nat.beq u ver with
      | false => exact Rep.mono hx _ _ hr
      | true =>
        simp only [Bool.and_eq_true] at hq
        have hf : frz h (.rs id ver) = some (.sl es) := by simp [frz, ho, hq.2]
        refine (frz_rep hx (fun i t es p u hi => ⟨p, hi⟩) hf (fun i hi => hs i (List.mem_filter.2 ⟨hm i hi, ?_⟩)) hr).1
        have : i = id := by simpa [rowsOf] using hi
        subst this
        unfold isShown
        rw [ho]; exact hq.1
    · exact Rep.mono hx _ _ hr
  · exact Rep.mono hx _ _ hr

theorem frzCs_rep {G' : Gh} (hx : Ext β G β G') {is : List Nat} (hs : ∀ i ∈ is.filter (isShown h), Shown E β G' h i) {hv : Nat → Option AObj} (hvw : ∀ i ∈ is, ∀ x, hv i = some x → h i = some x) : ∀ {ds : List DV} {vs : List Value}, (∀ i ∈ rowsOfs ds, i ∈ is) → RepL β G ds vs → RepL β G' (ds.map (frzC hv)) vs
  | [], vs, _, hr => by
    rw [repL_nil] at hr
    exact repL_nil.2 hr
  | d :: ds, vs, hm, hr => by
    obtain ⟨v, vs', rfl, h1, h2⟩ := repL_cons.1 hr
    exact repL_cons.2 ⟨v, vs', rfl, frzC_rep hx hs hvw (fun i hi => hm i (by simp [rowsOfs, hi])) h1, frzCs_rep hx hs hvw (fun i hi => hm i (by simp [rowsOfs, hi])) h2⟩

theorem frzS_rep {G' : Gh} (hx : Ext β G β G') {is : List Nat} (hs : ∀ i ∈ is.filter (isShown h), Shown E β G' h i) {hv : Nat → Option AObj} (hvw : ∀ i ∈ is, ∀ x, hv i = some x → h i = some x) {d : DV} {v : Value} (hm : ∀ i ∈ rowsOf d, i ∈ is) (hr : Rep β G d v) : Rep β G' (frzS hv d) v := by
  unfold frzS
  split
  · rename_i cs
    obtain ⟨vs, rfl, hr2⟩ := rep_agg.1 hr
    exact rep_agg.2 ⟨vs, rfl, frzCs_rep hx hs hvw (by simpa [rowsOf] using hm) hr2⟩
  · exact frzC_rep hx hs hvw hm hr

theorem frzSs_rep {G' : Gh} (hx : Ext β G β G') {is : List Nat} (hs : ∀ i ∈ is.filter (isShown h), Shown E β G' h i) {hv : Nat → Option AObj} (hvw : ∀ i ∈ is, ∀ x, hv i = some x → h i = some x) : ∀ {ds : List DV} {vs : List Value}, (∀ i ∈ rowsOfs ds, i ∈ is) → RepL β G ds vs → RepL β G' (ds.map (frzS hv)) vs
  | [], vs, _, hr => by
    rw [repL_nil] at hr
    exact repL_nil.2 hr
  | d :: ds, vs, hm, hr => by
    obtain ⟨v, vs', rfl, h1, h2⟩ := repL_cons.1 hr
    exact repL_cons.2 ⟨v, vs', rfl, frzS_rep hx hs hvw (fun i hi => hm i (by simp [rowsOfs, hi])) h1, frzSs_rep hx hs hvw (fun i hi => hm i (by simp [rowsOfs, hi])) h2⟩

theorem frz_args (hh : HR E w0 G0 D w β G h) {as : List DV} {vs : List Value} (hr : RepL β G as vs) {hv : Nat → Option AObj} (hvw : ∀ i ∈ rowsOfs as, ∀ x, hv i = some x → h i = some x) :
    ∃ G', Ext β G β G' ∧ HR E w0 G0 D w β G' h ∧ RepL β G' (as.map (frzS hv)) vs := by
  obtain ⟨G', h1, h2, h3⟩ := show_rows hh ((rowsOfs as).filter (isShown h))
  rw [shown_nil] at h2 h3
  exact ⟨G', h1, h2, frzSs_rep h1 h3 hvw (fun i hi => hi) hr⟩

/-! The part of the heap -/
open Classical in
noncomputable def cutD (D : DD) (w : World) (β : Bi) (G : Gh) (h s : Nat → Option AObj) : DD := fun b => match D b with
  | some x => some x
  | none => if ∃ i x, h i = some x ∧ s i = none ∧ Owns β i x b then (w.heap[b]?).map fun ob => (ob, G b) else none

theorem cut_other {s : Nat → Option AObj} (hh : HR E w0 G0 D w β G h) {i b : Nat} {x : AObj} (hi : h i = some x) (hs : s i = none) (ho : Owns β i x b) :
    ∃ ob, w.heap[b]? = some ob ∧ cutD D w β G h s b = some (ob, G b) := by
  obtain ⟨_, hb, hd⟩ := hh.own i x b hi ho
  refine ⟨w.heap[b], by simp [hb], ?_⟩
  unfold cutD
  rw [hd]
  simp only
  rw [if_pos ⟨i, x, hi, hs, ho⟩]
  simp [hb]

theorem cut_none {s : Nat → Option AObj} {b : Nat} (hn : cutD D w β G h s b = none) : D b = none := by
  unfold cutD at hn
  cases hd : D b with
  | none => rfl
  | some x => rw [hd] at hn; cases hn

theorem cut_old {s : Nat → Option AObj} {b : Nat} {x : Obj × (Nat → Option Value)} (hd : D b = some x) : cutD D w β G h s b = some x := by
  unfold cutD
  rw [hd]

theorem cut_in {s : Nat → Option AObj} (hh : HR E w0 G0 D w β G h) (hs : ∀ i x, s i = some x → h i = some x) : HR E w0 G0 (cutD D w β G h s) w β G s := by
  refine ⟨hh.below, hh.g0, hh.agree, fun i o hi => hh.obj i o (hs i o hi), fun i o b hi ho => ?_, fun i j o p b hi hj => hh.inj i j o p b (hs i o hi) (hs j p hj), fun d x hd => ?_⟩
  · obtain ⟨k1, k2, k3⟩ := hh.own i o b (hs i o hi) ho
    refine ⟨k1, k2, ?_⟩
    unfold cutD
    rw [k3]
    simp only
    rw [if_neg]
    rintro ⟨j, y, h1, h2, h3⟩
    have := hh.inj i j o y b (hs i o hi) h1 ho h3
    subst this
    rw [hi] at h2; cases h2
  · unfold cutD at hd
    cases hq : D d with
    | some y =>
      rw [hq] at hd
      simp only [Option.some.injEq] at hd
      subst hd
      exact hh.marks d y hq
    | none =>
      rw [hq] at hd
      simp only at hd
      split at hd
      · rename_i he
        obtain ⟨i, y, h1, h2, h3⟩ := he
        obtain ⟨k1, k2, k3⟩ := hh.own i y d h1 h3
        simp only [k2, getElem?_pos, Option.map_some, Option.some.injEq] at hd
        subst hd
        exact ⟨k1, by simp [k2], fun _ => rfl⟩
      · cases hd

theorem updFind_map (f : Nat → Option AObj) : ∀ (L : List Nat) (id : Nat), updFind id (L.map fun i => (i, f i)) = if id ∈ L then some (f id) else none
  | [], _ => rfl
  | i :: L, id => by
    simp only [List.map_cons, updFind, updFind_map f L id]
    by_cases e : id ∈ L
    · simp [e]
    · simp only [e, if_false, List.mem_cons, or_false, Tr.beq_dec]
      by_cases e2 : i = id
      · subst e2; simp
      · have : ¬ id = i := fun q => e2 q.symm
        simp [e2, this]

def cutL (o : Tr AObj) (R : List Nat) (nx : Nat) : List Nat := R ++ ((o.ents 1 0).map (·.1)).filter (Nat.ble nx)

theorem cutL_mem {o : Tr AObj} {R : List Nat} {nx i : Nat} (hi : i ∈ cutL o R nx) : i ∈ R ∨ nx ≤ i := by
  unfold cutL at hi
  rcases List.mem_append.1 hi with h | h
  · exact .inl h
  · exact .inr (Nat.le_of_ble_eq_true (List.mem_filter.1 h).2)

theorem updF_cut (h : Nat → Option AObj) (o : Tr AObj) (R : List Nat) (nx id : Nat) : updF h (cutUpd o R nx) id = if id ∈ cutL o R nx then o.get id else h id := by
  unfold updF cutUpd
  rw [updFind_map o.get]
  unfold cutL
  split <;> rename_i q
  · split at q
    · rename_i e; cases q; rw [if_pos e]
    · cases q
  · split at q
    · cases q
    · rename_i e; rw [if_neg e]

/-- What a call on a part of the heap has left of the whole. -/
def CutPost (E : Env) (w0 : World) (G0 : Gh) (D : DD) (β : Bi) (G : Gh) (h : Nat → Option AObj) (nx : Nat) (r : DV) (upd : List (Nat × Option AObj)) (nx' : Nat) (e : Ending) (w' : World) : Prop :=
  ∃ v β' G', e = .returned v ∧ nx ≤ nx' ∧ Ext β G β' G' ∧ (∀ id, id < nx → Keep1 β β' h (updF h upd) id) ∧ HR E w0 G0 D w' β' G' (updF h upd) ∧ (∀ id, nx' ≤ id → Fresh β' (updF h upd) id) ∧ Rep β' G' r v

theorem cut_out {s : Tr AObj} {R : List Nat} {nx : Nat} (hh : HR E w0 G0 D w β G h) (hs : ∀ i x, s.get i = some x → h i = some x) (hsR : ∀ i x, s.get i = some x → i ∈ R) (hfr : ∀ id, nx ≤ id → Fresh β h id) {r : DV} {o' : Tr AObj} {nx' : Nat} {e : Ending} {w' : World}
    (hp : HeapPost E w0 G0 (cutD D w β G h s.get) β G s nx r o' nx' e w') : CutPost E w0 G0 D β G h nx r (cutUpd o' R nx) nx' e w' := by
  obtain ⟨v, β', G', rfl, hle, hgo, hhr, hf', hv⟩ := hp
  have hget : ∀ i x, updF h (cutUpd o' R nx) i = some x → (i ∈ cutL o' R nx ∧ o'.get i = some x) ∨ (h i = some x ∧ s.get i = none ∧ i < nx) := fun i x hi => by
    rw [updF_cut] at hi
    by_cases e : i ∈ cutL o' R nx
    · rw [if_pos e] at hi; exact .inl ⟨e, hi⟩
    · rw [if_neg e] at hi
      refine .inr ⟨hi, ?_, ?_⟩
      · cases hq : s.get i with
        | none => rfl
        | some y => exact absurd (List.mem_append_left _ (hsR i y hq)) e
      · rcases Nat.lt_or_ge i nx with q | q
        · exact q
        · rw [(hfr i q).h] at hi; cases hi
  have hkeep : ∀ i, s.get i = none → i < nx → o'.get i = none ∧ β'.blk i = β.blk i ∧ ∀ u, β'.hdr i u = β.hdr i u := fun i hi hlt => hgo.keep i hlt hi
  have hoth : ∀ i x b, h i = some x → s.get i = none → i < nx → Owns β' i x b → ∃ ob, w.heap[b]? = some ob ∧ cutD D w β G h s.get b = some (ob, G b) := fun i x b hi hn hlt hb => by
    obtain ⟨_, k2, k3⟩ := hkeep i hn hlt
    exact cut_other hh hi hn ((owns_eq k2 k3 x b).1 hb)
  refine ⟨v, β', G', rfl, hle, hgo.ext, fun id hid hn => ?_, ⟨hhr.below, hhr.g0, hhr.agree, fun i x hi => ?_, fun i x b hi hb => ?_, fun i j x y b hi hj hb hc => ?_, fun d x hd => hhr.marks d x (cut_old hd)⟩, fun id hid => ?_, hv⟩
  · have hsn : s.get id = none := by
      cases hq : s.get id with
      | none => rfl
      | some y => rw [hs id y hq] at hn; cases hn
    obtain ⟨k1, k2, k3⟩ := hkeep id hsn hid
    refine ⟨?_, k2, k3⟩
    rw [updF_cut]
    split
    · exact k1
    · exact hn
  · rcases hget i x hi with ⟨_, h1⟩ | ⟨h1, h2, h3⟩
    · exact hhr.obj i x h1
    · obtain ⟨_, k2, k3⟩ := hkeep i h2 h3
      refine ObjR.keep hgo.ext k3 (fun b hb => ?_) (hh.obj i x h1)
      obtain ⟨ob, m1, m2⟩ := cut_other (D := D) hh h1 h2 hb
      obtain ⟨_, m3, m4⟩ := hhr.marks b _ m2
      exact ⟨m3.trans m1.symm, m4⟩
  · rcases hget i x hi with ⟨_, h1⟩ | ⟨h1, h2, h3⟩
    · obtain ⟨k1, k2, k3⟩ := hhr.own i x b h1 hb
      exact ⟨k1, k2, cut_none k3⟩
    · obtain ⟨_, k2, k3⟩ := hkeep i h2 h3
      obtain ⟨m1, _, m3⟩ := hh.own i x b h1 ((owns_eq k2 k3 x b).1 hb)
      obtain ⟨ob, _, m5⟩ := hoth i x b h1 h2 h3 hb
      exact ⟨m1, (Array.getElem?_eq_some_iff.1 (hhr.marks b _ m5).2.1).1, m3⟩
  · rcases hget i x hi with ⟨_, h1⟩ | ⟨h1, h2, h3⟩ <;> rcases hget j y hj with ⟨_, g1⟩ | ⟨g1, g2, g3⟩
    · exact hhr.inj i j x y b h1 g1 hb hc
    · obtain ⟨ob, _, m2⟩ := hoth j y b g1 g2 g3 hc
      rw [(hhr.own i x b h1 hb).2.2] at m2; cases m2
    · obtain ⟨ob, _, m2⟩ := hoth i x b h1 h2 h3 hb
      rw [(hhr.own j y b g1 hc).2.2] at m2; cases m2
    · obtain ⟨_, k2, k3⟩ := hkeep i h2 h3
      obtain ⟨_, k4, k5⟩ := hkeep j g2 g3
      exact hh.inj i j x y b h1 g1 ((owns_eq k2 k3 x b).1 hb) ((owns_eq k4 k5 y b).1 hc)
  · have hf := hf' id hid
    refine ⟨hf.blk, hf.hdr, ?_⟩
    rw [updF_cut]
    split
    · exact hf.h
    · exact (hfr id (by omega)).h

theorem subTr_get (h : Nat → Option AObj) : ∀ (R : List Nat) (i : Nat), (subTr h R).get i = if i ∈ R then h i else none
  | [], _ => rfl
  | j :: R, i => by
    simp only [subTr, Tr.get_set, subTr_get h R]
    by_cases e : i = j
    · subst e; simp
    · simp [e]

theorem callCut_le {callH callY : CallH} (hv : Nat → Option AObj) (nx : Nat) (tgt : DV × List DV) (out : Out) (T : List Nat) (nx2 : Nat) (hd : callCut callH callY hv nx tgt = some (out, T, nx2)) : nx ≤ nx2 := by
  unfold callCut at hd
  split at hd
  · unfold cutRun at hd
    obtain ⟨x, _, hd⟩ := some_bind hd
    obtain ⟨hq, hd⟩ := bif_some hd
    cases hd
    exact Nat.le_of_ble_eq_true hq
  · unfold cutRun at hd
    obtain ⟨x, _, hd⟩ := some_bind hd
    obtain ⟨hq, hd⟩ := bif_some hd
    cases hd
    exact Nat.le_of_ble_eq_true hq
  · cases hd

/-- The call itself. -/
theorem callCut_sound (hE : ∀ t ti, E.ty t = some ti → TyOk P t ti) {callH callY : CallH} (hH : HeapOk P E callH) (hY : YieldOk P E callY) {o : Oper} {a : Act} {ro : Option Nat} {n : Nat} {ρ : Nat → Option DV} (hf : FrM β G ρ a.tmps) {c : Call} (ho : isCall o.op = some c) {tgt : DV × List DV}
    (ht : target E ρ c = some tgt) (hh : HR E w0 G0 D w β G h) {hv : Nat → Option AObj} {nx nx' : Nat} {out : Out} {T : List Nat} (hd : callCut callH callY hv nx tgt = some (out, T, nx')) (hvw : ∀ i ∈ T, ∀ x, hv i = some x → h i = some x) (hfr : ∀ id, nx ≤ id → Fresh β h id)
    {K : Act → World → Prop} {Q : Exit → Act → World → Prop}
    (hk : ∀ v w' β' G', (∀ d, out.val = some d → Rep β' G' d v) → nx ≤ nx' → Ext β G β' G' → (∀ id, id < nx → Keep1 β β' h (updF h out.upd) id) → HR E w0 G0 D w' β' G' (updF h out.upd) → (∀ id, nx' ≤ id → Fresh β' (updF h out.upd) id) → K (a.put o.dst v) w') : o.wpIn (fw ro) n P a w K Q := by
  have hop := isCall_some ho
  have hsub : ∀ {R : List Nat}, (∀ i ∈ R, i ∈ T) → (∀ i x, (subTr hv R).get i = some x → h i = some x) ∧ (∀ i x, (subTr hv R).get i = some x → i ∈ R) := fun {R} hRT => by
    refine ⟨fun i x hi => ?_, fun i x hi => ?_⟩
    · rw [subTr_get] at hi
      split at hi
      · rename_i hm; exact hvw i (hRT i hm) x hi
      · cases hi
    · rw [subTr_get] at hi
      split at hi
      · rename_i hm; exact hm
      · cases hi
  unfold callCut at hd
  split at hd
  · rename_i g x y as
    unfold cutRun at hd
    obtain ⟨⟨r, o', nx2⟩, hc, hd⟩ := some_bind hd
    obtain ⟨_, hd⟩ := bif_some hd
    cases hd
    obtain ⟨hent, hcs⟩ := hH _ _ _ _ _ _ _ hc
    obtain ⟨vs, hrun, hrep⟩ := target_fn (w := w) hE hf hop ht hent
    obtain ⟨G1, hx1, hh1, hrep1⟩ := frz_args hh hrep (hv := hv) (fun i hi x hx => hvw i (List.mem_append_left _ hi) x hx)
    obtain ⟨hs, hsR⟩ := hsub (R := reach hv 4096 (rids (as.map (frzS hv))) []) (fun i hi => List.mem_append_right _ hi)
    refine ⟨fun f _ => trivial, ?_⟩
    rw [Oper.semAt_eq _ _ _ (by rw [hop]; simp), hrun, Oper.uponIn_enter]
    have hfr1 : ∀ id, nx ≤ id → Fresh β (subTr hv (reach hv 4096 (rids (as.map (frzS hv))) [])).get id := fun id hid => ⟨(hfr id hid).blk, (hfr id hid).hdr, by
      cases hq : (subTr hv (reach hv 4096 (rids (as.map (frzS hv))) [])).get id with
      | none => rfl
      | some y => have := hs id y hq; rw [(hfr id hid).h] at this; cases this⟩
    refine ⟨fun hq => by simp [fw, Fence.wide] at hq, calls_fw (Calls.mono (hcs w0 G0 _ w β G1 vs (cut_in hh1 hs) hfr1 hrep1) fun e w' he => ?_)⟩
    obtain ⟨v, β', G', rfl, hle, hx, hkp, hh2, hf2, hv2⟩ := cut_out hh1 hs hsR hfr he
    exact hk v w' β' G' (fun d hd => by cases hd; exact hv2) hle (hx1.trans hx) hkp hh2 hf2
  · rename_i l as
    unfold cutRun at hd
    obtain ⟨⟨r, o', nx2⟩, hc, hd⟩ := some_bind hd
    obtain ⟨_, hd⟩ := bif_some hd
    cases hd
    obtain ⟨vs, b, hb, hrun, hrep⟩ := target_yld hf hop ht
    obtain ⟨G1, hx1, hh1, hrep1⟩ := frz_args hh hrep (hv := hv) (fun i hi x hx => hvw i (List.mem_append_left _ hi) x hx)
    obtain ⟨hs, hsR⟩ := hsub (R := reach hv 4096 (l :: rids (as.map (frzS hv))) []) (fun i hi => List.mem_append_right _ hi)
    have hfr1 : ∀ id, nx ≤ id → Fresh β (subTr hv (reach hv 4096 (l :: rids (as.map (frzS hv))) [])).get id := fun id hid => ⟨(hfr id hid).blk, (hfr id hid).hdr, by
      cases hq : (subTr hv (reach hv 4096 (l :: rids (as.map (frzS hv))) [])).get id with
      | none => rfl
      | some y => have := hs id y hq; rw [(hfr id hid).h] at this; cases this⟩
    obtain ⟨lf, tm, as', bo, hy, hround⟩ := hY _ _ _ _ _ _ _ hc w0 G0 _ w β G1 vs b hb (cut_in hh1 hs) hfr1 hrep1
    refine ⟨fun f _ => trivial, ?_⟩
    rw [Oper.semAt_eq _ _ _ (by rw [hop]; simp), hrun, hy, Oper.uponIn_round]
    refine ⟨fun hq => by simp [fw, Fence.wide] at hq, round_fw (RoundIn.mono (hround _) fun e w' he => ?_)⟩
    obtain ⟨v, β', G', rfl, hle, hx, hkp, hh2, hf2, hv2⟩ := cut_out hh1 hs hsR hfr he
    exact hk v w' β' G' (fun d hd => by cases hd; exact hv2) hle (hx1.trans hx) hkp hh2 hf2
  · cases hd

end
end Go.Ab
