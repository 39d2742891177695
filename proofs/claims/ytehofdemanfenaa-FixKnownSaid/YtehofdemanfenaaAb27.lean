/- A region whose order is drawn: whatever the order. -/
import Derived.Test.YtehofdemanfenaaAb21
namespace Go.Ab
open Go.RowKit

section
variable {P : Program} {E : Env} {w0 : World} {G0 : Gh} {outer : DD} {own : List Nat} {V nt : Nat} {a : Act} {w : World} {β : Bi} {G : Gh} {ro : Option Nat} {n : Nat} {call : Nat → List DV → Option DV} {callH callY : CallH} {ops : Array Oper} {b : Nat} {m : Mid}

/-- The state when L is done. -/
structure DS (E : Env) (w0 : World) (G0 : Gh) (outer : DD) (V nt : Nat) (own : List Nat) (ops : Array Oper) (b nx : Nat) (m : Mid) (ds : List (Nat × Done)) (L : Nat → Bool) (β0 : Bi) (Gz : Gh) (hz : Nat → Option AObj) (a : Act) (w : World) (β : Bi) (G : Gh) : Prop where
  fr : FrM β G (seenL L (slotOf V m.base m.loc) ds) a.tmps
  dom : ∀ t d, m.base.get t = some d → Nat.testBit V t = true
  sz : a.tmps.size = nt
  hr : HR E w0 G0 (pushD own outer) w β G (hL L m.objs.get ds)
  fresh : ∀ id, nx ≤ id → Fresh β (hL L m.objs.get ds) id
  df : a.defers = own.map markOf ∧ ApartD own outer
  un : ∀ j, j < ops.size → L j = false → Fresh β (hL L m.objs.get ds) (b + j)
  unc : ∀ j d lo hi, (j, d) ∈ ds → d.new = some (lo, hi) → L j = false → ∀ id, lo ≤ id → id < hi → Fresh β (hL L m.objs.get ds) id
  down : Down L ds
  go : Go2 b β0 Gz β G hz (hL L m.objs.get ds)

theorem seg_mem : ∀ {ds : List (Nat × Done)} {k nx : Nat}, SegOk E call callH callY V nt ops b m k nx ds → ∀ j d, (j, d) ∈ ds → ∃ tl o nx1 nx2, EntryOk E call callH callY V nt ops b m j nx1 nx2 o d tl ∧ ∀ e ∈ tl, e ∈ ds
  | [], _, _, _, _, _, h => by cases h
  | (i, d) :: ds, k, nx, h, j, d', hj => by
    obtain ⟨_, nx0, ⟨o, ho⟩, h4⟩ := h
    rcases List.mem_cons.1 hj with hj | hj
    · cases hj; exact ⟨ds, o, nx0, nx, ho, fun e he => by simp [he]⟩
    · obtain ⟨tl, o', n1, n2, k1, k2⟩ := seg_mem h4 j d' hj
      exact ⟨tl, o', n1, n2, k1, fun e he => by simp [k2 e he]⟩

theorem anc_done {ds : List (Nat × Done)} {L : Nat → Bool} {o : Oper} {k : Nat} (hd : Down L ds) {tl : List (Nat × Done)} (htl : ∀ e ∈ tl, e ∈ ds) (he : ∀ e ∈ o.after, Region.binds .any e = true → L e.on = true) :
    ∀ i, Nat.testBit (ancOf ops tl o k) i = true → L i = true := fun i hi => by
  obtain ⟨e, h1, h2, _, h4⟩ := anc_bits hi
  rcases h4 with rfl | ⟨d, h5, h6⟩
  · exact he e h1 h2
  · exact hd e.on d (htl _ h5) (he e h1 h2) i h6

theorem looks_op {o : Oper} {t : Nat} (h : Operand.tmp t ∈ o.op.operands) : t ∈ o.looksAt ops :=
  List.mem_append_left _ (List.mem_filterMap.2 ⟨.tmp t, by simpa using h, rfl⟩)

theorem opnd_view {o : Oper} {ρ ρ' : Nat → Option DV} (h : ∀ t v, t ∈ o.looksAt ops → ρ t = some v → ρ' t = some v) {x : Operand} (hx : x ∈ o.op.operands) {d : DV} (hd : opnd ρ x = some d) : opnd ρ' x = some d := by
  cases x with
  | tmp t => exact h t d (looks_op hx) hd
  | _ => exact hd

theorem wanted_view {o : Oper} {ρ ρ' : Nat → Option DV} (h : ∀ t v, t ∈ o.looksAt ops → ρ t = some v → ρ' t = some v) {want : Bool} (hw : wantedD ops ρ o = some want) : wantedD ops ρ' o = some want := by
  unfold wantedD at hw ⊢
  cases hg : o.guard with
  | none => rw [hg] at hw; exact hw
  | some g =>
    obtain ⟨j, wt⟩ := g
    rw [hg] at hw
    simp only at hw ⊢
    cases hd : (ops[j]?).bind (·.dst) with
    | none => rw [hd] at hw; cases hw
    | some t =>
      rw [hd] at hw
      simp only at hw ⊢
      cases hr : ρ t with
      | none => rw [hr] at hw; cases hw
      | some d =>
        rw [hr] at hw
        rw [h t d (List.mem_append_right _ (by rw [hg]; simp [hd])) hr]
        exact hw

theorem opnds_view {ρ ρ' : Nat → Option DV} : ∀ {xs : List Operand} {ds : List DV}, (∀ x ∈ xs, ∀ dd, opnd ρ x = some dd → opnd ρ' x = some dd) → opnds ρ xs = some ds → opnds ρ' xs = some ds
  | [], _, _, h => h
  | x :: xs, ds, hv, h => by
    simp only [opnds] at h ⊢
    obtain ⟨v, h1, h⟩ := some_bind h
    obtain ⟨vs, h2, h⟩ := some_bind h
    rw [hv x (by simp) v h1, Option.bind_some, opnds_view (fun y hy => hv y (by simp [hy])) h2]
    exact h

theorem target_view {ρ ρ' : Nat → Option DV} {c : Call} {tgt : DV × List DV} (hv : ∀ x ∈ c.operands, ∀ dd, opnd ρ x = some dd → opnd ρ' x = some dd) (h : target E ρ c = some tgt) : target E ρ' c = some tgt := by
  have hargs : ∀ x ∈ c.args.toList, x ∈ c.operands := fun x hx => by
    unfold Call.operands
    split <;> simp_all
  unfold target at h ⊢
  split at h
  · rename_i f hc
    obtain ⟨v, h1, h⟩ := some_bind h
    have hf : f ∈ c.operands := by unfold Call.operands; rw [hc]; simp
    rw [hv f hf v h1]
    simp only [Option.bind_some]
    split at h
    · obtain ⟨as, h2, h⟩ := some_bind h
      rw [opnds_view (fun x hx => hv x (hargs x hx)) h2]; exact h
    · obtain ⟨as, h2, h⟩ := some_bind h
      rw [opnds_view (fun x hx => hv x (hargs x hx)) h2]; exact h
    · cases h
  · rename_i rv mm hc
    obtain ⟨v, h1, h⟩ := some_bind h
    have hf : rv ∈ c.operands := by unfold Call.operands; rw [hc]; simp
    rw [hv rv hf v h1]
    simp only [Option.bind_some]
    split at h
    · obtain ⟨ti, h2, h⟩ := some_bind h
      obtain ⟨g, h3, h⟩ := some_bind h
      obtain ⟨as, h4, h⟩ := some_bind h
      rw [h2, Option.bind_some, h3, Option.bind_some, opnds_view (fun x hx => hv x (hargs x hx)) h4]; exact h
    · cases h
  · cases h

theorem touch_mem {ρ : Nat → Option DV} {op : Op} {x : Operand} (hx : x ∈ op.operands) {d : DV} (hd : opnd ρ x = some d) {id : Nat} (hid : id ∈ idsOf d) : id ∈ touch ρ op := by
  unfold touch
  rw [List.mem_flatMap]
  exact ⟨x, by simpa using hx, by rw [hd]; exact hid⟩

/-- One operation, whenever it comes. -/
theorem op_step (hE : ∀ t ti, E.ty t = some ti → TyOk P t ti) (hp : PureOk P call) (hH : HeapOk P E callH) (hY : YieldOk P E callY) {ds : List (Nat × Done)} {nx : Nat} (hs : SegOk E call callH callY V nt ops b m ops.size nx ds) {L L' : Nat → Bool} {k : Nat} (hk2 : k < ops.size) (hle : b + ops.size ≤ m.next)
    (hk : L k = false) (hL' : ∀ j, L' j = if j = k then true else L j) {o : Oper} (ho : ops[k]? = some o) (hready : ∀ e ∈ o.after, Region.binds .any e = true → L e.on = true) {β0 : Bi} {Gz : Gh} {hz : Nat → Option AObj}
    (hst : DS E w0 G0 outer V nt own ops b nx m ds L β0 Gz hz a w β G) {K : Act → World → Prop} {Q : Exit → Act → World → Prop} (hK : ∀ a' w' β' G', DS E w0 G0 outer V nt own ops b nx m ds L' β0 Gz hz a' w' β' G' → K a' w') : wpOpIn (fw ro) n P ops Q k K a w := by
  obtain ⟨d, tl, o', nx1, nx2, h1, h2, h3, h4, h5⟩ := seg_view hk hL' hs hst.down hk2
  have heo : o' = o := by have := h2.op; rw [ho] at this; cases this; rfl
  subst heo
  obtain ⟨hnx, hcalls⟩ := seg_le hs
  have hanc_all : ∀ d', (k, d') ∈ ds → ∀ i, Nat.testBit d'.anc i = true → L i = true := fun d' hd' i hi => by
    obtain ⟨tl', o2, _, _, q1, q2⟩ := seg_mem hs k d' hd'
    have : o2 = o' := by have := q1.op; rw [ho] at this; cases this; rfl
    subst this
    rw [q1.anc] at hi
    exact anc_done hst.down q2 hready i hi
  obtain ⟨v1, v2⟩ := h3 (hanc_all d h1)
  have hdown : Down L' ds := fun j dj hj hlj i hi => by
    rw [hL']
    by_cases e : i = k
    · rw [if_pos e]
    · rw [if_neg e]
      by_cases e2 : j = k
      · subst e2; exact hanc_all dj hj i hi
      · rw [hL', if_neg e2] at hlj
        exact hst.down j dj hj hlj i hi
  have heq : ∀ id, hL L' m.objs.get ds id = updF (hL L m.objs.get ds) d.out.upd id := fun id => h5 id
  have hnext : ∀ (v : Value) (w' : World) (β' : Bi) (G' : Gh), (∀ dd, d.out.val = some dd → Rep β' G' dd v) → Ext β G β' G' → HR E w0 G0 (pushD own outer) w' β' G' (updF (hL L m.objs.get ds) d.out.upd) →
      (∀ id, id < b → Keep1 β β' (hL L m.objs.get ds) (hL L' m.objs.get ds) id) → (∀ id, nx ≤ id → Fresh β' (hL L' m.objs.get ds) id) → (∀ j, j < ops.size → j ≠ k → Fresh β (hL L m.objs.get ds) (b + j) → Fresh β' (hL L' m.objs.get ds) (b + j)) →
      (∀ j dj lo hi, (j, dj) ∈ ds → dj.new = some (lo, hi) → L' j = false → ∀ id, lo ≤ id → id < hi → Fresh β' (hL L' m.objs.get ds) id) →
      DS E w0 G0 outer V nt own ops b nx m ds L' β0 Gz hz (a.put o'.dst v) w' β' G' := fun v w' β' G' hv hx hh hkp hf1 hf2 hf3 => by
    obtain ⟨s1, s2⟩ := put_size (a := a) o'.dst v
    refine ⟨frm_put hx hst.sz hst.fr hv fun t dd ht => ?_, hst.dom, s1.trans hst.sz, hh.eq heq, hf1, ⟨s2.trans hst.df.1, hst.df.2⟩, fun j hjs hlj => ?_, hf3, hdown, hst.go.trans ⟨hx, hkp⟩⟩
    · rw [h4, h2.dst] at ht
      by_cases e : o'.dst = some t
      · rw [if_pos e] at ht
        exact .inl ⟨e, h2.fits t e, ht⟩
      · rw [if_neg e] at ht
        exact .inr ⟨fun q => e q.1, ht⟩
    · rw [hL'] at hlj
      by_cases e : j = k
      · rw [if_pos e] at hlj; cases hlj
      · rw [if_neg e] at hlj
        exact hf2 j hjs e (hst.un j hjs hlj)
  have hsimple : d.new = none → ∀ (v : Value) (w' : World) (β' : Bi) (G' : Gh), (∀ dd, d.out.val = some dd → Rep β' G' dd v) → Ext β G β' G' → HR E w0 G0 (pushD own outer) w' β' G' (updF (hL L m.objs.get ds) d.out.upd) → Kept β β' (hL L m.objs.get ds) (updF (hL L m.objs.get ds) d.out.upd) (b + k) →
      DS E w0 G0 outer V nt own ops b nx m ds L' β0 Gz hz (a.put o'.dst v) w' β' G' := fun hdn v w' β' G' hv hx hh hkp => by
    have hfr : ∀ id, id ≠ b + k → Keep1 β β' (hL L m.objs.get ds) (hL L' m.objs.get ds) id := fun id hid hf => by
      obtain ⟨q1, q2, q3⟩ := hkp id hid hf
      exact ⟨by rw [heq]; exact q1, q2, q3⟩
    refine hnext v w' β' G' hv hx hh (fun id hid => hfr id (by omega)) (fun id hid => (hfr id (by omega)).fresh (hst.fresh id hid)) (fun j hjs hne hf => (hfr _ (by omega)).fresh hf) fun j dj lo hi hj hn hlj id hl1 hl2 => ?_
    have hjk : j ≠ k := fun e => by subst e; rw [hL', if_pos rfl] at hlj; cases hlj
    rw [hL', if_neg hjk] at hlj
    have := (hcalls j dj lo hi hj hn).1
    exact (hfr id (by omega)).fresh (hst.unc j dj lo hi hj hn hlj id hl1 hl2)
  unfold wpOpIn
  rw [ho]
  simp only
  rcases h2.run with ⟨r1, r2, r3, r4, _⟩ | ⟨r1, _, r3, r4, _⟩ | ⟨r1, r4, cl, tgt, r5, r6, r7⟩
  · rw [wanted_sound hst.fr (wanted_view v1 r1)]
    simp only [if_true]
    have hmono := (mono_any (ρ' := seenL L (slotOf V m.base m.loc) ds) (h' := hL L m.objs.get ds) (fun x hx dd hd => ⟨opnd_view v1 hx hd, fun id hid ob hob => v2 id ob (by rw [r3]; exact touch_mem hx hd hid) hob⟩) r2).1
    exact evAny_sound hE hp hst.fr hst.hr (hst.un k hk2 hk) hmono K Q fun v w' β' G' hv hx hh hkp => hK _ _ _ _ (hsimple r4 v w' β' G' hv hx hh hkp)
  · rw [wanted_sound hst.fr (wanted_view v1 r1)]
    simp only [Bool.false_eq_true, if_false]
    refine ⟨fun _ _ => trivial, hK _ _ β G (hsimple r4 undef w β G (fun dd hdd => ?_) (Ext.refl _ _) ?_ ?_)⟩
    · rw [r3] at hdd; cases hdd; exact rep_undef
    · rw [r3]; exact hst.hr
    · rw [r3]; exact Kept.refl _ _ _
  · rw [wanted_sound hst.fr (wanted_view v1 r1)]
    simp only [if_true]
    obtain ⟨c1, c2, c3⟩ := hcalls k d nx1 nx2 h1 r4
    have hop := isCall_some r5
    have htgt : target E (seenL L (slotOf V m.base m.loc) ds) cl = some tgt := target_view (fun x hx dd hd => opnd_view v1 (by rw [hop]; exact hx) hd) r6
    have hlow : ∀ id, nx1 ≤ id → Fresh β (hL L m.objs.get ds) id := fun id hid => by
      rcases Nat.lt_or_ge id nx with q | q
      · obtain ⟨j, dj, lo', hi', g1, g2, g3, g4, g5⟩ := seg_cover hs k d nx1 nx2 h1 r4 id hid q
        refine hst.unc j dj lo' hi' g1 g2 ?_ id g3 g4
        rcases g5 with rfl | g5
        · exact hk
        · cases hq : L j with
          | false => rfl
          | true => have := hst.down j dj g1 hq k g5; rw [hk] at this; cases this
      · exact hst.fresh id q
    refine callCut_sound hE hH hY hst.fr r5 htgt hst.hr r7 (fun i hi x hx => v2 i x hi hx) hlow fun v w' β' G' hv hle2 hx hkp hh hff => hK _ _ β' G' ?_
    have hkp' : ∀ id, id < nx1 → Keep1 β β' (hL L m.objs.get ds) (hL L' m.objs.get ds) id := fun id hid hf => by
      obtain ⟨q1, q2, q3⟩ := hkp id hid hf
      exact ⟨by rw [heq]; exact q1, q2, q3⟩
    have hff' : ∀ id, nx2 ≤ id → Fresh β' (hL L' m.objs.get ds) id := fun id hid => by
      have := hff id hid
      exact ⟨this.blk, this.hdr, by rw [heq]; exact this.h⟩
    refine hnext v w' β' G' hv hx hh (fun id hid => hkp' id (by omega)) (fun id hid => hff' id (by omega)) (fun j hjs hne hf => (hkp' _ (by omega)).fresh hf) fun j dj lo hi hj hn hlj id hl1 hl2 => ?_
    have hjk : j ≠ k := fun e => by subst e; rw [hL', if_pos rfl] at hlj; cases hlj
    rw [hL', if_neg hjk] at hlj
    rcases seg_two hs k d nx1 nx2 j dj lo hi h1 r4 hj hn hjk with q | q
    · rw [hanc_all d h1 j q] at hlj; cases hlj
    · exact hff' id (by omega)

/-- All is done. -/
theorem putAll_view {L : Nat → Bool} {nx0 : Nat} : ∀ {ds : List (Nat × Done)} {k nx : Nat}, SegOk E call callH callY V nt ops b m k nx ds → (∀ j d, (j, d) ∈ ds → L j = true) →
    (∀ t, seenL L (slotOf V m.base m.loc) ds t = slotOf V (putAll V nt ds { m with next := nx0 }).base (putAll V nt ds { m with next := nx0 }).loc t) ∧ (∀ id, hL L m.objs.get ds id = (putAll V nt ds { m with next := nx0 }).objs.get id) ∧ (putAll V nt ds { m with next := nx0 }).next = nx0 ∧
      ((∀ t d, m.base.get t = some d → Nat.testBit V t = true) → ∀ t d, (putAll V nt ds { m with next := nx0 }).base.get t = some d → Nat.testBit V t = true)
  | [], k, _, _, _ => ⟨fun _ => rfl, fun _ => rfl, rfl, fun h => h⟩
  | (j, d) :: ds, k, nx, hs, hl => by
    obtain ⟨_, _, ⟨o, ho⟩, h4⟩ := hs
    obtain ⟨k1, k2, k3, k4⟩ := putAll_view (nx0 := nx0) h4 (fun i e hi => hl i e (by simp [hi]))
    have hlj := hl j d (by simp)
    simp only [putAll]
    obtain ⟨p1, p2⟩ := put_objs V nt ({ putAll V nt ds { m with next := nx0 } with objs := updObjs (putAll V nt ds { m with next := nx0 }).objs d.out.upd } : Mid) d.dst d.out.val
    refine ⟨fun t => ?_, fun id => ?_, by rw [p2]; exact k3, fun hd => put_dom V nt _ d.dst d.out.val (k4 hd)⟩
    · rw [slot_put]
      simp only [seenL, hlj, true_and]
      by_cases e : d.dst = some t
      · rw [if_pos e, if_pos ⟨e, ho.fits t (by rw [← ho.dst]; exact e)⟩]
      · rw [if_neg e, if_neg (fun q => e q.1)]; exact k1 t
    · rw [p1, updObjs_get]
      simp only [hL, hlj, if_true]
      unfold updF
      cases updFind id d.out.upd with
      | some x => rfl
      | none => exact k2 id

theorem DS.full {ds : List (Nat × Done)} {k nx : Nat} (hs : SegOk E call callH callY V nt ops b m k nx ds) {L : Nat → Bool} (hl : ∀ j d, (j, d) ∈ ds → L j = true) {β0 : Bi} {Gz : Gh} {hz : Nat → Option AObj} (hst : DS E w0 G0 outer V nt own ops b nx m ds L β0 Gz hz a w β G) :
    MM E w0 G0 outer V nt own (putAll V nt ds { m with next := nx }) a w β G ∧ Go2 b β0 Gz β G hz (putAll V nt ds { m with next := nx }).objs.get ∧ (putAll V nt ds { m with next := nx }).next = nx := by
  obtain ⟨k1, k2, k3, k4⟩ := putAll_view (nx0 := nx) hs hl
  have hf : ∀ id, Fresh β (hL L m.objs.get ds) id → Fresh β (putAll V nt ds { m with next := nx }).objs.get id := fun id h => ⟨h.blk, h.hdr, by rw [← k2]; exact h.h⟩
  refine ⟨⟨fun t d ht => hst.fr t d (by rw [k1]; exact ht), k4 hst.dom, hst.sz, hst.hr.eq fun i => (k2 i).symm, fun id hid => hf id (hst.fresh id (by rw [← k3]; exact hid)), hst.df⟩, ⟨hst.go.ext, fun id hid hn => ?_⟩, k3⟩
  obtain ⟨q1, q2, q3⟩ := hst.go.keep id hid hn
  exact ⟨by rw [← k2]; exact q1, q2, q3⟩

end
end Go.Ab
