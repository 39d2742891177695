/- A region whose order is drawn: whatever the order. -/
import Derived.Test.YtdoejdmpmpgmiaaAb21
set_option linter.unusedSectionVars false
set_option linter.unusedVariables false
set_option linter.unusedSimpArgs false
namespace Go.Ab
open Go.RowKit

section
variable {P : Program} {E : Env} {w0 : World} {G0 : Gh} {outer own : List Nat} {V nt : Nat} {a : Act} {w : World} {β : Bi} {G : Gh} {ro : Option Nat} {n : Nat} {call : Nat → List DV → Option DV} {callH callY : CallH} {ops : Array Oper} {b : Nat} {m : Mid} {c : Nat}

/-- The state when L is done. -/
structure DS (E : Env) (w0 : World) (G0 : Gh) (outer : List Nat) (V nt : Nat) (own : List Nat) (ops : Array Oper) (b c : Nat) (m : Mid) (ds : List (Nat × Done)) (L : Nat → Bool) (β0 : Bi) (Gz : Gh) (hz : Nat → Option AObj) (a : Act) (w : World) (β : Bi) (G : Gh) : Prop where
  fr : FrM β G (seenL L (slotOf V m.base m.loc) ds) a.tmps
  dom : ∀ t d, m.base.get t = some d → Nat.testBit V t = true
  sz : a.tmps.size = nt
  hr : HR E w0 G0 (own ++ outer) w β G (hL L m.objs.get ds)
  fresh : ∀ id, m.next ≤ id → Fresh β (hL L m.objs.get ds) id
  df : a.defers = own.map markOf ∧ (own ++ outer).Nodup
  un : ∀ j, c ≤ j → j < ops.size → L j = false → Fresh β (hL L m.objs.get ds) (b + j)
  down : Down L ds
  go : Go2 b β0 Gz β G hz (hL L m.objs.get ds)

theorem seg_mem : ∀ {ds : List (Nat × Done)} {k : Nat}, SegOk E call V nt ops b m c k ds → ∀ j d, (j, d) ∈ ds → ∃ tl o, EntryOk E call V nt ops b m c j o d tl ∧ ∀ e ∈ tl, e ∈ ds
  | [], _, _, _, _, h => by cases h
  | (i, d) :: ds, k, h, j, d', hj => by
    obtain ⟨_, ⟨o, ho⟩, h4⟩ := h
    rcases List.mem_cons.1 hj with hj | hj
    · cases hj; exact ⟨ds, o, ho, fun e he => by simp [he]⟩
    · obtain ⟨tl, o', k1, k2⟩ := seg_mem h4 j d' hj
      exact ⟨tl, o', k1, fun e he => by simp [k2 e he]⟩

theorem anc_done {ds : List (Nat × Done)} {L : Nat → Bool} {o : Oper} {k : Nat} (hd : Down L ds) {tl : List (Nat × Done)} (htl : ∀ e ∈ tl, e ∈ ds) (he : ∀ e ∈ o.after, Region.binds .any e = true → L e.on = true) :
    ∀ i, Nat.testBit (ancOf ops tl o k) i = true → L i = true := fun i hi => by
  obtain ⟨e, h1, h2, _, h4⟩ := anc_bits hi
  rcases h4 with rfl | ⟨d, h5, h6⟩
  · exact he e h1 h2
  · exact hd e.on d (htl _ h5) (he e h1 h2) i h6

theorem looks_op {o : Oper} {t : Nat} (h : Operand.tmp t ∈ o.op.operands) : t ∈ o.looksAt ops :=
  List.mem_append_left _ (List.mem_filterMap.2 ⟨.tmp t, by simpa using h, rfl⟩)

theorem opnd_view {o : Oper} {ρ ρ' : Nat → Option DV} (h : ∀ t v, t ∈ o.looksAt ops → ρ t = some v → ρ' t = some v) {x : Operand} (hx : x ∈ o.op.operands) {d : DV} (hd : opnd ρ x = some d) : opnd ρ' x = some d := by
  cases x with
  | tmp t => exact h t d (looks_op hx) hd
  | _ => exact hd

theorem wanted_view {o : Oper} {ρ ρ' : Nat → Option DV} (h : ∀ t v, t ∈ o.looksAt ops → ρ t = some v → ρ' t = some v) {want : Bool} (hw : wantedD ops ρ o = some want) : wantedD ops ρ' o = some want := by
  unfold wantedD at hw ⊢
  cases hg : o.guard with
  | none => rw [hg] at hw; exact hw
  | some g =>
    obtain ⟨j, wt⟩ := g
    rw [hg] at hw
    simp only at hw ⊢
    cases hd : (ops[j]?).bind (·.dst) with
    | none => rw [hd] at hw; cases hw
    | some t =>
      rw [hd] at hw
      simp only at hw ⊢
      cases hr : ρ t with
      | none => rw [hr] at hw; cases hw
      | some d =>
        rw [hr] at hw
        rw [h t d (List.mem_append_right _ (by rw [hg]; simp [hd])) hr]
        exact hw

theorem touch_mem {ρ : Nat → Option DV} {op : Op} {x : Operand} (hx : x ∈ op.operands) {d : DV} (hd : opnd ρ x = some d) {id : Nat} (hid : id ∈ idsOf d) : id ∈ touch ρ op := by
  unfold touch
  rw [List.mem_flatMap]
  exact ⟨x, by simpa using hx, by rw [hd]; exact hid⟩

/-- One operation of the segment, whenever it comes. -/
theorem op_step (hE : ∀ t ti, E.ty t = some ti → TyOk P t ti) (hp : PureOk P call) {ds : List (Nat × Done)} {k2 : Nat} (hs : SegOk E call V nt ops b m c k2 ds) {L L' : Nat → Bool} {k : Nat} (hck : c ≤ k) (hk2 : k < k2) (hsz : k2 ≤ ops.size) (hle : b + ops.size ≤ m.next)
    (hk : L k = false) (hL' : ∀ j, L' j = if j = k then true else L j) (hc : ∀ j, j < c → L j = true) {o : Oper} (ho : ops[k]? = some o) (hready : ∀ e ∈ o.after, Region.binds .any e = true → L e.on = true) {β0 : Bi} {Gz : Gh} {hz : Nat → Option AObj}
    (hst : DS E w0 G0 outer V nt own ops b c m ds L β0 Gz hz a w β G) {K : Act → World → Prop} {Q : Exit → Act → World → Prop} (hK : ∀ a' w' β' G', DS E w0 G0 outer V nt own ops b c m ds L' β0 Gz hz a' w' β' G' → K a' w') : wpOpIn (fw ro) n P ops Q k K a w := by
  obtain ⟨d, tl, o', h1, h2, h3, h4, h5⟩ := seg_view hk hL' hc hs hst.down hck hk2
  have heo : o' = o := by have := h2.op; rw [ho] at this; cases this; rfl
  subst heo
  have hanc_all : ∀ d', (k, d') ∈ ds → ∀ i, Nat.testBit d'.anc i = true → L i = true := fun d' hd' i hi => by
    obtain ⟨tl', o2, q1, q2⟩ := seg_mem hs k d' hd'
    have : o2 = o' := by have := q1.op; rw [ho] at this; cases this; rfl
    subst this
    rw [q1.anc] at hi
    exact anc_done hst.down q2 hready i hi
  obtain ⟨v1, v2⟩ := h3 (hanc_all d h1)
  have hdown : Down L' ds := fun j dj hj hlj i hi => by
    rw [hL']
    by_cases e : i = k
    · rw [if_pos e]
    · rw [if_neg e]
      by_cases e2 : j = k
      · subst e2; exact hanc_all dj hj i hi
      · rw [hL', if_neg e2] at hlj
        exact hst.down j dj hj hlj i hi
  have hnext : ∀ (v : Value) (w' : World) (β' : Bi) (G' : Gh), (∀ dd, d.out.val = some dd → Rep β' G' dd v) → Ext β G β' G' → HR E w0 G0 (own ++ outer) w' β' G' (updF (hL L m.objs.get ds) d.out.upd) → Kept β β' (hL L m.objs.get ds) (updF (hL L m.objs.get ds) d.out.upd) (b + k) →
      DS E w0 G0 outer V nt own ops b c m ds L' β0 Gz hz (a.put o'.dst v) w' β' G' := fun v w' β' G' hv hx hh hkp => by
    have heq : ∀ id, hL L' m.objs.get ds id = updF (hL L m.objs.get ds) d.out.upd id := fun id => h5 id
    have hfr : ∀ id, id ≠ b + k → Fresh β (hL L m.objs.get ds) id → Fresh β' (hL L' m.objs.get ds) id := fun id hid hf => by
      have := hkp id hid hf
      exact ⟨this.blk, this.hdr, by rw [heq]; exact this.h⟩
    obtain ⟨s1, s2⟩ := put_size (a := a) o'.dst v
    have hkl : k < ops.size := by omega
    refine ⟨frm_put hx hst.sz hst.fr hv fun t dd ht => ?_, hst.dom, s1.trans hst.sz, hh.eq heq, fun id hid => hfr id (by omega) (hst.fresh id hid), ⟨s2.trans hst.df.1, hst.df.2⟩, fun j hj hjs hlj => ?_, hdown, hst.go.trans ⟨hx, fun id hid hf => hfr id (by omega) hf⟩⟩
    · rw [h4, h2.dst] at ht
      by_cases e : o'.dst = some t
      · rw [if_pos e] at ht
        exact .inl ⟨e, h2.fits t e, ht⟩
      · rw [if_neg e] at ht
        exact .inr ⟨fun q => e q.1, ht⟩
    · rw [hL'] at hlj
      by_cases e : j = k
      · rw [if_pos e] at hlj; cases hlj
      · rw [if_neg e] at hlj
        exact hfr _ (by omega) (hst.un j hj hjs hlj)
  unfold wpOpIn
  rw [ho]
  simp only
  rcases h2.run with ⟨r1, r2, r3, _⟩ | ⟨r1, _, r3⟩
  · rw [wanted_sound hst.fr (wanted_view v1 r1)]
    simp only [if_true]
    have hmono := (mono_any (ρ' := seenL L (slotOf V m.base m.loc) ds) (h' := hL L m.objs.get ds) (fun x hx dd hd => ⟨opnd_view v1 hx hd, fun id hid ob hob => v2 id ob (by rw [r3]; exact touch_mem hx hd hid) hob⟩) r2).1
    exact evAny_sound hE hp hst.fr hst.hr (hst.un k hck (by omega) hk) hmono K Q fun v w' β' G' hv hx hh hkp => hK _ _ _ _ (hnext v w' β' G' hv hx hh hkp)
  · rw [wanted_sound hst.fr (wanted_view v1 r1)]
    simp only [Bool.false_eq_true, if_false]
    refine ⟨fun _ _ => trivial, hK _ _ β G (hnext undef w β G (fun dd hdd => ?_) (Ext.refl _ _) ?_ ?_)⟩
    · rw [r3] at hdd; cases hdd; exact rep_undef
    · rw [r3]; exact hst.hr
    · rw [r3]; exact fun _ _ hf => hf

/-- All is done. -/
theorem putAll_view {L : Nat → Bool} : ∀ {ds : List (Nat × Done)} {k : Nat}, SegOk E call V nt ops b m c k ds → (∀ j d, (j, d) ∈ ds → L j = true) →
    (∀ t, seenL L (slotOf V m.base m.loc) ds t = slotOf V (putAll V nt ds m).base (putAll V nt ds m).loc t) ∧ (∀ id, hL L m.objs.get ds id = (putAll V nt ds m).objs.get id) ∧ (putAll V nt ds m).next = m.next ∧
      ((∀ t d, m.base.get t = some d → Nat.testBit V t = true) → ∀ t d, (putAll V nt ds m).base.get t = some d → Nat.testBit V t = true)
  | [], k, _, _ => ⟨fun _ => rfl, fun _ => rfl, rfl, fun h => h⟩
  | (j, d) :: ds, k, hs, hl => by
    obtain ⟨_, ⟨o, ho⟩, h4⟩ := hs
    obtain ⟨k1, k2, k3, k4⟩ := putAll_view h4 (fun i e hi => hl i e (by simp [hi]))
    have hlj := hl j d (by simp)
    simp only [putAll]
    obtain ⟨p1, p2⟩ := put_objs V nt ({ putAll V nt ds m with objs := updObjs (putAll V nt ds m).objs d.out.upd } : Mid) d.dst d.out.val
    refine ⟨fun t => ?_, fun id => ?_, by rw [p2]; exact k3, fun hd => put_dom V nt _ d.dst d.out.val (k4 hd)⟩
    · rw [slot_put]
      simp only [seenL, hlj, true_and]
      by_cases e : d.dst = some t
      · rw [if_pos e, if_pos ⟨e, ho.fits t (by rw [← ho.dst]; exact e)⟩]
      · rw [if_neg e, if_neg (fun q => e q.1)]; exact k1 t
    · rw [p1, updObjs_get]
      simp only [hL, hlj, if_true]
      unfold updF
      cases updFind id d.out.upd with
      | some x => rfl
      | none => exact k2 id

theorem DS.full {ds : List (Nat × Done)} {k : Nat} (hs : SegOk E call V nt ops b m c k ds) {L : Nat → Bool} (hl : ∀ j d, (j, d) ∈ ds → L j = true) {β0 : Bi} {Gz : Gh} {hz : Nat → Option AObj} (hst : DS E w0 G0 outer V nt own ops b c m ds L β0 Gz hz a w β G) :
    MM E w0 G0 outer V nt own (putAll V nt ds m) a w β G ∧ Go2 b β0 Gz β G hz (putAll V nt ds m).objs.get ∧ (putAll V nt ds m).next = m.next ∧ ∀ id, Fresh β (hL L m.objs.get ds) id → Fresh β (putAll V nt ds m).objs.get id := by
  obtain ⟨k1, k2, k3, k4⟩ := putAll_view hs hl
  have hf : ∀ id, Fresh β (hL L m.objs.get ds) id → Fresh β (putAll V nt ds m).objs.get id := fun id h => ⟨h.blk, h.hdr, by rw [← k2]; exact h.h⟩
  refine ⟨⟨fun t d ht => hst.fr t d (by rw [k1]; exact ht), k4 hst.dom, hst.sz, hst.hr.eq fun i => (k2 i).symm, fun id hid => hf id (hst.fresh id (by rw [← k3]; exact hid)), hst.df⟩, ⟨hst.go.ext, fun id hid h => hf id (hst.go.stay id hid h)⟩, k3, hf⟩

end
end Go.Ab
