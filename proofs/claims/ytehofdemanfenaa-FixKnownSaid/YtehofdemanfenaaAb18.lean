/- A region in the order of its text. -/
import Derived.Test.YtehofdemanfenaaAb34
namespace Go.Ab
open Go.RowKit

section
variable {P : Program} {E : Env} {w0 : World} {G0 : Gh} {outer : DD} {own : List Nat} {V nt : Nat} {o : Oper} {a : Act} {w : World} {β : Bi} {G : Gh} {ro : Option Nat} {n : Nat}

theorem put_objs (V nt : Nat) (m : Mid) (dst : Option Tmp) (v : Option DV) : (m.put V nt dst v).objs = m.objs ∧ (m.put V nt dst v).next = m.next := by
  unfold Mid.put
  cases dst with
  | none => exact ⟨rfl, rfl⟩
  | some d =>
    simp only
    cases (!Nat.blt d nt) with
    | true => exact ⟨rfl, rfl⟩
    | false => cases Nat.testBit V d <;> exact ⟨rfl, rfl⟩

theorem slot_put (V nt : Nat) (m : Mid) (dst : Option Tmp) (v : Option DV) (t : Nat) :
    slotOf V (m.put V nt dst v).base (m.put V nt dst v).loc t = if dst = some t ∧ t < nt then v else slotOf V m.base m.loc t := by
  unfold Mid.put
  cases dst with
  | none => simp
  | some d =>
    simp only [Tr.blt_dec]
    by_cases hl : d < nt
    · simp only [hl, decide_true, Bool.not_true, cond_false]
      cases hv : Nat.testBit V d with
      | true =>
        simp only [cond_true]
        unfold slotOf
        by_cases e : d = t
        · subst e; simp [hv, hl, Tr.get_set]
        · have : ¬ t = d := fun h => e h.symm
          simp [e, Tr.get_set, this]
      | false =>
        simp only [cond_false]
        unfold slotOf
        by_cases e : d = t
        · subst e; simp [hv, hl, Loc.find]
        · simp [e, Loc.find, Tr.beq_dec]
    · simp only [hl, decide_false, Bool.not_false, cond_true]
      by_cases e : d = t
      · subst e; simp [hl]
      · simp [e]

theorem put_dom (V nt : Nat) (m : Mid) (dst : Option Tmp) (v : Option DV) (h : ∀ t d, m.base.get t = some d → Nat.testBit V t = true) :
    ∀ t d, (m.put V nt dst v).base.get t = some d → Nat.testBit V t = true := by
  unfold Mid.put
  cases dst with
  | none => exact h
  | some d =>
    simp only
    cases (!Nat.blt d nt) with
    | true => exact h
    | false =>
      cases hv : Nat.testBit V d with
      | true =>
        intro t d' ht
        simp only [cond_false, cond_true, Tr.get_set] at ht
        by_cases e : t = d
        · rw [e]; exact hv
        · rw [if_neg e] at ht; exact h t d' ht
      | false => exact h

/-- The state of a region on its way. -/
abbrev MM (E : Env) (w0 : World) (G0 : Gh) (outer : DD) (V nt : Nat) (own : List Nat) (m : Mid) (a : Act) (w : World) (β : Bi) (G : Gh) : Prop :=
  MI E w0 G0 outer V nt own (slotOf V m.base m.loc) m.base m.objs.get m.next a w β G

theorem frm_put {ρ ρ' : Nat → Option DV} {β' : Bi} {G' : Gh} (hx : Ext β G β' G') (hsz : a.tmps.size = nt) (hf : FrM β G ρ a.tmps) {dst : Option Tmp} {val : Option DV} {v : Value} (hv : ∀ d, val = some d → Rep β' G' d v)
    (hs : ∀ t d, ρ' t = some d → (dst = some t ∧ t < nt ∧ val = some d) ∨ (¬ (dst = some t ∧ t < nt) ∧ ρ t = some d)) : FrM β' G' ρ' (a.put dst v).tmps := fun t d ht => by
  rcases hs t d ht with ⟨rfl, hl, hd⟩ | ⟨hn, hd⟩
  · refine ⟨v, ?_, hv d hd⟩
    simp [Act.put, hsz, hl]
  · obtain ⟨u, hu, hr⟩ := hf t d hd
    refine ⟨u, ?_, Rep.mono hx d u hr⟩
    cases dst with
    | none => exact hu
    | some e =>
      have hlt : t < nt := by rw [← hsz]; exact (Array.getElem?_eq_some_iff.1 hu).1
      have hne : e ≠ t := fun h => hn ⟨by rw [h], hlt⟩
      simp only [Act.put]
      rw [Array.getElem?_setIfInBounds_ne hne]
      exact hu

theorem put_size (dst : Option Tmp) (v : Value) : (a.put dst v).tmps.size = a.tmps.size ∧ (a.put dst v).defers = a.defers := by
  cases dst <;> simp [Act.put]

theorem MM.put {m : Mid} (hm : MM E w0 G0 outer V nt own m a w β G) {objs : Tr AObj} {nx : Nat} {dst : Option Tmp} {val : Option DV} {v : Value} {w' : World} {β' : Bi} {G' : Gh} (hx : Ext β G β' G')
    (hv : ∀ d, val = some d → Rep β' G' d v) (hh : HR E w0 G0 (pushD own outer) w' β' G' objs.get) (hf : ∀ id, nx ≤ id → Fresh β' objs.get id) :
    MM E w0 G0 outer V nt own (({ m with objs := objs, next := nx } : Mid).put V nt dst val) (a.put dst v) w' β' G' := by
  obtain ⟨h1, h2⟩ := put_objs V nt ({ m with objs := objs, next := nx } : Mid) dst val
  obtain ⟨h3, h4⟩ := put_size (a := a) dst v
  refine ⟨frm_put hx hm.sz hm.fr hv fun t d ht => ?_, put_dom V nt _ dst val hm.dom, h3.trans hm.sz, by rw [h1]; exact hh, fun id hid => ?_, ⟨h4.trans hm.df.1, hm.df.2⟩⟩
  · rw [slot_put] at ht
    by_cases e : dst = some t ∧ t < nt
    · rw [if_pos e] at ht; exact .inl ⟨e.1, e.2, ht⟩
    · rw [if_neg e] at ht; exact .inr ⟨e, ht⟩
  · rw [h1]; rw [h2] at hid; exact hf id hid

theorem wanted_sound {ops : Array Oper} {ρ : Nat → Option DV} (hf : FrM β G ρ a.tmps) {want : Bool} (h : wantedD ops ρ o = some want) : Region.wanted o (yielded ops a.tmps) = want := by
  unfold wantedD at h
  unfold Region.wanted
  cases hg : o.guard with
  | none => rw [hg] at h; simp only [Option.some.injEq] at h; exact h
  | some g =>
    obtain ⟨j, wt⟩ := g
    rw [hg] at h
    simp only at h ⊢
    unfold yielded
    cases hd : (ops[j]?).bind (·.dst) with
    | none => rw [hd] at h; cases h
    | some t =>
      rw [hd] at h
      simp only at h
      cases hr : ρ t with
      | none => rw [hr] at h; cases h
      | some d =>
        rw [hr] at h
        obtain ⟨v, h1, h2⟩ := hf t d hr
        simp only [Option.bind_some, h1]
        cases d with
        | bool b =>
          rw [rep_bool] at h2; subst h2
          simp only [Option.some.injEq] at h
          rw [← h]
          cases b <;> cases wt <;> rfl
        | _ =>
          have hw : want = false := by simpa using h.symm
          subst hw
          unfold Rep at h2
          first
          | (subst h2; rfl)
          | (obtain ⟨b, _, rfl⟩ := h2; rfl)
          | (obtain ⟨b, n, c, _, rfl⟩ := h2; rfl)
          | (obtain ⟨_, b, o, rfl, _⟩ := h2; rfl)
          | (obtain ⟨a, c, ⟨rfl, _⟩, _⟩ := h2; rfl)
          | (obtain ⟨_, a, n, c, rfl⟩ := h2; rfl)
          | (obtain ⟨_, _, rfl, _, _⟩ := h2; rfl)
          | (obtain ⟨_, rfl, _⟩ := h2; rfl)

theorem stepD_any {call : Nat → List DV → Option DV} {nid : Nat} {ρ : Nat → Option DV} {h : Nat → Option AObj} {op : Op} {r : Out} (hd : stepD E call nid ρ h op = some (some r)) : evAny E call nid ρ h op = some r := by
  unfold stepD at hd
  unfold evAny
  split at hd
  · rename_i hc
    obtain ⟨r', h1, h2⟩ := some_bind hd
    cases h2
    rw [hc]; exact h1
  · rename_i c hc
    obtain ⟨tgt, h1, h2⟩ := some_bind hd
    rw [hc]
    cases hp : purT E tgt with
    | true =>
      rw [hp] at h2
      obtain ⟨r', h3, h4⟩ := some_bind h2
      cases h4
      exact h3
    | false => rw [hp] at h2; cases h2

theorem seq_sound (hE : ∀ t ti, E.ty t = some ti → TyOk P t ti) {call : Nat → List DV → Option DV} (hp : PureOk P call) {callH callY : CallH} (hH : HeapOk P E callH) (hY : YieldOk P E callY) {ops : Array Oper} {b : Nat} {Q : Exit → Act → World → Prop} :
    ∀ (os : List Oper) (k : Nat) (m mf : Mid) (a : Act) (w : World) (β : Bi) (G : Gh), evSeq E call callH callY V nt ops b k os m = some mf → b + k + os.length ≤ m.next →
      (∀ j, k ≤ j → j < k + os.length → Fresh β m.objs.get (b + j)) → MM E w0 G0 outer V nt own m a w β G →
      (∀ a' w' β' G', m.next ≤ mf.next → MM E w0 G0 outer V nt own mf a' w' β' G' → Go2 b β G β' G' m.objs.get mf.objs.get → Q .normal a' w') → wpListIn (fw ro) n P ops Q os a w
  | [], k, m, mf, a, w, β, G, hd, _, _, hm, hq => by
    simp only [evSeq, Option.some.injEq] at hd; subst hd
    exact hq a w β G (Nat.le_refl _) hm (Go2.refl _ _ _ _)
  | o :: os, k, m, mf, a, w, β, G, hd, hle, hfr, hm, hq => by
    simp only [evSeq] at hd
    obtain ⟨want, hw, hd⟩ := some_bind hd
    have hwt := wanted_sound hm.fr hw
    simp only [List.length_cons] at hle hfr
    simp only [wpListIn]
    rw [hwt]
    cases want with
    | false =>
      simp only [cond_false] at hd
      simp only [Bool.false_eq_true, if_false]
      obtain ⟨h1, h2⟩ := put_objs V nt m o.dst (some (.tup []))
      have hm' : MM E w0 G0 outer V nt own (m.put V nt o.dst (some (.tup []))) (a.put o.dst undef) w β G :=
        MM.put (objs := m.objs) (nx := m.next) hm (Ext.refl β G) (fun d hd => by cases hd; exact rep_undef) hm.hr hm.fresh
      refine ⟨fun f _ => trivial, seq_sound hE hp hH hY os (k + 1) _ mf _ w β G hd (by rw [h2]; omega) (fun j hj hl => by rw [h1]; exact hfr j (by omega) (by omega)) hm' fun a' w' β' G' hn hm2 hgo => ?_⟩
      exact hq a' w' β' G' (by rw [h2] at hn; exact hn) hm2 (by rw [h1] at hgo; exact hgo)
    | true =>
      simp only [cond_true] at hd
      simp only [if_true]
      obtain ⟨so, hso, hd⟩ := some_bind hd
      cases so with
      | some r =>
        have hr := stepD_any hso
        refine evAny_sound hE hp hm.fr hm.hr (hfr k (Nat.le_refl _) (by omega)) hr _ _ fun v w' β' G' hv hx hh hkp => ?_
        obtain ⟨h1, h2⟩ := put_objs V nt ({ m with objs := updObjs m.objs r.upd } : Mid) o.dst r.val
        have hget : ∀ id, (updObjs m.objs r.upd).get id = updF m.objs.get r.upd id := updObjs_get _ _
        have hfr' : ∀ id, id ≠ b + k → Keep1 β β' m.objs.get (updObjs m.objs r.upd).get id := fun id hid hf => by
          obtain ⟨q1, q2, q3⟩ := hkp id hid hf
          exact ⟨by rw [hget]; exact q1, q2, q3⟩
        have hm' : MM E w0 G0 outer V nt own (({ m with objs := updObjs m.objs r.upd } : Mid).put V nt o.dst r.val) (a.put o.dst v) w' β' G' :=
          MM.put (objs := updObjs m.objs r.upd) (nx := m.next) hm hx hv (hh.eq hget) (fun id hid => (hfr' id (by omega)).fresh (hm.fresh id hid))
        refine seq_sound hE hp hH hY os (k + 1) _ mf _ w' β' G' hd (by rw [h2]; show b + (k + 1) + os.length ≤ m.next; omega) (fun j hj hl => by rw [h1]; exact (hfr' _ (by omega)).fresh (hfr j (by omega) (by omega))) hm' fun a' w'' β'' G'' hn hm2 hgo => ?_
        refine hq a' w'' β'' G'' (by rw [h2] at hn; exact hn) hm2 (Go2.trans ⟨hx, fun id hi => ?_⟩ hgo)
        rw [h1]; exact hfr' id (by omega)
      | none =>
        obtain ⟨cl, hcl, hd⟩ := some_bind hd
        obtain ⟨tgt, htg, hd⟩ := some_bind hd
        obtain ⟨⟨out, T, nx'⟩, hx1, hd⟩ := some_bind hd
        refine callCut_sound hE hH hY hm.fr hcl htg hm.hr hx1 (fun _ _ _ h => h) hm.fresh fun v w' β' G' hv hle' hx hkp hh hff => ?_
        obtain ⟨h1, h2⟩ := put_objs V nt ({ m with objs := updObjs m.objs out.upd, next := nx' } : Mid) o.dst out.val
        have hget : ∀ id, (updObjs m.objs out.upd).get id = updF m.objs.get out.upd id := updObjs_get _ _
        have hkp' : ∀ id, id < m.next → Keep1 β β' m.objs.get (updObjs m.objs out.upd).get id := fun id hid hf => by
          obtain ⟨q1, q2, q3⟩ := hkp id hid hf
          exact ⟨by rw [hget]; exact q1, q2, q3⟩
        have hm' : MM E w0 G0 outer V nt own (({ m with objs := updObjs m.objs out.upd, next := nx' } : Mid).put V nt o.dst out.val) (a.put o.dst v) w' β' G' :=
          MM.put (objs := updObjs m.objs out.upd) (nx := nx') hm hx hv (hh.eq hget) (fun id hid => by
            have := hff id hid
            exact ⟨this.blk, this.hdr, by rw [hget]; exact this.h⟩)
        refine seq_sound hE hp hH hY os (k + 1) _ mf _ w' β' G' hd (by rw [h2]; show b + (k + 1) + os.length ≤ nx'; omega) (fun j hj hl => by rw [h1]; exact (hkp' _ (by omega)).fresh (hfr j (by omega) (by omega))) hm' fun a'' w'' β'' G'' hn hm2 hgo2 => ?_
        refine hq a'' w'' β'' G'' (by rw [h2] at hn; exact Nat.le_trans hle' hn) hm2 (Go2.trans ⟨hx, fun id hi => ?_⟩ hgo2)
        rw [h1]; exact hkp' id (by omega)

end
end Go.Ab
