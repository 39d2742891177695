/- New numbers at a loop's head. -/
import Derived.Test.YtdoejdmpmpgmiaaAb18
set_option linter.unusedSectionVars false
set_option linter.unusedVariables false
set_option linter.unusedSimpArgs false
namespace Go.Ab
open Go.RowKit

/-- What has a number below n0 lies where it lay. -/
structure Agree (n0 : Nat) (β β' : Bi) : Prop where
  blk : ∀ id, id < n0 → β'.blk id = β.blk id
  hdr : ∀ id, id < n0 → ∀ u, β'.hdr id u = β.hdr id u

section bddm
variable {n0 : Nat} {β β' : Bi} {G : Gh}
mutual
theorem Rep.bd (hx : Agree n0 β β') : ∀ (d : DV) (v : Value), bdd n0 d = true → Rep β G d v → Rep β' G d v
  | .bool _, _, _, h => by unfold Rep at h ⊢; exact h
  | .int _ _, _, _, h => by unfold Rep at h ⊢; exact h
  | .str _, _, _, h => by unfold Rep at h ⊢; exact h
  | .nilp, _, _, h => by unfold Rep at h ⊢; exact h
  | .ptr i _, _, hb, h => by
    simp only [bdd, Tr.blt_dec, decide_eq_true_eq] at hb
    unfold Rep at h ⊢; rw [hx.blk i hb]; exact h
  | .rptr i _ _ _ _, _, hb, h => by
    simp only [bdd, Tr.blt_dec, decide_eq_true_eq] at hb
    unfold Rep at h ⊢; rw [hx.hdr i hb]; exact h
  | .pub cs, _, _, h => by
    unfold Rep at h ⊢
    obtain ⟨h0, b, o, h1, h2⟩ := h
    exact ⟨h0, b, o, h1, Pub.free cs b o h0 h2⟩
  | .nils, _, _, h => by unfold Rep at h ⊢; exact h
  | .sl es, v, _, h => Rep.free _ v rfl h
  | .rs i _, _, hb, h => by
    simp only [bdd, Tr.blt_dec, decide_eq_true_eq] at hb
    unfold Rep at h ⊢; rw [hx.hdr i hb]; exact h
  | .agg cs, _, hb, h => by unfold Rep at h ⊢; obtain ⟨vs, h1, h2⟩ := h; exact ⟨vs, h1, RepL.bd hx cs vs (by simpa [bdd] using hb) h2⟩
  | .tup cs, _, hb, h => by unfold Rep at h ⊢; obtain ⟨vs, h1, h2⟩ := h; exact ⟨vs, h1, RepL.bd hx cs vs (by simpa [bdd] using hb) h2⟩
  | .fn _ a c, _, hb, h => by
    unfold Rep at h ⊢
    obtain ⟨as, cs, h1, h2, h3⟩ := h
    have hb' : bdds n0 a = true ∧ bdds n0 c = true := by simpa [bdd] using hb
    exact ⟨as, cs, h1, RepL.bd hx a as hb'.1 h2, RepL.bd hx c cs hb'.2 h3⟩
  | .nilfn, _, _, h => by unfold Rep at h ⊢; exact h
  | .map i, _, hb, h => by
    simp only [bdd, Tr.blt_dec, decide_eq_true_eq] at hb
    unfold Rep at h ⊢; rw [hx.blk i hb]; exact h
  | .nilmap, _, _, h => by unfold Rep at h ⊢; exact h
  | .iface _ d, _, hb, h => by unfold Rep at h ⊢; obtain ⟨u, h1, h2⟩ := h; exact ⟨u, h1, Rep.bd hx d u (by simpa [bdd] using hb) h2⟩
  | .nilif, _, _, h => by unfold Rep at h ⊢; exact h
  | .iter i, _, hb, h => by
    simp only [bdd, Tr.blt_dec, decide_eq_true_eq] at hb
    unfold Rep at h ⊢; rw [hx.blk i hb]; exact h
  | .yld i, _, hb, h => by
    simp only [bdd, Tr.blt_dec, decide_eq_true_eq] at hb
    unfold Rep at h ⊢; rw [hx.blk i hb]; exact h
theorem RepL.bd (hx : Agree n0 β β') : ∀ (ds : List DV) (vs : List Value), bdds n0 ds = true → RepL β G ds vs → RepL β' G ds vs
  | [], _, _, h => by unfold RepL at h ⊢; exact h
  | d :: ds, _, hb, h => by
    unfold RepL at h ⊢
    have hb' : bdd n0 d = true ∧ bdds n0 ds = true := by simpa [bdds] using hb
    obtain ⟨v, vs', h1, h2, h3⟩ := h
    exact ⟨v, vs', h1, Rep.bd hx d v hb'.1 h2, RepL.bd hx ds vs' hb'.2 h3⟩
end
end bddm

theorem findJ_spec {id v : Nat} : ∀ {L : List (Option (Nat × Nat))} {j0 j : Nat}, findJ id v j0 L = some j → j0 ≤ j ∧ L[j - j0]? = some (some (id, v))
  | [], _, _, h => by cases h
  | none :: L, j0, j, h => by
    simp only [findJ] at h
    obtain ⟨h1, h2⟩ := findJ_spec h
    refine ⟨by omega, ?_⟩
    rw [show j - j0 = (j - (j0 + 1)) + 1 by omega]; simpa using h2
  | some (i, u) :: L, j0, j, h => by
    simp only [findJ] at h
    by_cases e : (Nat.beq i id && Nat.beq u v) = true
    · rw [e] at h
      cases h
      simp only [Bool.and_eq_true] at e
      have e1 : i = id := Nat.eq_of_beq_eq_true e.1
      have e2 : u = v := Nat.eq_of_beq_eq_true e.2
      subst e1 e2
      exact ⟨Nat.le_refl _, by simp⟩
    · have e' : (Nat.beq i id && Nat.beq u v) = false := Bool.eq_false_iff.2 e
      rw [e'] at h
      obtain ⟨h1, h2⟩ := findJ_spec h
      refine ⟨by omega, ?_⟩
      rw [show j - j0 = (j - (j0 + 1)) + 1 by omega]; simpa using h2

/-- Where objects lie once they have new numbers. -/
def renBi (n0 : Nat) (L : List (Option (Nat × Nat))) (β : Bi) : Bi where
  blk i := if i < n0 then β.blk i else none
  hdr i u := if i < n0 then β.hdr i u else if u = 0 then (match L[i - n0]? with | some (some (id, v)) => β.hdr id v | _ => none) else none

theorem renBi_agree (n0 : Nat) (L : List (Option (Nat × Nat))) (β : Bi) : Agree n0 β (renBi n0 L β) := ⟨fun id h => by simp [renBi, h], fun id h u => by simp [renBi, h]⟩

section
variable {n0 : Nat} {L : List (Option (Nat × Nat))} {β : Bi} {G : Gh}

theorem renBi_new {j id v : Nat} (h : L[j]? = some (some (id, v))) : (renBi n0 L β).hdr (n0 + j) 0 = β.hdr id v := by
  have : ¬ n0 + j < n0 := by omega
  simp [renBi, h, this]

theorem keepR {d d' : DV} {v : Value} (h : (bif bdd n0 d then some d else none) = some d') (hr : Rep β G d v) : Rep (renBi n0 L β) G d' v ∧ isCell d' = isCell d := by
  obtain ⟨hb, h⟩ := bif_some h
  cases h
  exact ⟨Rep.bd (renBi_agree n0 L β) _ v hb hr, rfl⟩

mutual
theorem ren_rep : ∀ {d d' : DV} {v : Value}, ren n0 L d = some d' → Rep β G d v → Rep (renBi n0 L β) G d' v ∧ isCell d' = isCell d
  | .rs id ver, d', v, h, hr => by
    simp only [ren] at h
    cases hj : findJ id ver 0 L with
    | none =>
      rw [hj] at h
      obtain ⟨hl, h⟩ := bif_some h
      cases h
      simp only [Bool.and_eq_true, Tr.blt_dec] at hl
      exact ⟨Rep.bd (renBi_agree n0 L β) _ v (by simp only [bdd, Tr.blt_dec]; exact hl.1) hr, rfl⟩
    | some j =>
      rw [hj] at h
      cases h
      obtain ⟨_, h2⟩ := findJ_spec hj
      rw [rep_rs] at hr ⊢
      exact ⟨⟨(renBi_new (by simpa using h2)).trans hr.1, hr.2⟩, rfl⟩
  | .agg cs, d', v, h, hr => by
    simp only [ren] at h
    obtain ⟨cs', h1, h⟩ := some_bind h
    cases h
    obtain ⟨vs, rfl, h2⟩ := rep_agg.1 hr
    exact ⟨rep_agg.2 ⟨vs, rfl, (rens_rep h1 h2).1⟩, rfl⟩
  | .tup cs, d', v, h, hr => by
    simp only [ren] at h
    obtain ⟨cs', h1, h⟩ := some_bind h
    cases h
    obtain ⟨vs, rfl, h2⟩ := rep_tup.1 hr
    exact ⟨rep_tup.2 ⟨vs, rfl, (rens_rep h1 h2).1⟩, rfl⟩
  | .bool _, d', v, h, hr => keepR (d := .bool _) h hr
  | .int _ _, d', v, h, hr => keepR (d := .int _ _) h hr
  | .str _, d', v, h, hr => keepR (d := .str _) h hr
  | .nilp, d', v, h, hr => keepR (d := .nilp) h hr
  | .ptr _ _, d', v, h, hr => keepR (d := .ptr _ _) h hr
  | .rptr _ _ _ _ _, d', v, h, hr => keepR (d := .rptr _ _ _ _ _) h hr
  | .pub _, d', v, h, hr => keepR (d := .pub _) h hr
  | .nils, d', v, h, hr => keepR (d := .nils) h hr
  | .sl _, d', v, h, hr => keepR (d := .sl _) h hr
  | .fn _ _ _, d', v, h, hr => keepR (d := .fn _ _ _) h hr
  | .nilfn, d', v, h, hr => keepR (d := .nilfn) h hr
  | .map _, d', v, h, hr => keepR (d := .map _) h hr
  | .nilmap, d', v, h, hr => keepR (d := .nilmap) h hr
  | .iface _ _, d', v, h, hr => keepR (d := .iface _ _) h hr
  | .nilif, d', v, h, hr => keepR (d := .nilif) h hr
  | .iter _, d', v, h, hr => keepR (d := .iter _) h hr
  | .yld _, d', v, h, hr => keepR (d := .yld _) h hr
theorem rens_rep : ∀ {ds ds' : List DV} {vs : List Value}, rens n0 L ds = some ds' → RepL β G ds vs → RepL (renBi n0 L β) G ds' vs ∧ ds'.all isCell = ds.all isCell
  | [], ds', vs, h, hr => by simp only [rens, Option.some.injEq] at h; subst h; rw [repL_nil] at hr; subst hr; exact ⟨repL_nil.2 rfl, rfl⟩
  | d :: ds, ds', vs, h, hr => by
    simp only [rens] at h
    obtain ⟨c, h1, h⟩ := some_bind h
    obtain ⟨cs, h2, h⟩ := some_bind h
    cases h
    obtain ⟨v, vs', rfl, hr1, hr2⟩ := repL_cons.1 hr
    obtain ⟨k1, k2⟩ := ren_rep h1 hr1
    obtain ⟨k3, k4⟩ := rens_rep h2 hr2
    exact ⟨repL_cons.2 ⟨v, vs', rfl, k1, k3⟩, by simp [k2, k4]⟩
end

theorem addRows_spec {o : Tr AObj} : ∀ {L : List (Option (Nat × Nat))} {j0 : Nat} {no no' : Tr AObj}, addRows o n0 j0 L no = some no' → ∀ i,
    (no'.get i = no.get i ∧ ∀ j id v, i = n0 + j0 + j → L[j]? ≠ some (some (id, v))) ∨ ∃ j id v e es p, i = n0 + j0 + j ∧ L[j]? = some (some (id, v)) ∧ o.get id = some (.row e es p v) ∧ no'.get i = some (.row e es p 0)
  | [], j0, no, no', h, i => by simp only [addRows, Option.some.injEq] at h; subst h; exact .inl ⟨rfl, fun j id v _ => by simp⟩
  | none :: L, j0, no, no', h, i => by
    simp only [addRows] at h
    rcases addRows_spec h i with ⟨h1, h2⟩ | ⟨j, id, v, e, es, p, h1, h2, h3, h4⟩
    · refine .inl ⟨h1, fun j id v hi => ?_⟩
      cases j with
      | zero => simp
      | succ j => simpa using h2 j id v (by omega)
    · exact .inr ⟨j + 1, id, v, e, es, p, by omega, by simpa using h2, h3, h4⟩
  | some (id, v) :: L, j0, no, no', h, i => by
    simp only [addRows] at h
    split at h
    · rename_i e es p u hg
      have hu := (bif_some h).1
      replace h := (bif_some h).2
      have hu : u = v := Nat.eq_of_beq_eq_true hu
      subst hu
      rcases addRows_spec h i with ⟨h1, h2⟩ | ⟨j, id', v', e', es', p', h1, h2, h3, h4⟩
      · rw [Tr.get_set] at h1
        by_cases hi : i = n0 + j0
        · rw [if_pos hi] at h1
          exact .inr ⟨0, id, u, e, es, p, by omega, by simp, hg, h1⟩
        · rw [if_neg hi] at h1
          refine .inl ⟨h1, fun j id' v' hj => ?_⟩
          cases j with
          | zero => omega
          | succ j => simpa using h2 j id' v' (by omega)
      · exact .inr ⟨j + 1, id', v', e', es', p', by omega, by simpa using h2, h3, h4⟩
    · cases h

theorem uniq_spec : ∀ {L : List (Option (Nat × Nat))} {j k id v w : Nat}, uniq L = true → L[j]? = some (some (id, v)) → L[k]? = some (some (id, w)) → j = k
  | [], _, _, _, _, _, _, h, _ => by simp at h
  | none :: L, j, k, id, v, w, hu, h1, h2 => by
    cases j with
    | zero => simp at h1
    | succ j => cases k with
      | zero => simp at h2
      | succ k => exact congrArg (· + 1) (uniq_spec (L := L) (j := j) (k := k) (id := id) (v := v) (w := w) (by simpa [uniq] using hu) (by simpa using h1) (by simpa using h2))
  | some (i, u) :: L, j, k, id, v, w, hu, h1, h2 => by
    simp only [uniq, Bool.and_eq_true, List.all_eq_true] at hu
    have hne : ∀ {k x : Nat}, L[k]? = some (some (i, x)) → False := fun {k x} hk => by
      have := hu.1 _ (List.mem_of_getElem? hk)
      simp at this
    cases j with
    | zero =>
      have e1 : i = id := by
        have : i = id ∧ u = v := by simpa using h1
        exact this.1
      subst e1
      cases k with
      | zero => rfl
      | succ k => exact (hne (by simpa using h2)).elim
    | succ j =>
      replace h1 : L[j]? = some (some (id, v)) := by simpa using h1
      cases k with
      | zero =>
        have e1 : i = id := by
          have : i = id ∧ u = w := by simpa using h2
          exact this.1
        subst e1; exact (hne h1).elim
      | succ k => rw [uniq_spec hu.2 h1 (by simpa using h2)]

end

section
variable {P : Program} {E : Env} {w0 : World} {G0 : Gh} {D : List Nat} {w : World} {β : Bi} {G : Gh} {n0 : Nat} {L : List (Option (Nat × Nat))} {base : Nat} {h : Nat → Option AObj}

theorem idfrees_flatten : ∀ {es : List (List DV)}, (∀ c ∈ es, idfrees c = true) → idfrees es.flatten = true
  | [], _ => rfl
  | c :: es, h => by
    have happ : ∀ (xs ys : List DV), idfrees xs = true → idfrees ys = true → idfrees (xs ++ ys) = true := fun xs => by
      induction xs with
      | nil => intro ys _ h; exact h
      | cons x xs ih =>
        intro ys h1 h2
        simp only [idfrees, Bool.and_eq_true, List.cons_append] at h1 ⊢
        exact ⟨h1.1, ih ys h1.2 h2⟩
    rw [List.flatten_cons]
    exact happ _ _ (h c (by simp)) (idfrees_flatten fun x hx => h x (by simp [hx]))

theorem mapR_free {β' : Bi} : ∀ {es : List (DV × DV)} {ms : List MapEntry}, MapR β G es ms → MapR β' G es ms
  | [], _, h => h
  | (k, v) :: es, _, ⟨m, ms', h1, h2, h3, h4, h5, h6⟩ => ⟨m, ms', h1, Rep.free k m.key (by cases k <;> simp [keyOk] at h4 <;> rfl) h2, Rep.free v m.val h5 h3, h4, h5, mapR_free h6⟩

theorem renObj_sound {id : Nat} {x x' : AObj} (hid : id < n0) (h : renObj n0 L x = some x') (ho : ObjR E base w β G id x) : ObjR E base w (renBi n0 L β) G id x' ∧ ∀ b, Owns (renBi n0 L β) id x' b ↔ Owns β id x b := by
  have hb : (renBi n0 L β).blk id = β.blk id := by simp [renBi, hid]
  have hh : ∀ u, (renBi n0 L β).hdr id u = β.hdr id u := fun u => by simp [renBi, hid]
  cases x with
  | cells t cs =>
    simp only [renObj] at h
    obtain ⟨cs', h1, h⟩ := some_bind h
    cases h
    obtain ⟨b, vs, k1, k2, k3, k4, k5⟩ := ho
    obtain ⟨m1, m2⟩ := rens_rep (β := β) h1 k3
    exact ⟨⟨b, vs, by rw [hb]; exact k1, k2, m1, by rw [m2]; exact k4, k5⟩, fun b => by simp [Owns, hb]⟩
  | row t es p u =>
    cases h
    obtain ⟨hdr, vals, k1, k2, k3, k4, k5, k6, k7⟩ := ho
    refine ⟨⟨hdr, vals, by rw [hh]; exact k1, k2, RepL.free _ _ ?_ k3, k4, k5, k6, fun u' hu => by rw [hh]; exact k7 u' hu⟩, fun b => by simp [Owns, hh]⟩
    exact idfrees_flatten fun c hc => (k4 c hc).2.1
  | map es =>
    cases h
    obtain ⟨b, ms, clock, k1, k2, k3⟩ := ho
    exact ⟨⟨b, ms, clock, by rw [hb]; exact k1, k2, mapR_free k3⟩, fun b => by simp [Owns, hb]⟩
  | siter s pos =>
    cases h
    obtain ⟨b, k1, k2⟩ := ho
    exact ⟨⟨b, by rw [hb]; exact k1, k2⟩, fun b => by simp [Owns, hb]⟩
  | loop fid bs ps as bo bid ex =>
    simp only [renObj] at h
    obtain ⟨bs', h1, h⟩ := some_bind h
    cases h
    obtain ⟨b, tmps, df, fn, F, k1, k2, k3, k4, k5, k6⟩ := ho
    refine ⟨⟨b, tmps, df, fn, F, by rw [hb]; exact k1, k2, fun t d ht => ?_, k4, k5, fun t d ht => ?_⟩, fun b => by simp [Owns, hb]⟩
    · rcases Tr.tm_get1 h1 t with ⟨_, h3⟩ | ⟨x, y, h3, h4, h5⟩
      · rw [h3] at ht; cases ht
      · obtain ⟨d', h6, h7⟩ := some_bind h4
        cases h7
        rw [h5] at ht; cases ht
        obtain ⟨v, h8, h9⟩ := k3 t x h3
        exact ⟨v, h8, (ren_rep h6 h9).1⟩
    · rcases Tr.tm_get1 h1 t with ⟨_, h3⟩ | ⟨x, y, h3, h4, h5⟩
      · rw [h3] at ht; cases ht
      · exact k6 t x h3

theorem moved_spec {id : Nat} : ∀ {L : List (Option (Nat × Nat))}, moved id L = false → ∀ (j v : Nat), L[j]? ≠ some (some (id, v))
  | [], _, j, v => by simp
  | none :: L, h, j, v => by
    cases j with
    | zero => simp
    | succ j => simpa using moved_spec (L := L) (by simpa [moved] using h) j v
  | some (i, w) :: L, h, j, v => by
    simp only [moved, Bool.or_eq_false_iff] at h
    cases j with
    | zero =>
      intro e
      simp only [List.getElem?_cons_zero, Option.some.injEq, Prod.mk.injEq] at e
      rw [e.1, Tr.beq_dec] at h
      simp at h
    | succ j => simpa using moved_spec (L := L) h.2 j v

/-- The heap under its new numbers. -/
theorem ren_heap (hh : HR E w0 G0 D w β G h) (hu : uniq L = true) {h' : Nat → Option AObj}
    (hs : ∀ i x', h' i = some x' → ((i < n0 ∧ ∀ (j v : Nat), L[j]? ≠ some (some (i, v))) ∧ ∃ x, h i = some x ∧ renObj n0 L x = some x') ∨ (∃ j id v e es p, i = n0 + j ∧ L[j]? = some (some (id, v)) ∧ h id = some (.row e es p v) ∧ x' = .row e es p 0)) :
    HR E w0 G0 D w (renBi n0 L β) G h' := by
  have horig : ∀ i x', h' i = some x' → ∃ k x, h k = some x ∧ ObjR E w0.heap.size w (renBi n0 L β) G i x' ∧ (∀ b, Owns (renBi n0 L β) i x' b → Owns β k x b) ∧ (((i < n0 ∧ ∀ (j v : Nat), L[j]? ≠ some (some (i, v))) ∧ k = i) ∨ ∃ j v, i = n0 + j ∧ L[j]? = some (some (k, v))) := fun i x' hi => by
    rcases hs i x' hi with ⟨hlt, x, hx, hr⟩ | ⟨j, id, v, e, es, p, rfl, hj, hx, rfl⟩
    · obtain ⟨k1, k2⟩ := renObj_sound hlt.1 hr (hh.obj i x hx)
      exact ⟨i, x, hx, k1, fun b hb => (k2 b).1 hb, .inl ⟨hlt, rfl⟩⟩
    · obtain ⟨hdr, vals, k1, k2, k3, k4, k5, k6, k7⟩ := hh.obj id _ hx
      have hnew := renBi_new (n0 := n0) (β := β) hj
      refine ⟨id, _, hx, ⟨hdr, vals, by rw [hnew]; exact k1, k2, RepL.free _ _ (idfrees_flatten fun c hc => (k4 c hc).2.1) k3, k4, k5, k6, fun u' hu' => ?_⟩, fun b hb => ?_, .inr ⟨j, v, rfl, hj⟩⟩
      · have h1 : ¬ n0 + j < n0 := by omega
        have h2 : u' ≠ 0 := by omega
        simp [renBi, h1, h2]
      · obtain ⟨m, c, hb⟩ := hb
        exact ⟨m, c, by rw [← hnew]; exact hb⟩
  refine ⟨hh.below, hh.g0, hh.agree, fun i x' hi => ?_, fun i x' b hi hb => ?_, fun i i' x y b hi hi' hb hb' => ?_, hh.marks⟩
  · obtain ⟨k, x, _, h2, _⟩ := horig i x' hi; exact h2
  · obtain ⟨k, x, h1, _, h3, _⟩ := horig i x' hi
    exact hh.own k x b h1 (h3 b hb)
  · obtain ⟨k, z, h1, _, h3, h4⟩ := horig i x hi
    obtain ⟨k', z', h1', _, h3', h4'⟩ := horig i' y hi'
    have hk : k = k' := hh.inj k k' z z' b h1 h1' (h3 b hb) (h3' b hb')
    subst hk
    rcases h4 with ⟨hlt, rfl⟩ | ⟨j, v, rfl, hj⟩ <;> rcases h4' with ⟨hlt', e'⟩ | ⟨j', v', rfl, hj'⟩
    · exact e'
    · exact absurd hj' (hlt.2 _ _)
    · subst e'; exact absurd hj (hlt'.2 _ _)
    · rw [uniq_spec hu hj hj']

theorem HR.rebi (hh : HR E w0 G0 D w β G h) {β' : Bi} (hx : Ext β G β' G) (hs : ∀ i o, h i = some o → β'.blk i = β.blk i ∧ ∀ u, β'.hdr i u = β.hdr i u) : HR E w0 G0 D w β' G h := by
  refine ⟨hh.below, hh.g0, hh.agree, fun i o hi => ?_, fun i o b hi hb => ?_, fun i k o p b hi hk hb hc => ?_, hh.marks⟩
  · exact ObjR.keep hx (hs i o hi).2 (fun _ _ => ⟨rfl, fun _ => rfl⟩) (hh.obj i o hi)
  · exact hh.own i o b hi ((owns_eq (hs i o hi).1 (hs i o hi).2 o b).1 hb)
  · exact hh.inj i k o p b hi hk ((owns_eq (hs i o hi).1 (hs i o hi).2 o b).1 hb) ((owns_eq (hs k p hk).1 (hs k p hk).2 p b).1 hc)

theorem repL_set : ∀ {cs : List DV} {vs : List Value} {off : Nat} {d : DV} {v : Value}, RepL β G cs vs → vs[off]? = some v → Rep β G d v → RepL β G (cs.set off d) vs
  | [], _, _, _, _, h, _, _ => h
  | c :: cs, _, off, d, v, h, hv, hr => by
    obtain ⟨u, vs', rfl, h1, h2⟩ := repL_cons.1 h
    cases off with
    | zero => simp at hv; subst hv; exact repL_cons.2 ⟨u, vs', rfl, hr, h2⟩
    | succ off => exact repL_cons.2 ⟨u, vs', rfl, h1, repL_set h2 (by simpa using hv) hr⟩
theorem all_set : ∀ {cs : List DV} {off : Nat} {d : DV}, cs.all isCell = true → isCell d = true → (cs.set off d).all isCell = true
  | [], _, _, h, _ => h
  | c :: cs, off, d, h, hd => by
    simp only [List.all_cons, Bool.and_eq_true] at h
    cases off with
    | zero => simp [hd]; simpa using h.2
    | succ off => simp [h.1]; simpa using all_set (off := off) h.2 hd

/-- New rows for lists that are nil. -/
theorem nilRows_sound (tm : Array Value) (V : Nat) : ∀ (as : List Acc) (j : Nat) (b : Tr DV) (no : Tr AObj) (β : Bi) (r : Tr DV × Tr AObj), nilRows E n0 j as (b, no) = some r →
    HR E w0 G0 D w β G no.get → FrM β G b.get tm → (∀ t d, b.get t = some d → Nat.testBit V t = true) → (∀ i, n0 ≤ i → no.get i = none → Fresh β no.get i) → (∀ i, n0 + j + as.length ≤ i → no.get i = none) →
    ∃ β', Ext β G β' G ∧ Agree n0 β β' ∧ HR E w0 G0 D w β' G r.2.get ∧ FrM β' G r.1.get tm ∧ (∀ t d, r.1.get t = some d → Nat.testBit V t = true) ∧ (∀ i, n0 + j + as.length ≤ i → Fresh β' r.2.get i) ∧
      ∀ i, i < n0 → no.get i = none → r.2.get i = none
  | [], j, b, no, β, r, h, hh, hf, hd, hfr, hn => by
    simp only [nilRows, Option.some.injEq] at h; subst h
    exact ⟨β, Ext.refl β G, ⟨fun _ _ => rfl, fun _ _ _ => rfl⟩, hh, hf, hd, fun i hi => hfr i (by simp at hi; omega) (hn i hi), fun _ _ h => h⟩
  | ac :: as, j, b, no, β, r, h, hh, hf, hd, hfr, hn => by
    simp only [List.length_cons] at hn ⊢
    have skip : nilRows E n0 (j + 1) as (b, no) = some r → ∃ β', Ext β G β' G ∧ Agree n0 β β' ∧ HR E w0 G0 D w β' G r.2.get ∧ FrM β' G r.1.get tm ∧ (∀ t d, r.1.get t = some d → Nat.testBit V t = true) ∧ (∀ i, n0 + j + (as.length + 1) ≤ i → Fresh β' r.2.get i) ∧
      ∀ i, i < n0 → no.get i = none → r.2.get i = none := fun h => by
      obtain ⟨β', k1, k2, k3, k4, k5, k6, k7⟩ := nilRows_sound tm V as (j + 1) b no β r h hh hf hd hfr (fun i hi => hn i (by omega))
      exact ⟨β', k1, k2, k3, k4, k5, fun i hi => k6 i (by omega), k7⟩
    have add : ∀ (b1 : Tr DV) (no1 : Tr AObj) (e : TypeId) (ei : TI), E.ty e = some ei → 0 < ei.size → no.get (n0 + j) = none → nilRows E n0 (j + 1) as (b1, no1.set (n0 + j) (some (.row e [] 0 0))) = some r →
        (∀ i, i ≠ n0 + j → (no1.get i = none ↔ no.get i = none)) →
        (∀ β1, Ext β G β1 G → Agree n0 β β1 → (∀ i, i ≠ n0 + j → β1.blk i = β.blk i ∧ ∀ u, β1.hdr i u = β.hdr i u) → β1.hdr (n0 + j) 0 = some (.slice none 0 0) → FrM β1 G b1.get tm ∧ (∀ t d, b1.get t = some d → Nat.testBit V t = true) ∧ HR E w0 G0 D w β1 G (fun i => if i = n0 + j then none else no1.get i)) →
        ∃ β', Ext β G β' G ∧ Agree n0 β β' ∧ HR E w0 G0 D w β' G r.2.get ∧ FrM β' G r.1.get tm ∧ (∀ t d, r.1.get t = some d → Nat.testBit V t = true) ∧ (∀ i, n0 + j + (as.length + 1) ≤ i → Fresh β' r.2.get i) ∧
          ∀ i, i < n0 → no.get i = none → r.2.get i = none := fun b1 no1 e ei hei hpos hnone hrec hno1 hb1 => by
      have hfresh := hfr (n0 + j) (by omega) hnone
      let β1 : Bi := { β with hdr := fun i u => if i = n0 + j ∧ u = 0 then some (.slice none 0 0) else β.hdr i u }
      have hx1 : Ext β G β1 G := ⟨fun _ _ _ h => h, fun _ _ h => h, fun i u v hv => by
        by_cases e1 : i = n0 + j ∧ u = 0
        · rw [e1.1, hfresh.hdr] at hv; cases hv
        · simp only [β1, if_neg e1]; exact hv⟩
      have hag1 : Agree n0 β β1 := ⟨fun _ _ => rfl, fun i hi u => by
        have : ¬ (i = n0 + j ∧ u = 0) := by omega
        simp only [β1, if_neg this]⟩
      have hoth : ∀ i, i ≠ n0 + j → β1.blk i = β.blk i ∧ ∀ u, β1.hdr i u = β.hdr i u := fun i hi => ⟨rfl, fun u => by simp [β1, hi]⟩
      obtain ⟨hf1, hd1, hh1⟩ := hb1 β1 hx1 hag1 hoth (by simp [β1])
      have hh2 : HR E w0 G0 D w β1 G (no1.set (n0 + j) (some (.row e [] 0 0))).get := by
        refine (hh1.move (fun _ => False) (n0 + j) (.row e [] 0 0) (Ext.refl _ _) hh1.below (fun _ _ _ => rfl) (fun _ _ => rfl) (Nat.le_refl _) (fun _ hf => hf.elim) (fun _ _ _ hf => hf.elim) (fun _ hf => hf.elim) ?_ ?_ ?_ (fun _ _ => ⟨rfl, fun _ => rfl⟩)).eq fun i => ?_
        · refine ⟨.slice none 0 0, [], by simp [β1], ⟨by simp, .inl ⟨rfl, rfl⟩⟩, repL_nil.2 rfl, by simp, ⟨by rw [eszOf_eq hei]; exact hpos, Nat.le_refl _⟩, fun b hb => by simp [Value.ownBlock] at hb, fun u' hu' => ?_⟩
          have : ¬ (u' = 0) := by omega
          simp [β1, this, hfresh.hdr]
        · rintro x ⟨m, c, hb⟩; simp [β1] at hb
        · rintro x ⟨m, c, hb⟩; simp [β1] at hb
        · rw [updF_one, Tr.get_set]
          by_cases e1 : i = n0 + j <;> simp [e1]
      have hs1 : ∀ i, n0 ≤ i → (no1.set (n0 + j) (some (.row e [] 0 0))).get i = none → Fresh β1 (no1.set (n0 + j) (some (.row e [] 0 0))).get i := fun i hi hq => by
        have hq0 := hq
        rw [Tr.get_set] at hq
        by_cases e1 : i = n0 + j
        · rw [if_pos e1] at hq; cases hq
        · rw [if_neg e1] at hq
          have := hfr i hi ((hno1 i e1).1 hq)
          exact ⟨(hoth i e1).1.trans this.blk, fun u => ((hoth i e1).2 u).trans (this.hdr u), hq0⟩
      have hs2 : ∀ i, n0 + (j + 1) + as.length ≤ i → (no1.set (n0 + j) (some (.row e [] 0 0))).get i = none := fun i hi => by
        rw [Tr.get_set, if_neg (by omega)]
        exact (hno1 i (by omega)).2 (hn i (by omega))
      obtain ⟨β', k1, k2, k3, k4, k5, k6, k7⟩ := nilRows_sound tm V as (j + 1) b1 _ β1 r hrec hh2 hf1 hd1 hs1 hs2
      refine ⟨β', hx1.trans k1, ⟨fun i hi => (k2.blk i hi).trans (hag1.blk i hi), fun i hi u => (k2.hdr i hi u).trans (hag1.hdr i hi u)⟩, k3, k4, k5, fun i hi => k6 i (by omega), fun i hi hq => k7 i hi ?_⟩
      rw [Tr.get_set, if_neg (by omega)]; exact (hno1 i (by omega)).2 hq
    cases ac with
    | slot t e =>
      simp only [nilRows] at h
      split at h
      · rename_i hbt
        obtain ⟨ei, hei, h⟩ := some_bind h
        obtain ⟨hq, h⟩ := bif_some h
        simp only [Bool.and_eq_true, Option.isNone_iff_eq_none] at hq
        refine add _ no e ei hei (Nat.le_of_ble_eq_true hq.1) hq.2 h (fun _ _ => Iff.rfl) fun β1 hx1 hag1 hoth hn1 => ⟨fun t' d ht => ?_, fun t' d ht => ?_, ?_⟩
        · rw [Tr.get_set] at ht
          by_cases e1 : t' = t
          · subst e1
            rw [if_pos rfl] at ht; cases ht
            obtain ⟨v, h1, h2⟩ := hf t' _ hbt
            rw [rep_nils] at h2
            exact ⟨v, h1, rep_rs.2 ⟨by rw [hn1, h2], _, _, _, h2⟩⟩
          · rw [if_neg e1] at ht
            obtain ⟨v, h1, h2⟩ := hf t' d ht
            exact ⟨v, h1, Rep.mono hx1 d v h2⟩
        · rw [Tr.get_set] at ht
          by_cases e1 : t' = t
          · subst e1; exact hd t' _ hbt
          · rw [if_neg e1] at ht; exact hd t' d ht
        · exact HR.rebi (hh.less fun i o hi => by
            by_cases e1 : i = n0 + j
            · rw [if_pos e1] at hi; cases hi
            · rw [if_neg e1] at hi; exact hi) hx1 fun i o hi => by
            by_cases e1 : i = n0 + j
            · rw [if_pos e1] at hi; cases hi
            · exact hoth i e1
      · exact skip h
    | cell t off e =>
      simp only [nilRows] at h
      split at h
      · split at h
        · split at h
          · rename_i q hbt _ ct cs hnq _ hcs
            obtain ⟨ei, hei, h⟩ := some_bind h
            obtain ⟨hq, h⟩ := bif_some h
            simp only [Bool.and_eq_true, Option.isNone_iff_eq_none] at hq
            have hqn : q ≠ n0 + j := fun e1 => by rw [e1, hq.2] at hnq; cases hnq
            refine add b _ e ei hei (Nat.le_of_ble_eq_true hq.1) hq.2 h (fun i hi => ?_) fun β1 hx1 hag1 hoth hn1 => ⟨hf.mono hx1, hd, ?_⟩
            · rw [Tr.get_set]
              by_cases e1 : i = q
              · subst e1; simp [hnq]
              · rw [if_neg e1]
            · have hh1 : HR E w0 G0 D w β1 G (fun i => if i = n0 + j then none else no.get i) := HR.rebi (hh.less fun i o hi => by
                by_cases e1 : i = n0 + j
                · rw [if_pos e1] at hi; cases hi
                · rw [if_neg e1] at hi; exact hi) hx1 fun i o hi => by
                by_cases e1 : i = n0 + j
                · rw [if_pos e1] at hi; cases hi
                · exact hoth i e1
              obtain ⟨bk, vs, m1, m2, m3, m4, m5⟩ := hh1.obj q (.cells ct cs) (by rw [if_neg hqn]; exact hnq)
              obtain ⟨v, m6, m7⟩ := repL_get m3 hcs
              rw [rep_nils] at m7; subst m7
              refine (hh1.move (fun _ => False) q (.cells ct (cs.set off (.rs (n0 + j) 0))) (Ext.refl _ _) hh1.below (fun _ _ _ => rfl) (fun _ _ => rfl) (Nat.le_refl _) (fun _ hf => hf.elim) (fun _ _ _ hf => hf.elim) (fun _ hf => hf.elim) ?_ ?_ ?_ (fun _ _ => ⟨rfl, fun _ => rfl⟩)).eq fun i => ?_
              · exact ⟨bk, vs, m1, m2, repL_set m3 m6 (rep_rs.2 ⟨hn1, _, _, _, rfl⟩), all_set m4 rfl, m5⟩
              · intro x hx
                exact .inr ⟨.cells ct cs, by rw [if_neg hqn]; exact hnq, hx⟩
              · intro x hx
                exact (hh1.own q (.cells ct cs) x (by rw [if_neg hqn]; exact hnq) hx).2.1
              · rw [updF_one, Tr.get_set]
                by_cases e1 : i = q
                · subst e1; simp [hqn]
                · simp [e1]
          · exact skip h
        · exact skip h
      · exact skip h

end
end Go.Ab
