/- New numbers at a loop's head: the state of the activation. -/
import Derived.Test.YtdoejdmpmpgmiaaAb19
set_option linter.unusedSectionVars false
set_option linter.unusedVariables false
set_option linter.unusedSimpArgs false
namespace Go.Ab
open Go.RowKit

section
variable {P : Program} {E : Env} {w0 : World} {G0 : Gh} {outer own : List Nat} {V nt : Nat} {a : Act} {w : World} {β : Bi} {G : Gh} {n0 : Nat}

/-- The state between two statements. -/
abbrev SS (E : Env) (w0 : World) (G0 : Gh) (outer : List Nat) (V nt : Nat) (own : List Nat) (s : St) (a : Act) (w : World) (β : Bi) (G : Gh) : Prop :=
  MI E w0 G0 outer V nt own s.base.get s.base s.objs.get s.next a w β G

theorem lift_obj {id : Nat} {x : AObj} (h : ObjR E w0.heap.size w β G id x) : ObjR E w0.heap.size w β G id (liftO x) := by
  cases x with
  | row t es p u =>
    obtain ⟨hdr, vals, k1, k2, k3, k4, k5, k6, k7⟩ := h
    exact ⟨hdr, vals, k1, k2, k3, k4, ⟨k5.1, pn_le _ _⟩, fun b hb o ho => k6 b hb o (Nat.le_trans (Nat.mul_le_mul_right _ (pn_le _ _)) ho), k7⟩
  | _ => exact h

theorem lift_owns {id : Nat} {x : AObj} {b : Nat} : Owns β id (liftO x) b ↔ Owns β id x b := by cases x <;> exact Iff.rfl

theorem Tr.mapv_get1 {α γ : Type} (f : α → γ) : ∀ (t : Tr α) (k : Nat), (t.mapv f).get k = (t.get k).map f
  | .leaf, _ => rfl
  | .node l v r, k => by
    simp only [Tr.mapv, Tr.get]
    cases Nat.beq k 0 with
    | true => rfl
    | false =>
      simp only [cond_false]
      cases Nat.beq (k % 2) 1 with
      | true => exact mapv_get1 f l _
      | false => exact mapv_get1 f r _

/-- Rows that count as shown. -/
theorem HR.lift {h : Nat → Option AObj} {D : List Nat} (hh : HR E w0 G0 D w β G h) {h' : Nat → Option AObj} (hl : ∀ i, h' i = (h i).map liftO) : HR E w0 G0 D w β G h' := by
  have key : ∀ i x', h' i = some x' → ∃ x, h i = some x ∧ x' = liftO x := fun i x' hi => by
    rw [hl i] at hi
    cases hq : h i with
    | none => rw [hq] at hi; cases hi
    | some x => rw [hq] at hi; cases hi; exact ⟨x, rfl, rfl⟩
  refine ⟨hh.below, hh.g0, hh.agree, fun i x' hi => ?_, fun i x' b hi hb => ?_, fun i j x y b hi hj hb hc => ?_, hh.marks⟩
  · obtain ⟨x, h1, rfl⟩ := key i x' hi
    exact lift_obj (hh.obj i x h1)
  · obtain ⟨x, h1, rfl⟩ := key i x' hi
    exact hh.own i x b h1 (lift_owns.1 hb)
  · obtain ⟨x', h1, rfl⟩ := key i x hi
    obtain ⟨y', h2, rfl⟩ := key j y hj
    exact hh.inj i j x' y' b h1 h2 (lift_owns.1 hb) (lift_owns.1 hc)

theorem norm0_sound {hint : Hint} {s s' : St} (hn : norm0 E hint n0 s = some s') (hm : SS E w0 G0 outer V nt own s a w β G) :
    ∃ β', SS E w0 G0 outer V nt own s' a w β' G ∧ Agree n0 β β' ∧ (∀ i, i < n0 → s.objs.get i = none → s'.objs.get i = none) ∧ n0 ≤ s'.next := by
  unfold norm0 at hn
  simp only at hn
  obtain ⟨hu, hn⟩ := bif_some hn
  obtain ⟨b, hb, hn⟩ := some_bind hn
  obtain ⟨o1, ho1, hn⟩ := some_bind hn
  obtain ⟨o2, ho2, hn⟩ := some_bind hn
  obtain ⟨r, hr, hn⟩ := some_bind hn
  cases hn
  generalize extraL s.objs s.base n0 hint.keep (hint.accs.map (accSrc s.objs s.base)) = XL at hu hb ho1 ho2 hr
  generalize hLdef : XL.map some ++ hint.accs.map (accSrc s.objs s.base) = L at hu hb ho1 ho2
  have hLlen : L.length = XL.length + hint.accs.length := by rw [← hLdef, List.length_append, List.length_map, List.length_map]
  have hspec : ∀ i x', o2.get i = some x' → ((i < n0 ∧ ∀ (j v : Nat), L[j]? ≠ some (some (i, v))) ∧ ∃ x, s.objs.get i = some x ∧ renObj n0 L x = some x') ∨ (∃ j id v e es p, i = n0 + j ∧ L[j]? = some (some (id, v)) ∧ s.objs.get id = some (.row e es p v) ∧ x' = .row e es p 0) := fun i x' hi => by
    rcases addRows_spec ho2 i with ⟨h1, h2⟩ | ⟨j, id, v, e, es, p, h1, h2, h3, h4⟩
    · rw [h1] at hi
      rcases Tr.tm_get1 ho1 i with ⟨_, h4⟩ | ⟨x, y, h3, h4, h5⟩
      · rw [h4] at hi; cases hi
      · rw [h5] at hi
        cases hl : (Nat.blt i n0 && !moved i L) with
        | true =>
          rw [hl] at h4
          simp only [cond_true] at h4
          obtain ⟨z, h6, h7⟩ := some_bind h4
          cases h7
          cases hi
          simp only [Bool.and_eq_true, Bool.not_eq_true', Tr.blt_dec, decide_eq_true_eq] at hl
          exact .inl ⟨⟨hl.1, moved_spec hl.2⟩, x, h3, h6⟩
        | false =>
          rw [hl] at h4
          simp only [cond_false] at h4
          cases h4
          cases hi
    · rw [h4] at hi; cases hi
      exact .inr ⟨j, id, v, e, es, p, by omega, h2, h3, rfl⟩
  have hh1 := ren_heap hm.hr hu hspec
  have hbase : ∀ t d', b.get t = some d' → ∃ d, s.base.get t = some d ∧ ren n0 L d = some d' := fun t d' ht => by
    rcases Tr.tm_get1 hb t with ⟨_, h4⟩ | ⟨x, y, h3, h4, h5⟩
    · rw [h4] at ht; cases ht
    · rw [h5] at ht
      subst ht
      cases hk : Nat.testBit hint.keep t with
      | true =>
        rw [hk] at h4
        simp only [cond_true] at h4
        obtain ⟨z, h6, h7⟩ := some_bind h4
        cases h7
        exact ⟨x, h3, h6⟩
      | false =>
        rw [hk] at h4
        simp only [cond_false] at h4
        cases h4
  have hf1 : FrM (renBi n0 L β) G b.get a.tmps := fun t d' ht => by
    obtain ⟨d, h1, h2⟩ := hbase t d' ht
    obtain ⟨v, h3, h4⟩ := hm.fr t d h1
    exact ⟨v, h3, (ren_rep h2 h4).1⟩
  have hd1 : ∀ t d, b.get t = some d → Nat.testBit V t = true := fun t d' ht => by
    obtain ⟨d, h1, _⟩ := hbase t d' ht
    exact hm.dom t d h1
  have hfr1 : ∀ i, n0 ≤ i → o2.get i = none → Fresh (renBi n0 L β) o2.get i := fun i hi hq => by
    have h1 : ¬ i < n0 := by omega
    refine ⟨by simp [renBi, h1], fun u => ?_, hq⟩
    simp only [renBi, h1, if_false]
    by_cases hu0 : u = 0
    · rw [if_pos hu0]
      split
      · rename_i id v hj
        rcases addRows_spec ho2 i with ⟨h2, h3⟩ | ⟨j, id', v', e, es, p, h2, h3, h4, h5⟩
        · exact absurd hj (h3 (i - n0) id v (by omega))
        · rw [h5] at hq; cases hq
      · rfl
    · rw [if_neg hu0]
  have hn1 : ∀ i, n0 + XL.length + hint.accs.length ≤ i → o2.get i = none := fun i hi => by
    cases hq : o2.get i with
    | none => rfl
    | some x =>
      rcases hspec i x hq with ⟨h1, _⟩ | ⟨j, id, v, e, es, p, h1, h2, _⟩
      · have := h1.1; omega
      · have := (List.getElem?_eq_some_iff.1 h2).1
        omega
  obtain ⟨β', k1, k2, k3, k4, k5, k6, k7⟩ := nilRows_sound a.tmps V hint.accs XL.length b o2 _ r hr hh1 hf1 hd1 hfr1 hn1
  have hag := renBi_agree n0 L β
  refine ⟨β', ⟨k4, k5, hm.sz, k3, fun i hi => k6 i hi, hm.df⟩, ⟨fun i hi => (k2.blk i hi).trans (hag.blk i hi), fun i hi u => (k2.hdr i hi u).trans (hag.hdr i hi u)⟩, fun i hi hq => k7 i hi ?_, by show n0 ≤ n0 + XL.length + hint.accs.length; omega⟩
  cases hz : o2.get i with
  | none => rfl
  | some x =>
    rcases hspec i x hz with ⟨_, x', h2, _⟩ | ⟨j, id, v, e, es, p, h1, _⟩
    · rw [hq] at h2; cases h2
    · omega

theorem norm_sound {hint : Hint} {s s' : St} (hn : norm E hint n0 s = some s') (hm : SS E w0 G0 outer V nt own s a w β G) :
    ∃ β', SS E w0 G0 outer V nt own s' a w β' G ∧ Agree n0 β β' ∧ (∀ i, i < n0 → s.objs.get i = none → s'.objs.get i = none) ∧ n0 ≤ s'.next := by
  unfold norm at hn
  obtain ⟨s1, h1, hn⟩ := some_bind hn
  cases hn
  obtain ⟨β', k1, k2, k3, k4⟩ := norm0_sound h1 hm
  cases hint.raw with
  | true => exact ⟨β', k1, k2, k3, k4⟩
  | false =>
    simp only [cond_false]
    have hg : ∀ i, (s1.objs.mapv liftO).get i = (s1.objs.get i).map liftO := Tr.mapv_get1 liftO _
    refine ⟨β', ⟨k1.fr, k1.dom, k1.sz, k1.hr.lift hg, fun i hi => ?_, k1.df⟩, k2, fun i hi hq => ?_, k4⟩
    · have hf := k1.fresh i hi
      exact ⟨hf.blk, hf.hdr, by show (s1.objs.mapv liftO).get i = none; rw [hg, hf.h]; rfl⟩
    · show (s1.objs.mapv liftO).get i = none
      rw [hg, k3 i hi hq]; rfl

end
end Go.Ab
