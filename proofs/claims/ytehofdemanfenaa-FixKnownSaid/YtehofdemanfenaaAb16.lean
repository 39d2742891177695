/- Tries: what they hold. Plain lemmas. -/
import Derived.Test.YtehofdemanfenaaAb15
namespace Go.Ab
namespace Tr
variable {α : Type}

theorem beq_dec (a b : Nat) : Nat.beq a b = decide (a = b) := by
  by_cases h : a = b
  · subst h; simp
  · have : Nat.beq a b = false := by
      cases hq : Nat.beq a b with
      | false => rfl
      | true => exact absurd (Nat.eq_of_beq_eq_true hq) h
    simp [this, h]

theorem blt_dec (a b : Nat) : Nat.blt a b = decide (a < b) := by
  by_cases h : a < b
  · have h1 : Nat.blt a b = true := Nat.ble_eq_true_of_le h
    rw [h1]; simp [h]
  · have : Nat.blt a b = false := by
      cases hq : Nat.blt a b with
      | false => rfl
      | true => exact absurd (Nat.le_of_ble_eq_true hq) h
    simp [this, h]

theorem get_leaf (k : Nat) : (leaf : Tr α).get k = none := rfl
theorem get_node (l r : Tr α) (v : Option α) (k : Nat) : (node l v r).get k = if k = 0 then v else if k % 2 = 1 then l.get (k / 2) else r.get (k / 2 - 1) := by
  rw [get, beq_dec, beq_dec]
  by_cases h : k = 0
  · simp [h]
  · by_cases h2 : k % 2 = 1 <;> simp [h, h2]

theorem get_setAux : ∀ (n : Nat) (t : Tr α) (k : Nat) (v : Option α) (k' : Nat), k < n → (setAux n t k v).get k' = if k' = k then v else t.get k'
  | 0, _, _, _, _, h => by omega
  | n + 1, .leaf, k, v, k', h => by
    rw [setAux, beq_dec, beq_dec]
    by_cases h0 : k = 0
    · subst h0
      simp only [decide_true, cond_true, get_node, get_leaf]
      by_cases e : k' = 0 <;> simp [e]
    · by_cases h1 : k % 2 = 1
      · simp only [h0, h1, decide_true, decide_false, cond_true, cond_false, get_node, get_leaf]
        by_cases e0 : k' = 0
        · have : k' ≠ k := by omega
          simp [e0]; omega
        · by_cases e1 : k' % 2 = 1
          · rw [if_neg e0, if_pos e1, get_setAux n .leaf (k / 2) v (k' / 2) (by omega), get_leaf]
            by_cases e : k' = k
            · subst e; simp
            · rw [if_neg e, if_neg (by omega)]
          · rw [if_neg e0, if_neg e1]
            have : k' ≠ k := by omega
            simp [this]
      · simp only [h0, h1, decide_false, cond_false, get_node, get_leaf]
        by_cases e0 : k' = 0
        · have : k' ≠ k := by omega
          simp [e0]; omega
        · by_cases e1 : k' % 2 = 1
          · rw [if_neg e0, if_pos e1]
            have : k' ≠ k := by omega
            simp [this]
          · rw [if_neg e0, if_neg e1, get_setAux n .leaf (k / 2 - 1) v (k' / 2 - 1) (by omega), get_leaf]
            by_cases e : k' = k
            · subst e; simp
            · rw [if_neg e, if_neg (by omega)]
  | n + 1, .node l x r, k, v, k', h => by
    rw [setAux, beq_dec, beq_dec]
    by_cases h0 : k = 0
    · subst h0
      simp only [decide_true, cond_true, get_node]
      by_cases e : k' = 0 <;> simp [e]
    · by_cases h1 : k % 2 = 1
      · simp only [h0, h1, decide_true, decide_false, cond_true, cond_false, get_node]
        by_cases e0 : k' = 0
        · have : ¬ (0 = k) := by omega
          simp [e0, this]
        · by_cases e1 : k' % 2 = 1
          · simp only [if_neg e0, if_pos e1, get_setAux n l (k / 2) v (k' / 2) (by omega)]
            by_cases e : k' = k
            · subst e; simp
            · rw [if_neg e, if_neg (by omega)]
          · have : k' ≠ k := by omega
            simp [e0, e1, this]
      · simp only [h0, h1, decide_false, cond_false, get_node]
        by_cases e0 : k' = 0
        · have : ¬ (0 = k) := by omega
          simp [e0, this]
        · by_cases e1 : k' % 2 = 1
          · have : k' ≠ k := by omega
            simp [e0, e1, this]
          · simp only [if_neg e0, if_neg e1, get_setAux n r (k / 2 - 1) v (k' / 2 - 1) (by omega)]
            by_cases e : k' = k
            · subst e; simp
            · rw [if_neg e, if_neg (by omega)]

theorem get_set (t : Tr α) (k : Nat) (v : Option α) (k' : Nat) : (t.set k v).get k' = if k' = k then v else t.get k' := get_setAux _ t k v k' (by omega)

theorem mkn_get (l : Tr α) (v : Option α) (r : Tr α) (k : Nat) : (mkn l v r).get k = (Tr.node l v r).get k := by
  unfold mkn
  split
  · simp [get]
  · rfl

theorem tm_get (f : Nat → α → Option (Option α)) : ∀ (t t' : Tr α) (a b : Nat), tm f t a b = some t' →
    ∀ k, (t.get k = none ∧ t'.get k = none) ∨ ∃ x y, t.get k = some x ∧ f (a * k + b) x = some y ∧ t'.get k = y
  | .leaf, t', a, b, h, k => by
    simp only [tm, Option.some.injEq] at h; subst h
    exact .inl ⟨rfl, rfl⟩
  | .node l v r, t', a, b, h, k => by
    simp only [tm] at h
    obtain ⟨l', hl, h⟩ := some_bind h
    obtain ⟨v', hv, h⟩ := some_bind h
    obtain ⟨r', hr, h⟩ := some_bind h
    cases h
    rw [mkn_get, get_node, get_node]
    by_cases e0 : k = 0
    · subst e0
      simp only [if_true, Nat.mul_zero, Nat.zero_add]
      cases v with
      | none => cases hv; exact .inl ⟨rfl, rfl⟩
      | some x => exact .inr ⟨x, v', rfl, hv, rfl⟩
    · by_cases e1 : k % 2 = 1
      · simp only [if_neg e0, if_pos e1]
        have := tm_get f l l' _ _ hl (k / 2)
        rwa [show 2 * a * (k / 2) + (a + b) = a * k + b by
          have : k = 2 * (k / 2) + 1 := by omega
          generalize k / 2 = m at this; subst this
          rw [Nat.mul_add, ← Nat.mul_assoc, Nat.mul_comm a 2]; omega] at this
      · simp only [if_neg e0, if_neg e1]
        have := tm_get f r r' _ _ hr (k / 2 - 1)
        rwa [show 2 * a * (k / 2 - 1) + (2 * a + b) = a * k + b by
          have : k = 2 * (k / 2 - 1) + 2 := by omega
          generalize k / 2 - 1 = m at this; subst this
          rw [Nat.mul_add, ← Nat.mul_assoc, Nat.mul_comm a 2]; omega] at this

theorem filt_get (m : Nat) : ∀ (t : Tr α) (a b k : Nat), (t.filt m a b).get k = bif Nat.testBit m (a * k + b) then t.get k else none
  | .leaf, a, b, k => by cases Nat.testBit m (a * k + b) <;> rfl
  | .node l v r, a, b, k => by
    simp only [filt]
    rw [mkn_get, get_node, get_node]
    by_cases e0 : k = 0
    · subst e0
      simp only [if_true, Nat.mul_zero, Nat.zero_add]
    · by_cases e1 : k % 2 = 1
      · simp only [if_neg e0, if_pos e1]
        rw [filt_get m l, show 2 * a * (k / 2) + (a + b) = a * k + b by
          have : k = 2 * (k / 2) + 1 := by omega
          generalize k / 2 = m at this; subst this
          rw [Nat.mul_add, ← Nat.mul_assoc, Nat.mul_comm a 2]; omega]
      · simp only [if_neg e0, if_neg e1]
        rw [filt_get m r, show 2 * a * (k / 2 - 1) + (2 * a + b) = a * k + b by
          have : k = 2 * (k / 2 - 1) + 2 := by omega
          generalize k / 2 - 1 = m at this; subst this
          rw [Nat.mul_add, ← Nat.mul_assoc, Nat.mul_comm a 2]; omega]

theorem filt_sub {m : Nat} {t : Tr α} {k : Nat} {x : α} (h : (t.filt m 1 0).get k = some x) : t.get k = some x := by
  rw [filt_get] at h
  cases hm : Nat.testBit m (1 * k + 0) with
  | true => rw [hm] at h; exact h
  | false => rw [hm] at h; cases h

theorem tm_get1 {f : Nat → α → Option (Option α)} {t t' : Tr α} (h : tm f t 1 0 = some t') (k : Nat) : (t.get k = none ∧ t'.get k = none) ∨ ∃ x y, t.get k = some x ∧ f k x = some y ∧ t'.get k = y := by
  have := tm_get f t t' 1 0 h k
  simpa using this

end Tr

theorem updObjs_get (o : Tr AObj) : ∀ (us : List (Nat × Option AObj)) (i : Nat), (updObjs o us).get i = updF o.get us i := by
  intro us
  induction us generalizing o with
  | nil => intro i; rfl
  | cons u us ih =>
    intro i
    obtain ⟨j, x⟩ := u
    rw [updObjs, ih, ]
    unfold updF
    simp only [updFind]
    cases hq : updFind i us with
    | some y => rfl
    | none =>
      rw [Tr.get_set, Tr.beq_dec]
      by_cases e : i = j
      · subst e; simp
      · have : ¬ j = i := fun h => e h.symm
        simp [e, this]

end Go.Ab
