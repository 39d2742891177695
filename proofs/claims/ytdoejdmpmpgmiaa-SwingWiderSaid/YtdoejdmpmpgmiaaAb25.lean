/- An operation that knows more answers the same. Definitions of the evaluator alone. -/
import Derived.Test.YtdoejdmpmpgmiaaAb20
set_option linter.unusedSectionVars false
set_option linter.unusedVariables false
set_option linter.unusedSimpArgs false
namespace Go.Ab

/-- Of what a value names, h' knows what h knows. -/
def Le (h h' : Nat → Option AObj) (d : DV) : Prop := ∀ id, id ∈ idsOf d → ∀ o, h id = some o → h' id = some o

section
variable {E : Env} {ρ ρ' : Nat → Option DV} {h h' : Nat → Option AObj} {nid : Nat}

def OkX (ρ ρ' : Nat → Option DV) (h h' : Nat → Option AObj) (x : Operand) : Prop := ∀ d, opnd ρ x = some d → opnd ρ' x = some d ∧ Le h h' d

mutual
theorem rows_ids : ∀ (d : DV) (i : Nat), i ∈ rowsOf d → i ∈ idsOf d
  | .rs _ _, _, h => by simpa [rowsOf, idsOf] using h
  | .agg cs, i, h => by simp only [rowsOf, idsOf] at h ⊢; exact rows_idss cs i h
  | .tup cs, i, h => by simp only [rowsOf, idsOf] at h ⊢; exact rows_idss cs i h
  | .iface _ v, i, h => by simp only [rowsOf, idsOf] at h ⊢; exact rows_ids v i h
  | .bool _, _, h => by simp [rowsOf] at h
  | .int _ _, _, h => by simp [rowsOf] at h
  | .str _, _, h => by simp [rowsOf] at h
  | .nilp, _, h => by simp [rowsOf] at h
  | .ptr _ _, _, h => by simp [rowsOf] at h
  | .rptr _ _ _ _ _, _, h => by simp [rowsOf] at h
  | .pub _, _, h => by simp [rowsOf] at h
  | .nils, _, h => by simp [rowsOf] at h
  | .sl _, _, h => by simp [rowsOf] at h
  | .fn _ _ _, _, h => by simp [rowsOf] at h
  | .nilfn, _, h => by simp [rowsOf] at h
  | .map _, _, h => by simp [rowsOf] at h
  | .nilmap, _, h => by simp [rowsOf] at h
  | .nilif, _, h => by simp [rowsOf] at h
  | .iter _, _, h => by simp [rowsOf] at h
  | .yld _, _, h => by simp [rowsOf] at h
theorem rows_idss : ∀ (ds : List DV) (i : Nat), i ∈ rowsOfs ds → i ∈ idsOfs ds
  | [], _, h => by simp [rowsOfs] at h
  | d :: ds, i, h => by
    simp only [rowsOfs, idsOfs, List.mem_append] at h ⊢
    rcases h with h | h
    · exact .inl (rows_ids d i h)
    · exact .inr (rows_idss ds i h)
end

mutual
theorem frz_known : ∀ (d d' : DV), frz h d = some d' → ∀ i ∈ rowsOf d, ∃ o, h i = some o
  | .rs id v, _, hd, i, hi => by
    simp only [frz] at hd
    obtain ⟨o, ho, _⟩ := some_bind hd
    simp only [rowsOf, List.mem_singleton] at hi
    subst hi; exact ⟨o, ho⟩
  | .agg cs, _, hd, i, hi => by
    simp only [frz] at hd
    obtain ⟨cs', h1, _⟩ := some_bind hd
    exact frzs_known cs cs' h1 i (by simpa [rowsOf] using hi)
  | .tup cs, _, hd, i, hi => by
    simp only [frz] at hd
    obtain ⟨cs', h1, _⟩ := some_bind hd
    exact frzs_known cs cs' h1 i (by simpa [rowsOf] using hi)
  | .iface _ v, _, hd, i, hi => by
    simp only [frz] at hd
    obtain ⟨v', h1, _⟩ := some_bind hd
    exact frz_known v v' h1 i (by simpa [rowsOf] using hi)
  | .bool _, _, _, _, h => by simp [rowsOf] at h
  | .int _ _, _, _, _, h => by simp [rowsOf] at h
  | .str _, _, _, _, h => by simp [rowsOf] at h
  | .nilp, _, _, _, h => by simp [rowsOf] at h
  | .ptr _ _, _, _, _, h => by simp [rowsOf] at h
  | .rptr _ _ _ _ _, _, _, _, h => by simp [rowsOf] at h
  | .pub _, _, _, _, h => by simp [rowsOf] at h
  | .nils, _, _, _, h => by simp [rowsOf] at h
  | .sl _, _, _, _, h => by simp [rowsOf] at h
  | .fn _ _ _, _, _, _, h => by simp [rowsOf] at h
  | .nilfn, _, _, _, h => by simp [rowsOf] at h
  | .map _, _, _, _, h => by simp [rowsOf] at h
  | .nilmap, _, _, _, h => by simp [rowsOf] at h
  | .nilif, _, _, _, h => by simp [rowsOf] at h
  | .iter _, _, _, _, h => by simp [rowsOf] at h
  | .yld _, _, _, _, h => by simp [rowsOf] at h
theorem frzs_known : ∀ (ds ds' : List DV), frzs h ds = some ds' → ∀ i ∈ rowsOfs ds, ∃ o, h i = some o
  | [], _, _, i, hi => by simp [rowsOfs] at hi
  | d :: ds, _, hd, i, hi => by
    simp only [frzs] at hd
    obtain ⟨c, h1, hd⟩ := some_bind hd
    obtain ⟨cs, h2, _⟩ := some_bind hd
    simp only [rowsOfs, List.mem_append] at hi
    rcases hi with hi | hi
    · exact frz_known d c h1 i hi
    · exact frzs_known ds cs h2 i hi
end

mutual
theorem frz_mono : ∀ (d d' : DV), Le h h' d → frz h d = some d' → frz h' d = some d'
  | .rs id v, d', hl, hd => by
    simp only [frz] at hd ⊢
    obtain ⟨o, ho, h2⟩ := some_bind hd
    rw [hl id (by simp [idsOf]) o ho]; exact h2
  | .agg cs, d', hl, hd => by
    simp only [frz] at hd ⊢
    obtain ⟨cs', h1, h2⟩ := some_bind hd
    rw [frzs_mono cs cs' (fun id hid => hl id (by simpa [idsOf] using hid)) h1]; exact h2
  | .tup cs, d', hl, hd => by
    simp only [frz] at hd ⊢
    obtain ⟨cs', h1, h2⟩ := some_bind hd
    rw [frzs_mono cs cs' (fun id hid => hl id (by simpa [idsOf] using hid)) h1]; exact h2
  | .iface _ v, d', hl, hd => by
    simp only [frz] at hd ⊢
    obtain ⟨v', h1, h2⟩ := some_bind hd
    rw [frz_mono v v' (fun id hid => hl id (by simpa [idsOf] using hid)) h1]; exact h2
  | .bool _, _, _, hd => by simpa only [frz] using hd
  | .int _ _, _, _, hd => by simpa only [frz] using hd
  | .str _, _, _, hd => by simpa only [frz] using hd
  | .nilp, _, _, hd => by simpa only [frz] using hd
  | .ptr _ _, _, _, hd => by simpa only [frz] using hd
  | .rptr _ _ _ _ _, _, _, hd => by simpa only [frz] using hd
  | .pub _, _, _, hd => by simpa only [frz] using hd
  | .nils, _, _, hd => by simpa only [frz] using hd
  | .sl _, _, _, hd => by simpa only [frz] using hd
  | .fn _ _ _, _, _, hd => by simpa only [frz] using hd
  | .nilfn, _, _, hd => by simpa only [frz] using hd
  | .map _, _, _, hd => by simpa only [frz] using hd
  | .nilmap, _, _, hd => by simpa only [frz] using hd
  | .nilif, _, _, hd => by simpa only [frz] using hd
  | .iter _, _, _, hd => by simpa only [frz] using hd
  | .yld _, _, _, hd => by simpa only [frz] using hd
theorem frzs_mono : ∀ (ds ds' : List DV), (∀ id, id ∈ idsOfs ds → ∀ o, h id = some o → h' id = some o) → frzs h ds = some ds' → frzs h' ds = some ds'
  | [], _, _, hd => hd
  | d :: ds, d', hl, hd => by
    simp only [frzs] at hd ⊢
    obtain ⟨c, h1, h2⟩ := some_bind hd
    obtain ⟨cs, h3, h4⟩ := some_bind h2
    rw [frz_mono d c (fun id hid => hl id (by simp [idsOfs, hid])) h1]
    simp only [Option.bind_some]
    rw [frzs_mono ds cs (fun id hid => hl id (by simp [idsOfs, hid])) h3]
    exact h4
end

theorem showRows_congr : ∀ (is : List Nat), (∀ i ∈ is, h i = h' i) → showRows h is = showRows h' is
  | [], _ => rfl
  | i :: is, hs => by
    simp only [showRows]
    rw [hs i (by simp), showRows_congr is (fun j hj => hs j (by simp [hj]))]

theorem showRows_mem : ∀ (is : List Nat) (u : Nat × Option AObj), u ∈ showRows h is → u.1 ∈ is
  | [], u, hu => by simp [showRows] at hu
  | i :: is, u, hu => by
    simp only [showRows, List.mem_append] at hu
    rcases hu with hu | hu
    · split at hu
      · rename_i p _ _
        cases hp : Nat.beq p 1 with
        | true => rw [hp] at hu; cases hu
        | false => rw [hp] at hu; simp only [cond_false, List.mem_singleton] at hu; subst hu; simp
      · cases hu
    · exact List.mem_cons_of_mem _ (showRows_mem is u hu)

theorem show_mono {ds : List DV} (hl : ∀ id, id ∈ idsOfs ds → ∀ o, h id = some o → h' id = some o) (hk : ∀ i ∈ rowsOfs ds, ∃ o, h i = some o) : showRows h' (rowsOfs ds) = showRows h (rowsOfs ds) :=
  (showRows_congr _ fun i hi => by
    obtain ⟨o, ho⟩ := hk i hi
    rw [ho, hl i (rows_idss ds i hi) o ho]).symm

theorem elems_mono {d : DV} {es : List (List DV)} (hl : Le h h' d) (hd : elemsOf h d = some es) : elemsOf h' d = some es := by
  cases d with
  | rs id v =>
    simp only [elemsOf] at hd ⊢
    obtain ⟨o, ho, h2⟩ := some_bind hd
    rw [hl id (by simp [idsOf]) o ho]; exact h2
  | nils => exact hd
  | sl es => exact hd
  | _ => cases hd

theorem elems_known {d : DV} {es : List (List DV)} (hd : elemsOf h d = some es) : ∀ i ∈ rowsOfs [d], ∃ o, h i = some o := fun i hi => by
  cases d with
  | rs id v =>
    simp only [elemsOf] at hd
    obtain ⟨o, ho, _⟩ := some_bind hd
    simp [rowsOfs, rowsOf] at hi
    subst hi; exact ⟨o, ho⟩
  | nils => simp [rowsOfs, rowsOf] at hi
  | sl es => simp [rowsOfs, rowsOf] at hi
  | _ => cases hd

theorem load_mono {ti : TI} {a d : DV} (hl : Le h h' a) (hd : loadD ti h a = some d) : loadD ti h' a = some d := by
  cases a with
  | ptr id off =>
    simp only [loadD] at hd ⊢
    obtain ⟨o, ho, h2⟩ := some_bind hd
    rw [hl id (by simp [idsOf]) o ho]; exact h2
  | rptr id v i e off =>
    simp only [loadD] at hd ⊢
    obtain ⟨o, ho, h2⟩ := some_bind hd
    rw [hl id (by simp [idsOf]) o ho]; exact h2
  | pub cs => exact hd
  | _ => cases hd

theorem store_mono {ti : TI} {a v : DV} {us : List (Nat × Option AObj)} (hl : Le h h' a) (hd : storeD ti h a v = some us) : storeD ti h' a v = some us ∧ ∀ u ∈ us, u.1 ∈ idsOf a := by
  unfold storeD at hd ⊢
  obtain ⟨hq, hd⟩ := bif_some hd
  rw [hq]
  cases a with
  | ptr id off =>
    simp only [cond_true] at hd ⊢
    obtain ⟨o, ho, h2⟩ := some_bind hd
    rw [hl id (by simp [idsOf]) o ho]
    refine ⟨h2, ?_⟩
    split at h2
    · obtain ⟨_, h3⟩ := bif_some h2
      cases h3
      intro u hu
      simp only [List.mem_singleton] at hu
      subst hu; simp [idsOf]
    · cases h2
  | rptr id v i e off =>
    simp only [cond_true] at hd ⊢
    obtain ⟨o, ho, h2⟩ := some_bind hd
    rw [hl id (by simp [idsOf]) o ho]
    refine ⟨h2, ?_⟩
    split at h2
    · obtain ⟨_, _, h2⟩ := some_bind h2
      obtain ⟨_, h3⟩ := bif_some h2
      cases h3
      intro u hu
      simp only [List.mem_singleton] at hu
      subst hu; simp [idsOf]
    · cases h2
  | _ => cases hd

theorem len_mono {k : TK} {d r : DV} (hl : Le h h' d) (hd : lenD k h d = some r) : lenD k h' d = some r := by
  unfold lenD at hd ⊢
  split at hd
  · exact hd
  · exact hd
  · rename_i id
    obtain ⟨o, ho, h2⟩ := some_bind hd
    rw [hl id (by simp [idsOf]) o ho]; exact h2
  · obtain ⟨es, h1, h2⟩ := some_bind hd
    rw [elems_mono hl h1]; exact h2
  · exact hd
  · cases hd

theorem append_mono {t : TypeId} {s x : DV} {r : Out} (hs : Le h h' s) (hx : Le h h' x) (hd : appendD E nid h t s x = some r) : appendD E nid h' t s x = some r ∧ ∀ u ∈ r.upd, u.1 = nid ∨ u.1 ∈ idsOf s := by
  unfold appendD at hd ⊢
  obtain ⟨ti, hti, hd⟩ := some_bind hd
  rw [hti]
  simp only [Option.bind_some]
  split at hd
  · obtain ⟨ei, hei, hd⟩ := some_bind hd
    obtain ⟨xs, hxs, hd⟩ := some_bind hd
    rw [hei]
    simp only [Option.bind_some, elems_mono hx hxs]
    obtain ⟨hq, hd⟩ := bif_some hd
    rw [hq]
    simp only [cond_true]
    cases s with
    | nils =>
      refine ⟨hd, ?_⟩
      cases xs with
      | nil => cases hd; simp
      | cons c cs =>
        obtain ⟨_, hd⟩ := bif_some hd
        cases hd
        intro u hu
        simp only [List.mem_singleton] at hu
        subst hu; exact .inl rfl
    | rs id v =>
      simp only at hd ⊢
      obtain ⟨o, ho, h2⟩ := some_bind hd
      rw [hs id (by simp [idsOf]) o ho]
      refine ⟨h2, ?_⟩
      split at h2
      · obtain ⟨_, h3⟩ := bif_some h2
        cases h3
        intro u hu
        simp only [List.mem_singleton] at hu
        subst hu; exact .inr (by simp [idsOf])
      · cases h2
    | _ => cases hd
  · cases hd

theorem opnds_mono : ∀ {xs : List Operand} {ds : List DV}, (∀ x ∈ xs, OkX ρ ρ' h h' x) → opnds ρ xs = some ds → opnds ρ' xs = some ds ∧ ∀ id, id ∈ idsOfs ds → (∀ o, h id = some o → h' id = some o) ∧ ∃ x ∈ xs, ∃ d, opnd ρ x = some d ∧ id ∈ idsOf d
  | [], ds, _, hd => by simp only [opnds, Option.some.injEq] at hd; subst hd; exact ⟨rfl, fun id hid => by simp [idsOfs] at hid⟩
  | x :: xs, ds, ho, hd => by
    simp only [opnds] at hd ⊢
    obtain ⟨d, h1, hd⟩ := some_bind hd
    obtain ⟨ds', h2, hd⟩ := some_bind hd
    cases hd
    obtain ⟨k1, k2⟩ := ho x (by simp) d h1
    obtain ⟨k3, k4⟩ := opnds_mono (fun y hy => ho y (by simp [hy])) h2
    refine ⟨by rw [k1, k3]; rfl, fun id hid => ?_⟩
    simp only [idsOfs, List.mem_append] at hid
    rcases hid with hid | hid
    · exact ⟨k2 id hid, x, by simp, d, h1, hid⟩
    · obtain ⟨m1, y, m2, m3⟩ := k4 id hid
      exact ⟨m1, y, by simp [m2], m3⟩

theorem parts_mono : ∀ {ps : List (Nat × Operand)} {vs : List (Nat × DV)}, (∀ x ∈ ps.map (·.2), OkX ρ ρ' h h' x) → partsD ρ ps = some vs → partsD ρ' ps = some vs ∧ ∀ id, id ∈ idsOfs (vs.map (·.2)) → (∀ o, h id = some o → h' id = some o) ∧ ∃ x ∈ ps.map (·.2), ∃ d, opnd ρ x = some d ∧ id ∈ idsOf d
  | [], vs, _, hd => by simp only [partsD, Option.some.injEq] at hd; subst hd; exact ⟨rfl, fun id hid => by simp [idsOfs] at hid⟩
  | (i, x) :: ps, vs, ho, hd => by
    simp only [partsD] at hd ⊢
    obtain ⟨d, h1, hd⟩ := some_bind hd
    obtain ⟨vs', h2, hd⟩ := some_bind hd
    cases hd
    obtain ⟨k1, k2⟩ := ho x (by simp) d h1
    obtain ⟨k3, k4⟩ := parts_mono (fun y hy => ho y (by simp at hy ⊢; exact .inr hy)) h2
    refine ⟨by rw [k1, k3]; rfl, fun id hid => ?_⟩
    simp only [List.map_cons, idsOfs, List.mem_append] at hid
    rcases hid with hid | hid
    · exact ⟨k2 id hid, x, by simp, d, h1, hid⟩
    · obtain ⟨m1, y, m2, m3⟩ := k4 id hid
      exact ⟨m1, y, by simp at m2 ⊢; exact .inr m2, m3⟩

theorem ids_cells (d : DV) : idsOfs (cellsOf d) = idsOf d := by
  cases d <;> simp [cellsOf, idsOfs, idsOf]

theorem rowsD_mono {size : Nat} : ∀ {ps : List (Nat × DV)} {k : Nat} {es : List (List DV)}, (∀ id, id ∈ idsOfs (ps.map (·.2)) → ∀ o, h id = some o → h' id = some o) → rowsD h size k ps = some es → rowsD h' size k ps = some es ∧ ∀ i ∈ rowsOfs (ps.map (·.2)), ∃ o, h i = some o
  | [], k, es, _, hd => ⟨hd, fun i hi => by simp [rowsOfs] at hi⟩
  | (i, v) :: ps, k, es, hl, hd => by
    simp only [rowsD] at hd ⊢
    obtain ⟨hq, hd⟩ := bif_some hd
    obtain ⟨c, h1, hd⟩ := some_bind hd
    obtain ⟨hq2, hd⟩ := bif_some hd
    obtain ⟨r, h2, hd⟩ := some_bind hd
    obtain ⟨k1, k2⟩ := rowsD_mono (fun id hid => hl id (by simp [idsOfs, hid])) h2
    refine ⟨?_, fun j hj => ?_⟩
    · rw [hq]
      simp only [cond_true]
      rw [frzs_mono _ _ (fun id hid => hl id (by rw [ids_cells] at hid; simp [idsOfs, hid])) h1]
      simp only [Option.bind_some, hq2, cond_true]
      rw [k1]; exact hd
    · simp only [List.map_cons, rowsOfs, List.mem_append] at hj
      rcases hj with hj | hj
      · exact frzs_known _ _ h1 j (by rw [rowsOf_cells]; exact hj)
      · exact k2 j hj

end
end Go.Ab
