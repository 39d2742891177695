/- Rows are shown: what they hold is published; a value that names rows is then one that names none. -/
import Derived.Test.YtdoejdmpmpgmiaaAb8
set_option linter.unusedSectionVars false
set_option linter.unusedVariables false
set_option linter.unusedSimpArgs false
namespace Go.Ab
open Go.RowKit

section
variable {P : Program} {E : Env} {w0 : World} {G0 : Gh} {D : List Nat} {w : World} {β : Bi} {G : Gh} {h : Nat → Option AObj}

/-- The cells of a row of a block, published. -/
def pubAt (G : Gh) (g : Nat) (vals : List Value) : Gh := fun b o => if b = g then (if o < vals.length then vals[o]? else G b o) else G b o

def Shown (E : Env) (β : Bi) (G : Gh) (h : Nat → Option AObj) (id : Nat) : Prop :=
  ∀ t es p u, h id = some (.row t es p u) → ∃ hdr, β.hdr id u = some hdr ∧ ∃ a c, (hdr = .slice a es.length c ∧ es.length ≤ c) ∧ (es = [] ∨ ∃ b, a = some ⟨b, 0, none⟩ ∧ PubE β G b (eszOf E t) 0 es)

theorem pub_of_vals {g : Nat} : ∀ {cs : List DV} {vs : List Value} {o : Nat}, RepL β G cs vs → (∀ j v, vs[j]? = some v → G g (o + j) = some v) → Pub β G g o cs
  | [], _, _, _, _ => by unfold Pub; trivial
  | c :: cs, _, o, hr, hv => by
    obtain ⟨v, vs', rfl, h1, h2⟩ := repL_cons.1 hr
    unfold Pub
    refine ⟨⟨v, by simpa using hv 0 v rfl, h1⟩, pub_of_vals h2 (fun j u hj => ?_)⟩
    rw [show o + 1 + j = o + (j + 1) by omega]
    exact hv (j + 1) u (by simpa using hj)

theorem pubE_of_vals {g e : Nat} : ∀ {es : List (List DV)} {vs : List Value} {o : Nat}, RepL β G es.flatten vs → (∀ c ∈ es, c.length = e ∧ idfrees c = true ∧ c.all isCell = true) → (∀ j v, vs[j]? = some v → G g (o + j) = some v) → PubE β G g e o es
  | [], _, _, _, _, _ => by unfold PubE; trivial
  | c :: cs, _, o, hr, hc, hv => by
    rw [List.flatten_cons] at hr
    obtain ⟨as, bs, rfl, h1, h2⟩ := repL_append.1 hr
    obtain ⟨hl, hfr⟩ := hc c (by simp)
    have hla := repL_len h1
    unfold PubE
    refine ⟨hl, hfr, pub_of_vals h1 (fun j v hj => hv j v ?_), pubE_of_vals h2 (fun x hx => hc x (by simp [hx])) (fun j v hj => ?_)⟩
    · have hjl : j < as.length := (List.getElem?_eq_some_iff.1 hj).1
      rw [List.getElem?_append_left hjl]; exact hj
    · have := hv (e + j) v (by rw [List.getElem?_append_right (by omega)]; rw [show e + j - as.length = j by omega]; exact hj)
      rwa [show o + e + j = o + (e + j) by omega]

/-- One row is shown. -/
theorem show_one (hh : HR E w0 G0 D w β G h) {id : Nat} {t : TypeId} {es : List (List DV)} {p u : Nat} (ho : h id = some (.row t es p u)) :
    ∃ G', Ext β G β G' ∧ HR E w0 G0 D w β G' (updF h [(id, some (.row t es 1 u))]) ∧ Shown E β G' (updF h [(id, some (.row t es 1 u))]) id := by
  obtain ⟨hdr, vals, h1, h2, h3, h4, h5, h6, h7⟩ := hh.obj id _ ho
  rcases h2.2 with ⟨rfl, hn⟩ | ⟨g, cap, cur, rfl, hg1, hg2, hg3, hg4, hg5, hg6⟩
  · have hes : es = [] := List.eq_nil_of_length_eq_zero hn
    refine ⟨G, Ext.refl β G, ?_, fun t' es' p' u' hq => ?_⟩
    · refine hh.move (fun _ => False) id _ (Ext.refl β G) hh.below (fun _ _ _ => rfl) (fun _ _ => rfl) (Nat.le_refl _) (fun _ hf => hf.elim) (fun _ _ _ hf => hf.elim) (fun _ hf => hf.elim) ?_ ?_ ?_ (fun _ _ => ⟨rfl, fun _ => rfl⟩)
      · exact ⟨_, vals, h1, h2, h3, h4, ⟨h5.1, pn_le _ _⟩, fun b hb => by simp [Value.ownBlock] at hb, h7⟩
      · rintro b ⟨n, c, hb⟩; rw [h1] at hb; cases hb
      · rintro b ⟨n, c, hb⟩; rw [h1] at hb; cases hb
    · rw [updF_one, if_pos rfl] at hq; cases hq
      exact ⟨_, h1, none, 0, ⟨by rw [hes]; rfl, by rw [hes]; exact Nat.le_refl _⟩, .inl hes⟩
  · have hown : Owns β id (.row t es p u) g := ⟨es.length, cap, h1⟩
    obtain ⟨hb0, hb1, hb2⟩ := hh.own id _ g ho hown
    have hlen : vals.length = es.length * eszOf E t := h2.1
    have hcell := h2.cells (g := g) rfl
    have hx : Ext β G β (pubAt G g vals) := ⟨fun b o v hg => by
      unfold pubAt
      by_cases e : b = g
      · rw [if_pos e]
        by_cases hl : o < vals.length
        · rw [if_pos hl]
          have := hh.agree b o v hg
          subst e
          have hc := hcell o (vals[o]) (by simp [hl])
          rw [addr_add, Nat.zero_add] at hc
          rw [hc] at this
          cases this
          simp [hl]
        · rw [if_neg hl]; exact hg
      · rw [if_neg e]; exact hg, fun _ _ h => h, fun _ _ _ h => h⟩
    refine ⟨pubAt G g vals, hx, ?_, fun t' es' p' u' hq => ?_⟩
    · refine hh.move (fun b => b = g) id _ hx hh.below (fun _ _ _ => rfl) (fun b hb => by funext o; unfold pubAt; rw [if_neg hb]) (Nat.le_refl _) ?_ ?_ ?_ ?_ ?_ ?_ (fun _ _ => ⟨rfl, fun _ => rfl⟩)
      · rintro b rfl; exact ⟨hb0, hb2⟩
      · rintro b id' o2 rfl ho2 hb2; exact hh.inj id' id o2 _ _ ho2 ho hb2 hown
      · rintro b rfl o v hg
        unfold pubAt at hg
        rw [if_pos rfl] at hg
        by_cases hl : o < vals.length
        · rw [if_pos hl] at hg
          have := hcell o v hg
          rwa [addr_add, Nat.zero_add] at this
        · rw [if_neg hl] at hg; exact hh.agree _ _ _ hg
      · refine ⟨_, vals, h1, h2, RepL.mono hx _ _ h3, h4, ⟨h5.1, pn_le _ _⟩, fun b hb o hoo => ?_, h7⟩
        replace hoo : es.length * eszOf E t ≤ o := hoo
        simp only [Value.ownBlock, Option.some.injEq] at hb
        subst hb
        unfold pubAt
        rw [if_pos rfl, if_neg (by omega)]
        refine h6 _ rfl o (Nat.le_trans ?_ hoo)
        exact Nat.mul_le_mul_right _ h5.2
      · intro b hb; exact .inr ⟨_, ho, hb⟩
      · rintro b ⟨n, c, hb⟩; rw [h1] at hb; cases hb; exact hb1
    · rw [updF_one, if_pos rfl] at hq; cases hq
      refine ⟨_, h1, _, cap, ⟨rfl, hg3⟩, .inr ⟨g, rfl, pubE_of_vals (RepL.mono hx _ _ h3) h4 (fun j v hj => ?_)⟩⟩
      have hjl : j < vals.length := (List.getElem?_eq_some_iff.1 hj).1
      unfold pubAt
      rw [if_pos rfl, Nat.zero_add, if_pos hjl]; exact hj

theorem updF_cons (h : Nat → Option AObj) (x : Nat × Option AObj) (us : List (Nat × Option AObj)) (i : Nat) :
    updF h (x :: us) i = match updFind i us with | some y => y | none => if i = x.1 then x.2 else h i := by
  unfold updF
  obtain ⟨id, o⟩ := x
  simp only [updFind]
  cases hq : updFind i us with
  | some y => rfl
  | none =>
    by_cases e : i = id
    · subst e; simp
    · have : Nat.beq id i = false := by
        cases hb : Nat.beq id i with
        | false => rfl
        | true => exact absurd (Nat.eq_of_beq_eq_true hb).symm e
      simp [this, e]

theorem updF_app (h : Nat → Option AObj) : ∀ (us vs : List (Nat × Option AObj)) (i : Nat), updF h (us ++ vs) i = updF (updF h us) vs i
  | [], vs, i => by simp [updF_nil]
  | x :: us, vs, i => by
    have ih := updF_app h us vs i
    unfold updF at ih ⊢
    rw [List.cons_append]
    simp only [updFind]
    cases hv : updFind i vs with
    | some y =>
      have : updFind i (us ++ vs) = some y := by
        clear ih
        induction us with
        | nil => exact hv
        | cons z us ih => simp [updFind, ih]
      rw [this]
    | none =>
      have : updFind i (us ++ vs) = updFind i us := by
        clear ih
        induction us with
        | nil => exact hv
        | cons z us ih => simp [updFind, ih]
      rw [this]

/-- What 'showRows' leaves: rows of the same make, shown. -/
theorem showRows_find (h : Nat → Option AObj) : ∀ (is : List Nat) (i : Nat) (y : Option AObj), updFind i (showRows h is) = some y → ∃ t es p u, h i = some (.row t es p u) ∧ y = some (.row t es 1 u)
  | [], i, y, hy => by simp [showRows, updFind] at hy
  | j :: is, i, y, hy => by
    simp only [showRows] at hy
    split at hy
    · rename_i t es p u hj
      cases hp1 : Nat.beq p 1 with
      | true => rw [hp1] at hy; exact showRows_find h is i y (by simpa using hy)
      | false =>
      rw [hp1] at hy
      simp only [cond_false, List.singleton_append, updFind] at hy
      cases hq : updFind i (showRows h is) with
      | some z =>
        rw [hq] at hy; cases hy
        exact showRows_find h is i y hq
      | none =>
        rw [hq] at hy
        simp only at hy
        cases hb : Nat.beq j i with
        | false => rw [hb] at hy; cases hy
        | true =>
          rw [hb] at hy; cases hy
          have := Nat.eq_of_beq_eq_true hb
          subst this
          exact ⟨t, es, p, u, hj, rfl⟩
    · exact showRows_find h is i y (by simpa using hy)

theorem Shown.mono {β' : Bi} {G' : Gh} {id : Nat} (hx : Ext β G β' G') (hs : Shown E β G h id) : Shown E β' G' h id := fun t es p u hq => by
  obtain ⟨hdr, h1, a, c, h2, h3⟩ := hs t es p u hq
  refine ⟨hdr, hx.hdr _ _ _ h1, a, c, h2, ?_⟩
  rcases h3 with h3 | ⟨b, h3, h4⟩
  · exact .inl h3
  · exact .inr ⟨b, h3, PubE.mono hx _ _ _ _ h4⟩

/-- All rows of a list are shown. -/
theorem show_rows (hh : HR E w0 G0 D w β G h) : ∀ (is : List Nat), ∃ G', Ext β G β G' ∧ HR E w0 G0 D w β G' (updF h (showRows h is)) ∧ ∀ i ∈ is, Shown E β G' (updF h (showRows h is)) i
  | [] => ⟨G, Ext.refl β G, hh, fun i hi => by cases hi⟩
  | j :: is => by
    obtain ⟨G1, hx1, hh1, hs1⟩ := show_rows hh is
    simp only [showRows]
    split
    · rename_i t es p u hj
      have hrow : ∃ p', updF h (showRows h is) j = some (.row t es p' u) := by
        unfold updF
        cases hq : updFind j (showRows h is) with
        | none => exact ⟨p, hj⟩
        | some y =>
          obtain ⟨t', es', p', u', k1, k2⟩ := showRows_find h is j y hq
          rw [hj] at k1; cases k1
          exact ⟨_, k2⟩
      obtain ⟨p', hp'⟩ := hrow
      obtain ⟨G2, hx2, hh2, hs2⟩ := show_one hh1 hp'
      cases hp1 : Nat.beq p 1 with
      | true =>
        have hp1 : p = 1 := Nat.eq_of_beq_eq_true hp1
        subst hp1
        have hp1' : p' = 1 := by
          unfold updF at hp'
          cases hq : updFind j (showRows h is) with
          | none => rw [hq] at hp'; simp only at hp'; rw [hj] at hp'; cases hp'; rfl
          | some y =>
            obtain ⟨t', es', p'', u', k1, k2⟩ := showRows_find h is j y hq
            rw [hq] at hp'; simp only at hp'; rw [k2] at hp'; cases hp'; rfl
        subst hp1'
        simp only [cond_true, List.nil_append]
        have heq : ∀ i, updF h (showRows h is) i = updF (updF h (showRows h is)) [(j, some (.row t es 1 u))] i := fun i => by
          rw [updF_one]
          by_cases e : i = j
          · rw [if_pos e, e]; exact hp'
          · rw [if_neg e]
        refine ⟨G2, hx1.trans hx2, hh2.eq heq, fun i hi => ?_⟩
        intro t' es' p'' u' hq
        by_cases e : i = j
        · subst e
          exact hs2 t' es' p'' u' ((heq i).symm.trans hq)
        · rcases List.mem_cons.1 hi with rfl | hi
          · exact absurd rfl e
          · exact (hs1 i hi).mono hx2 t' es' p'' u' hq
      | false =>
      simp only [cond_false]
      have heq : ∀ i, updF h ([(j, some (.row t es 1 u))] ++ showRows h is) i = updF (updF h (showRows h is)) [(j, some (.row t es 1 u))] i := fun i => by
        rw [updF_one, List.singleton_append, updF_cons]
        unfold updF
        by_cases e : i = j
        · subst e
          rw [if_pos rfl]
          cases hq : updFind i (showRows h is) with
          | none => simp
          | some y =>
            obtain ⟨t', es', p', u', k1, k2⟩ := showRows_find h is i y hq
            rw [hj] at k1; cases k1
            simp [k2]
        · rw [if_neg e]
          cases hq : updFind i (showRows h is) with
          | none => simp [e]
          | some y => simp [e]
      refine ⟨G2, hx1.trans hx2, hh2.eq heq, fun i hi => ?_⟩
      have hsh : Shown E β G2 (updF (updF h (showRows h is)) [(j, some (.row t es 1 u))]) i := by
        rcases List.mem_cons.1 hi with rfl | hi
        · exact hs2
        · intro t' es' p'' u' hq
          rw [updF_one] at hq
          by_cases e : i = j
          · subst e; exact hs2 t' es' p'' u' (by rw [updF_one]; exact hq)
          · rw [if_neg e] at hq; exact (hs1 i hi).mono hx2 t' es' p'' u' hq
      intro t' es' p'' u' hq
      rw [heq i] at hq
      exact hsh t' es' p'' u' hq
    · rename_i hj
      refine ⟨G1, hx1, by simpa using hh1, fun i hi => ?_⟩
      rw [List.nil_append]
      rcases List.mem_cons.1 hi with rfl | hi
      · intro t es p u hq
        exfalso
        unfold updF at hq
        cases hf : updFind i (showRows h is) with
        | none => rw [hf] at hq; exact hj t es p u hq
        | some y =>
          obtain ⟨t', es', p', u', k1, _⟩ := showRows_find h is i y hf
          exact hj t' es' p' u' k1
      · exact hs1 i hi

mutual
theorem frz_rep {h' : Nat → Option AObj} {G' : Gh} (hx : Ext β G β G') (hsame : ∀ i t es p u, h i = some (.row t es p u) → ∃ p', h' i = some (.row t es p' u)) :
    ∀ {d d' : DV} {v : Value}, frz h d = some d' → (∀ i ∈ rowsOf d, Shown E β G' h' i) → Rep β G d v → Rep β G' d' v ∧ idfree d' = true
  | .rs id ver, d', v, hd, hs, hr => by
    simp only [frz] at hd
    obtain ⟨ob, ho, hd⟩ := some_bind hd
    split at hd
    · rename_i t es p u
      obtain ⟨hu, hd⟩ := bif_some hd
      cases hd
      have hu : u = ver := Nat.eq_of_beq_eq_true hu
      subst hu
      obtain ⟨p', hp'⟩ := hsame _ _ _ _ _ ho
      obtain ⟨hdr, h1, a, c, h2, h3⟩ := hs id (by simp [rowsOf]) _ _ _ _ hp'
      obtain ⟨h4, _⟩ := rep_rs.1 hr
      rw [h1] at h4; cases h4
      refine ⟨rep_sl.2 ⟨a, c, h2, ?_⟩, rfl⟩
      rcases h3 with h3 | ⟨b, h3, h4⟩
      · exact .inl h3
      · exact .inr ⟨b, 0, _, h3, h4⟩
    · cases hd
  | .agg cs, d', v, hd, hs, hr => by
    simp only [frz] at hd
    obtain ⟨cs', hc, hd⟩ := some_bind hd
    cases hd
    obtain ⟨vs, rfl, hr2⟩ := rep_agg.1 hr
    obtain ⟨k1, k2⟩ := frzs_rep hx hsame hc (by simpa [rowsOf] using hs) hr2
    exact ⟨rep_agg.2 ⟨vs, rfl, k1⟩, by simpa [idfree] using k2⟩
  | .tup cs, d', v, hd, hs, hr => by
    simp only [frz] at hd
    obtain ⟨cs', hc, hd⟩ := some_bind hd
    cases hd
    obtain ⟨vs, rfl, hr2⟩ := rep_tup.1 hr
    obtain ⟨k1, k2⟩ := frzs_rep hx hsame hc (by simpa [rowsOf] using hs) hr2
    exact ⟨rep_tup.2 ⟨vs, rfl, k1⟩, by simpa [idfree] using k2⟩
  | .iface t x, d', v, hd, hs, hr => by
    simp only [frz] at hd
    obtain ⟨x', hc, hd⟩ := some_bind hd
    cases hd
    unfold Rep at hr
    obtain ⟨u, rfl, hr2⟩ := hr
    obtain ⟨k1, k2⟩ := frz_rep hx hsame hc (by simpa [rowsOf] using hs) hr2
    refine ⟨?_, by simpa [idfree] using k2⟩
    unfold Rep
    exact ⟨u, rfl, k1⟩
  | .bool _, d', v, hd, _, hr => by simp only [frz, idfree, cond_true, Option.some.injEq] at hd; subst hd; exact ⟨Rep.mono hx _ _ hr, rfl⟩
  | .int _ _, d', v, hd, _, hr => by simp only [frz, idfree, cond_true, Option.some.injEq] at hd; subst hd; exact ⟨Rep.mono hx _ _ hr, rfl⟩
  | .str _, d', v, hd, _, hr => by simp only [frz, idfree, cond_true, Option.some.injEq] at hd; subst hd; exact ⟨Rep.mono hx _ _ hr, rfl⟩
  | .nilp, d', v, hd, _, hr => by simp only [frz, idfree, cond_true, Option.some.injEq] at hd; subst hd; exact ⟨Rep.mono hx _ _ hr, rfl⟩
  | .ptr _ _, d', v, hd, _, hr => by simp [frz, idfree] at hd
  | .rptr _ _ _ _ _, d', v, hd, _, hr => by simp [frz, idfree] at hd
  | .pub _, d', v, hd, _, hr => by simp [frz, idfree] at hd
  | .nils, d', v, hd, _, hr => by
    simp only [frz, Option.some.injEq] at hd
    subst hd
    unfold Rep at hr
    exact ⟨rep_sl.2 ⟨none, 0, ⟨hr, Nat.le_refl _⟩, .inl rfl⟩, rfl⟩
  | .sl _, d', v, hd, _, hr => by simp only [frz, idfree, cond_true, Option.some.injEq] at hd; subst hd; exact ⟨Rep.mono hx _ _ hr, rfl⟩
  | .fn f x c, d', v, hd, _, hr => by
    simp only [frz] at hd
    obtain ⟨hi, hd⟩ := bif_some hd
    cases hd
    exact ⟨Rep.mono hx _ _ hr, hi⟩
  | .nilfn, d', v, hd, _, hr => by simp only [frz, idfree, cond_true, Option.some.injEq] at hd; subst hd; exact ⟨Rep.mono hx _ _ hr, rfl⟩
  | .map _, d', v, hd, _, hr => by simp [frz, idfree] at hd
  | .nilmap, d', v, hd, _, hr => by simp only [frz, idfree, cond_true, Option.some.injEq] at hd; subst hd; exact ⟨Rep.mono hx _ _ hr, rfl⟩
  | .nilif, d', v, hd, _, hr => by simp only [frz, idfree, cond_true, Option.some.injEq] at hd; subst hd; exact ⟨Rep.mono hx _ _ hr, rfl⟩
  | .iter _, d', v, hd, _, hr => by simp [frz, idfree] at hd
  | .yld _, d', v, hd, _, hr => by simp [frz, idfree] at hd
theorem frzs_rep {h' : Nat → Option AObj} {G' : Gh} (hx : Ext β G β G') (hsame : ∀ i t es p u, h i = some (.row t es p u) → ∃ p', h' i = some (.row t es p' u)) :
    ∀ {ds ds' : List DV} {vs : List Value}, frzs h ds = some ds' → (∀ i ∈ rowsOfs ds, Shown E β G' h' i) → RepL β G ds vs → RepL β G' ds' vs ∧ idfrees ds' = true
  | [], ds', vs, hd, _, hr => by simp only [frzs, Option.some.injEq] at hd; subst hd; rw [repL_nil] at hr; subst hr; exact ⟨repL_nil.2 rfl, rfl⟩
  | d :: ds, ds', vs, hd, hs, hr => by
    simp only [frzs] at hd
    obtain ⟨d1, h1, hd⟩ := some_bind hd
    obtain ⟨ds1, h2, hd⟩ := some_bind hd
    cases hd
    obtain ⟨v, vs', rfl, hr1, hr2⟩ := repL_cons.1 hr
    obtain ⟨k1, k2⟩ := frz_rep hx hsame h1 (fun i hi => hs i (by simp [rowsOfs, hi])) hr1
    obtain ⟨k3, k4⟩ := frzs_rep hx hsame h2 (fun i hi => hs i (by simp [rowsOfs, hi])) hr2
    exact ⟨repL_cons.2 ⟨v, vs', rfl, k1, k3⟩, by simp [idfrees, k2, k4]⟩
end

theorem show_same (h : Nat → Option AObj) (is : List Nat) : ∀ i t es p u, h i = some (.row t es p u) → ∃ p', updF h (showRows h is) i = some (.row t es p' u) := fun i t es p u hi => by
  unfold updF
  cases hq : updFind i (showRows h is) with
  | none => exact ⟨p, hi⟩
  | some y =>
    obtain ⟨t', es', p', u', k1, k2⟩ := showRows_find h is i y hq
    rw [hi] at k1; cases k1
    exact ⟨_, k2⟩

theorem show_kept {nid : Nat} (is : List Nat) : Kept β β h (updF h (showRows h is)) nid := fun i _ hf => by
  refine ⟨hf.blk, hf.hdr, ?_⟩
  unfold updF
  cases hq : updFind i (showRows h is) with
  | none => exact hf.h
  | some y =>
    obtain ⟨t', es', p', u', k1, k2⟩ := showRows_find h is i y hq
    rw [hf.h] at k1; cases k1

end
end Go.Ab
