/- A region whose order is drawn. -/
import Derived.Test.YtehofdemanfenaaAb26
import Derived.OrdersIn
namespace Go.Ab
open Go.RowKit

section
variable {E : Env} {call : Nat → List DV → Option DV} {callH callY : CallH} {V nt : Nat} {ops : Array Oper} {b : Nat}

/-- One operation, as the evaluator has taken it. nx: the next free number ahead of it; nx2: behind it. -/
structure EntryOk (E : Env) (call : Nat → List DV → Option DV) (callH callY : CallH) (V nt : Nat) (ops : Array Oper) (b : Nat) (m : Mid) (k nx nx2 : Nat) (o : Oper) (d : Done) (ds : List (Nat × Done)) : Prop where
  op : ops[k]? = some o
  dst : d.dst = o.dst
  anc : d.anc = ancOf ops ds o k
  edges : ∀ e ∈ o.after, Region.binds .any e = true → e.on < k
  fits : ∀ t, o.dst = some t → t < nt
  apart : ∀ e ∈ ds, Nat.testBit d.anc e.1 = true ∨ ∀ t, o.dst = some t → t ∉ (ops.getD e.1 o).looksAt ops ∧ e.2.dst ≠ some t
  ups : ∀ e ∈ ds, Nat.testBit d.anc e.1 = true ∨ ((d.new ≠ none → e.2.new = none) ∧ ∀ u ∈ d.out.upd, u.1 ∉ e.2.touch ∧ updFind u.1 e.2.out.upd = none)
  run : (wantedD ops (seen d.anc (slotOf V m.base m.loc) ds) o = some true ∧ evAny E call (b + k) (seen d.anc (slotOf V m.base m.loc) ds) (seenH d.anc m.objs.get ds) o.op = some d.out ∧ d.touch = touch (seen d.anc (slotOf V m.base m.loc) ds) o.op ∧ d.new = none ∧ nx2 = nx) ∨
    (wantedD ops (seen d.anc (slotOf V m.base m.loc) ds) o = some false ∧ d.touch = [] ∧ d.out = ⟨some (.tup []), []⟩ ∧ d.new = none ∧ nx2 = nx) ∨
    (wantedD ops (seen d.anc (slotOf V m.base m.loc) ds) o = some true ∧ d.new = some (nx, nx2) ∧ ∃ cl tgt, isCall o.op = some cl ∧ target E (seen d.anc (slotOf V m.base m.loc) ds) cl = some tgt ∧ callCut callH callY (seenH d.anc m.objs.get ds) nx tgt = some (d.out, d.touch, nx2))

def SegOk (E : Env) (call : Nat → List DV → Option DV) (callH callY : CallH) (V nt : Nat) (ops : Array Oper) (b : Nat) (m : Mid) : Nat → Nat → List (Nat × Done) → Prop
  | k, nx, [] => k = 0 ∧ nx = m.next
  | k, nx, (j, d) :: ds => k = j + 1 ∧ ∃ nx0, (∃ o, EntryOk E call callH callY V nt ops b m j nx0 nx o d ds) ∧ SegOk E call callH callY V nt ops b m j nx0 ds

theorem drop_cons {k : Nat} {o : Oper} {os : List Oper} (h : o :: os = ops.toList.drop k) : ops[k]? = some o ∧ os = ops.toList.drop (k + 1) := by
  have hlt : k < ops.toList.length := by
    rcases Nat.lt_or_ge k ops.toList.length with h1 | h1
    · exact h1
    · rw [List.drop_eq_nil_of_le h1] at h; cases h
  rw [List.drop_eq_getElem_cons hlt] at h
  simp only [List.cons.injEq] at h
  refine ⟨?_, h.2⟩
  rw [h.1, ← Array.getElem?_toList]
  exact List.getElem?_eq_getElem hlt

/-- All operations. -/
theorem draw_split {m : Mid} : ∀ (os : List Oper) (k : Nat) (mf : Mid) (nx : Nat) (ds : List (Nat × Done)), evDraw E call callH callY V nt ops b k os { m with next := nx } ds = some mf → os = ops.toList.drop k → SegOk E call callH callY V nt ops b m k nx ds → k ≤ ops.size →
    ∃ nx2 ds2, SegOk E call callH callY V nt ops b m ops.size nx2 ds2 ∧ mf = putAll V nt ds2 { m with next := nx2 }
  | [], k, mf, nx, ds, hd, ho, hs, hk => by
    simp only [evDraw, Option.some.injEq] at hd
    have := List.drop_eq_nil_iff.1 ho.symm
    simp at this
    have : k = ops.size := by omega
    subst this
    exact ⟨nx, ds, hs, hd.symm⟩
  | o :: os, k, mf, nx, ds, hd, ho, hs, hk => by
    obtain ⟨hop, hos⟩ := drop_cons ho
    have hlt : k < ops.size := (Array.getElem?_eq_some_iff.1 hop).1
    simp only [evDraw] at hd
    obtain ⟨hq, hd⟩ := bif_some hd
    simp only [Bool.and_eq_true, List.all_eq_true, Bool.or_eq_true] at hq
    obtain ⟨⟨q1, q2⟩, q4⟩ := hq
    have hedges : ∀ e ∈ o.after, Region.binds .any e = true → e.on < k := fun e he hb => by
      have := (Array.all_eq_true_iff_forall_mem.1 q1) e he
      simp only [hb, Bool.not_true, Bool.false_or, Tr.blt_dec, decide_eq_true_eq] at this
      exact this
    have hfits : ∀ t, o.dst = some t → t < nt := fun t ht => by
      rw [ht] at q2
      simpa [Tr.blt_dec] using q2
    have hap : ∀ e ∈ ds, Nat.testBit (ancOf ops ds o k) e.1 = true ∨ ∀ t, o.dst = some t → t ∉ (ops.getD e.1 o).looksAt ops ∧ e.2.dst ≠ some t := fun e he => by
      rcases q4 e he with h | h
      · exact .inl h
      · refine .inr fun t ht => ?_
        rw [ht] at h
        simp only [Bool.and_eq_true, Bool.not_eq_true'] at h
        refine ⟨by simpa using h.1, fun hdst => ?_⟩
        have h2 := h.2
        rw [hdst] at h2
        simp at h2
    obtain ⟨want, hw, hd⟩ := some_bind hd
    cases want with
    | false =>
      simp only [cond_false] at hd
      exact draw_split os (k + 1) mf nx _ hd hos ⟨rfl, nx, ⟨o, hop, rfl, rfl, hedges, hfits, hap, fun e _ => .inr ⟨fun h => absurd rfl h, fun u hu => by cases hu⟩, .inr (.inl ⟨hw, rfl, rfl, rfl, rfl⟩)⟩, hs⟩ hlt
    | true =>
      simp only [cond_true] at hd
      obtain ⟨so, hso, hd⟩ := some_bind hd
      cases so with
      | some r =>
        have hr := stepD_any hso
        obtain ⟨hup, hd⟩ := bif_some hd
        have hups : ∀ e ∈ ds, Nat.testBit (ancOf ops ds o k) e.1 = true ∨ (((none : Option (Nat × Nat)) ≠ none → e.2.new = none) ∧ ∀ u ∈ r.upd, u.1 ∉ e.2.touch ∧ updFind u.1 e.2.out.upd = none) := fun e he => by
          simp only [List.all_eq_true, Bool.or_eq_true, Bool.and_eq_true, Bool.not_eq_true', Option.isNone_iff_eq_none] at hup
          by_cases hq : Nat.testBit (ancOf ops ds o k) e.1 = true
          · exact .inl hq
          · refine .inr ⟨fun h => absurd rfl h, fun u hu => ?_⟩
            rcases hup u hu e he with h | h
            · exact absurd h hq
            · exact ⟨by simpa using h.1, h.2⟩
        exact draw_split os (k + 1) mf nx _ hd hos ⟨rfl, nx, ⟨o, hop, rfl, rfl, hedges, hfits, hap, hups, .inl ⟨hw, hr, rfl, rfl, rfl⟩⟩, hs⟩ hlt
      | none =>
        obtain ⟨cl, h1, hd⟩ := some_bind hd
        obtain ⟨tgt, h2, hd⟩ := some_bind hd
        obtain ⟨⟨out, T, nx2⟩, h3, hd⟩ := some_bind hd
        obtain ⟨hall, hd⟩ := bif_some hd
        simp only [List.all_eq_true, Bool.or_eq_true, Bool.and_eq_true, Bool.not_eq_true', Option.isNone_iff_eq_none] at hall
        have hups : ∀ e ∈ ds, Nat.testBit (ancOf ops ds o k) e.1 = true ∨ ((some (nx, nx2) ≠ none → e.2.new = none) ∧ ∀ u ∈ out.upd, u.1 ∉ e.2.touch ∧ updFind u.1 e.2.out.upd = none) := fun e he => by
          rcases hall e he with h | ⟨h, h'⟩
          · exact .inl h
          · exact .inr ⟨fun _ => h, fun u hu => ⟨by simpa using (h' u hu).1, (h' u hu).2⟩⟩
        exact draw_split os (k + 1) mf nx2 _ hd hos ⟨rfl, nx, ⟨o, hop, rfl, rfl, hedges, hfits, hap, hups, .inr (.inr ⟨hw, rfl, cl, tgt, h1, h2, h3⟩)⟩, hs⟩ hlt

theorem anc_bits {ds : List (Nat × Done)} {o : Oper} {k i : Nat} (h : Nat.testBit (ancOf ops ds o k) i = true) : ∃ e ∈ o.after, Region.binds .any e = true ∧ e.on < k ∧ (i = e.on ∨ ∃ d, (e.on, d) ∈ ds ∧ Nat.testBit d.anc i = true) := by
  unfold ancOf at h
  have key : ∀ (es : List Edge) (x : Nat), Nat.testBit (es.foldl (fun m e => bif Region.binds .any e && Nat.blt e.on k then m ||| (1 <<< e.on) ||| ((ds.find? (fun d => Nat.beq d.1 e.on)).map (·.2.anc)).getD 0 else m) x) i = true →
      Nat.testBit x i = true ∨ ∃ e ∈ es, Region.binds .any e = true ∧ e.on < k ∧ (i = e.on ∨ ∃ d, (e.on, d) ∈ ds ∧ Nat.testBit d.anc i = true) := by
    intro es
    induction es with
    | nil => intro x hx; exact .inl hx
    | cons e es ih =>
      intro x hx
      rw [List.foldl_cons] at hx
      rcases ih _ hx with h1 | ⟨e', h1, h2⟩
      · cases hq : (Region.binds .any e && Nat.blt e.on k) with
        | false => rw [hq] at h1; exact .inl h1
        | true =>
          rw [hq] at h1
          simp only [Bool.and_eq_true, Tr.blt_dec, decide_eq_true_eq] at hq
          simp only [cond_true, Nat.testBit_or, Bool.or_eq_true] at h1
          rcases h1 with (h1 | h1) | h1
          · exact .inl h1
          · refine .inr ⟨e, by simp, hq.1, hq.2, .inl ?_⟩
            rw [Nat.one_shiftLeft, Nat.testBit_two_pow] at h1
            simpa using (of_decide_eq_true h1).symm
          · refine .inr ⟨e, by simp, hq.1, hq.2, .inr ?_⟩
            cases hf : ds.find? (fun d => Nat.beq d.1 e.on) with
            | none => rw [hf] at h1; simp at h1
            | some p =>
              rw [hf] at h1
              obtain ⟨j, d⟩ := p
              have hj := List.find?_some hf
              have hj : j = e.on := Nat.eq_of_beq_eq_true hj
              subst hj
              exact ⟨d, List.mem_of_find?_eq_some hf, h1⟩
      · exact .inr ⟨e', by simp [h1], h2⟩
  rcases key _ _ h with h1 | ⟨e, h1, h2⟩
  · simp at h1
  · exact ⟨e, by simpa using h1, h2⟩

/-! What has been done, where L tells which -/
def seenL (L : Nat → Bool) (ρ : Nat → Option DV) : List (Nat × Done) → Nat → Option DV
  | [], t => ρ t
  | (j, d) :: ds, t => if L j = true ∧ d.dst = some t then d.out.val else seenL L ρ ds t

def hL (L : Nat → Bool) (h : Nat → Option AObj) : List (Nat × Done) → Nat → Option AObj
  | [], id => h id
  | (j, d) :: ds, id => if L j = true then (match updFind id d.out.upd with | some x => x | none => hL L h ds id) else hL L h ds id

theorem updFind_mem {id : Nat} : ∀ {us : List (Nat × Option AObj)} {x : Option AObj}, updFind id us = some x → ∃ u ∈ us, u.1 = id
  | [], _, h => by cases h
  | (i, y) :: us, x, h => by
    simp only [updFind] at h
    cases hq : updFind id us with
    | some z =>
      obtain ⟨u, h1, h2⟩ := updFind_mem hq
      exact ⟨u, by simp [h1], h2⟩
    | none =>
      rw [hq] at h
      simp only [Tr.beq_dec] at h
      by_cases e : i = id
      · exact ⟨(i, y), by simp, e⟩
      · simp [e] at h

variable {m : Mid}

theorem seg_lt : ∀ {ds : List (Nat × Done)} {k nx : Nat}, SegOk E call callH callY V nt ops b m k nx ds → ∀ j d, (j, d) ∈ ds → j < k
  | [], k, _, h => fun _ _ h => by cases h
  | (j, d) :: ds, k, _, h => by
    obtain ⟨rfl, _, _, h2⟩ := h
    have k2 := seg_lt h2
    intro i e hi
    rcases List.mem_cons.1 hi with hi | hi
    · cases hi; omega
    · have := k2 i e hi
      omega

/-- All that an operation of the segment hangs on is done. -/
def Down (L : Nat → Bool) (ds : List (Nat × Done)) : Prop := ∀ j d, (j, d) ∈ ds → L j = true → ∀ i, Nat.testBit d.anc i = true → L i = true

/-- The place of one operation. -/
theorem seg_at : ∀ {ds : List (Nat × Done)} {k nx : Nat}, SegOk E call callH callY V nt ops b m k nx ds → ∀ j, j < k → ∃ d tl o nx1 nx2, (j, d) ∈ ds ∧ EntryOk E call callH callY V nt ops b m j nx1 nx2 o d tl ∧ (∀ e ∈ tl, e ∈ ds) ∧ SegOk E call callH callY V nt ops b m j nx1 tl
  | [], k, _, h, j, h2 => by rw [h.1] at h2; omega
  | (i, d) :: ds, k, nx, h, j, h2 => by
    obtain ⟨rfl, nx0, ⟨o, ho⟩, h4⟩ := h
    by_cases e : j = i
    · subst e; exact ⟨d, ds, o, nx0, nx, by simp, ho, fun e he => by simp [he], h4⟩
    · obtain ⟨d', tl, o', n1, n2, k1, k2, k3, k4⟩ := seg_at h4 j (by omega)
      exact ⟨d', tl, o', n1, n2, by simp [k1], k2, fun e he => by simp [k3 e he], k4⟩

theorem seen_tail {L : Nat → Bool} {anc : Nat} (hanc : ∀ i, Nat.testBit anc i = true → L i = true) {ρ : Nat → Option DV} {t : Nat} {v : DV} : ∀ {ds : List (Nat × Done)}, seen anc ρ ds t = some v → seenL L ρ ds t = some v
  | [], h => h
  | (j, d) :: ds, h => by
    simp only [seen] at h
    simp only [seenL]
    by_cases e : d.dst = some t
    · rw [e] at h
      simp only [Tr.beq_dec, decide_true, cond_true] at h
      cases hq : Nat.testBit anc j with
      | false => rw [hq] at h; cases h
      | true => rw [hq] at h; rw [if_pos ⟨hanc j hq, e⟩]; exact h
    · rw [if_neg (fun q => e q.2)]
      refine seen_tail hanc ?_
      cases hd : d.dst with
      | none => rw [hd] at h; exact h
      | some s =>
        have hne : s ≠ t := fun q => e (by rw [hd, q])
        rw [hd] at h
        simpa [Tr.beq_dec, hne] using h

theorem seenH_tail {L : Nat → Bool} {anc : Nat} (hanc : ∀ i, Nat.testBit anc i = true → L i = true) {h : Nat → Option AObj} {id : Nat} {ob : AObj} : ∀ {ds : List (Nat × Done)}, seenH anc h ds id = some ob → hL L h ds id = some ob
  | [], h => h
  | (j, d) :: ds, h => by
    simp only [seenH] at h
    simp only [hL]
    cases hq : updFind id d.out.upd with
    | some x =>
      rw [hq] at h
      simp only at h ⊢
      cases hb : Nat.testBit anc j with
      | false => rw [hb] at h; cases h
      | true => rw [hb] at h; rw [if_pos (hanc j hb)]; exact h
    | none =>
      rw [hq] at h
      simp only at h ⊢
      have := seenH_tail hanc h
      by_cases e : L j = true
      · rw [if_pos e]; exact this
      · rw [if_neg e]; exact this

theorem seenL_congr {L L' : Nat → Bool} {ρ : Nat → Option DV} {t : Nat} : ∀ {ds : List (Nat × Done)}, (∀ i e, (i, e) ∈ ds → L' i = L i) → seenL L' ρ ds t = seenL L ρ ds t
  | [], _ => rfl
  | (j, d) :: ds, h => by
    simp only [seenL]
    rw [h j d (by simp), seenL_congr fun i e hi => h i e (by simp [hi])]

theorem hL_congr {L L' : Nat → Bool} {h : Nat → Option AObj} {id : Nat} : ∀ {ds : List (Nat × Done)}, (∀ i e, (i, e) ∈ ds → L' i = L i) → hL L' h ds id = hL L h ds id
  | [], _ => rfl
  | (j, d) :: ds, h => by
    simp only [hL]
    rw [h j d (by simp), hL_congr fun i e hi => h i e (by simp [hi])]

/-- What operation k sees is what has been done; what it does is what is then done. -/
theorem seg_view {L : Nat → Bool} {k : Nat} (hk : L k = false) {L' : Nat → Bool} (hL' : ∀ j, L' j = if j = k then true else L j) : ∀ {ds : List (Nat × Done)} {n nx : Nat}, SegOk E call callH callY V nt ops b m n nx ds → Down L ds → k < n → ∃ d tl o nx1 nx2, (k, d) ∈ ds ∧ EntryOk E call callH callY V nt ops b m k nx1 nx2 o d tl ∧
    ((∀ i, Nat.testBit d.anc i = true → L i = true) →
      (∀ t v, t ∈ o.looksAt ops → seen d.anc (slotOf V m.base m.loc) tl t = some v → seenL L (slotOf V m.base m.loc) ds t = some v) ∧
      (∀ id ob, id ∈ d.touch → seenH d.anc m.objs.get tl id = some ob → hL L m.objs.get ds id = some ob)) ∧
    (∀ t, seenL L' (slotOf V m.base m.loc) ds t = if d.dst = some t then d.out.val else seenL L (slotOf V m.base m.loc) ds t) ∧
    (∀ id, hL L' m.objs.get ds id = match updFind id d.out.upd with | some x => x | none => hL L m.objs.get ds id)
  | [], n, _, h, _, h2 => by rw [h.1] at h2; omega
  | (j, dj) :: ds, n, nx, h, hd, h2 => by
    obtain ⟨rfl, nx0, ⟨o, ho⟩, h4⟩ := h
    have hd' : Down L ds := fun i e hi => hd i e (by simp [hi])
    by_cases e : k = j
    · subst e
      have hlt := seg_lt h4
      have hself : L' k = true := by rw [hL']; simp
      have hsame : ∀ i e, (i, e) ∈ ds → L' i = L i := fun i e hi => by
        have := hlt i e hi
        rw [hL', if_neg (by omega)]
      refine ⟨dj, ds, o, nx0, nx, by simp, ho, fun hanc => ⟨fun t v _ hs => ?_, fun id ob _ hs => ?_⟩, fun t => ?_, fun id => ?_⟩
      · simp only [seenL, hk, Bool.false_eq_true, false_and, if_false]
        exact seen_tail hanc hs
      · simp only [hL, hk, Bool.false_eq_true, if_false]
        exact seenH_tail hanc hs
      · simp only [seenL, hself, hk, Bool.false_eq_true, false_and, if_false, true_and]
        rw [seenL_congr hsame]
      · simp only [hL, hself, hk, Bool.false_eq_true, if_false, if_true]
        rw [hL_congr hsame]
    · obtain ⟨d, tl, o', n1, n2, k1, k2, k3, k4, k5⟩ := seg_view hk hL' h4 hd' (by omega)
      have hne : L' j = L j := by rw [hL', if_neg (fun q => e q.symm)]
      have hnb : L j = true → Nat.testBit dj.anc k = false := fun hj => by
        cases hq : Nat.testBit dj.anc k with
        | false => rfl
        | true => have := hd j dj (by simp) hj k hq; rw [hk] at this; cases this
      have hgo : (ops.getD k o).looksAt ops = o'.looksAt ops := by
        have : ops.getD k o = o' := by
          have := k2.op
          simp [this]
        rw [this]
      have hup : L j = true → ∀ id x, updFind id dj.out.upd = some x → id ∉ d.touch ∧ updFind id d.out.upd = none := fun hj id x hq => by
        obtain ⟨u, hu, rfl⟩ := updFind_mem hq
        rcases ho.ups (k, d) k1 with q | q
        · rw [hnb hj] at q; cases q
        · exact q.2 u hu
      refine ⟨d, tl, o', n1, n2, by simp [k1], k2, fun hanc => ⟨fun t v ht hs => ?_, fun id ob hid hs => ?_⟩, fun t => ?_, fun id => ?_⟩
      · simp only [seenL]
        rw [if_neg, (k3 hanc).1 t v ht hs]
        rintro ⟨e1, e2⟩
        rcases ho.apart (k, d) k1 with q | q
        · rw [hnb e1] at q; cases q
        · have := (q t (by rw [← ho.dst]; exact e2)).1
          rw [hgo] at this
          exact this ht
      · simp only [hL]
        rw [(k3 hanc).2 id ob hid hs]
        by_cases e1 : L j = true
        · rw [if_pos e1]
          cases hq : updFind id dj.out.upd with
          | none => rfl
          | some x => exact absurd hid (hup e1 id x hq).1
        · rw [if_neg e1]
      · simp only [seenL, hne]
        rw [k4]
        by_cases e1 : L j = true ∧ dj.dst = some t
        · rw [if_pos e1, if_pos e1, if_neg]
          intro e2
          rcases ho.apart (k, d) k1 with q | q
          · rw [hnb e1.1] at q; cases q
          · exact (q t (by rw [← ho.dst]; exact e1.2)).2 e2
        · rw [if_neg e1, if_neg e1]
      · simp only [hL, hne]
        rw [k5]
        by_cases e1 : L j = true
        · rw [if_pos e1, if_pos e1]
          cases hq : updFind id dj.out.upd with
          | none => rfl
          | some x => rw [(hup e1 id x hq).2]
        · rw [if_neg e1, if_neg e1]

/-! The numbers that calls on the heap take -/
theorem entry_le {k nx nx2 : Nat} {o : Oper} {d : Done} {ds : List (Nat × Done)} (ho : EntryOk E call callH callY V nt ops b m k nx nx2 o d ds) : nx ≤ nx2 := by
  rcases ho.run with ⟨_, _, _, _, h⟩ | ⟨_, _, _, _, h⟩ | ⟨_, _, _, _, _, _, h⟩
  · omega
  · omega
  · exact callCut_le _ _ _ _ _ _ h

theorem entry_new {k nx nx2 : Nat} {o : Oper} {d : Done} {ds : List (Nat × Done)} (ho : EntryOk E call callH callY V nt ops b m k nx nx2 o d ds) {lo hi : Nat} (hn : d.new = some (lo, hi)) : lo = nx ∧ hi = nx2 := by
  rcases ho.run with ⟨_, _, _, h, _⟩ | ⟨_, _, _, h, _⟩ | ⟨_, h, _⟩
  · rw [hn] at h; cases h
  · rw [hn] at h; cases h
  · rw [hn] at h; cases h; exact ⟨rfl, rfl⟩

theorem entry_same {k nx nx2 : Nat} {o : Oper} {d : Done} {ds : List (Nat × Done)} (ho : EntryOk E call callH callY V nt ops b m k nx nx2 o d ds) (hn : d.new = none) : nx2 = nx := by
  rcases ho.run with ⟨_, _, _, _, h⟩ | ⟨_, _, _, _, h⟩ | ⟨_, h, _⟩
  · exact h
  · exact h
  · rw [hn] at h; cases h

theorem seg_le : ∀ {ds : List (Nat × Done)} {k nx : Nat}, SegOk E call callH callY V nt ops b m k nx ds → m.next ≤ nx ∧ ∀ j d lo hi, (j, d) ∈ ds → d.new = some (lo, hi) → m.next ≤ lo ∧ lo ≤ hi ∧ hi ≤ nx
  | [], k, nx, h => ⟨by rw [h.2]; exact Nat.le_refl _, fun _ _ _ _ h => by cases h⟩
  | (i, d) :: ds, k, nx, h => by
    obtain ⟨rfl, nx0, ⟨o, ho⟩, h4⟩ := h
    obtain ⟨h5, h6⟩ := seg_le h4
    have h7 := entry_le ho
    refine ⟨by omega, fun j d' lo hi hj hn => ?_⟩
    rcases List.mem_cons.1 hj with hj | hj
    · cases hj
      obtain ⟨rfl, rfl⟩ := entry_new ho hn
      exact ⟨h5, h7, Nat.le_refl _⟩
    · obtain ⟨a, b, c⟩ := h6 j d' lo hi hj hn
      exact ⟨a, b, by omega⟩

/-- A number behind those ahead of a call is one of a call that comes behind it. -/
theorem seg_cover : ∀ {ds : List (Nat × Done)} {n nx : Nat}, SegOk E call callH callY V nt ops b m n nx ds → ∀ k d lo hi, (k, d) ∈ ds → d.new = some (lo, hi) → ∀ id, lo ≤ id → id < nx →
    ∃ j dj lo' hi', (j, dj) ∈ ds ∧ dj.new = some (lo', hi') ∧ lo' ≤ id ∧ id < hi' ∧ (j = k ∨ Nat.testBit dj.anc k = true)
  | [], _, _, _, _, _, _, _, h, _, _, _, _ => by cases h
  | (i, di) :: ds, n, nx, h, k, d, lo, hi, hk, hn, id, h1, h2 => by
    obtain ⟨rfl, nx0, ⟨o, ho⟩, h4⟩ := h
    rcases List.mem_cons.1 hk with hk | hk
    · cases hk
      obtain ⟨rfl, rfl⟩ := entry_new ho hn
      exact ⟨i, di, _, _, by simp, hn, h1, h2, .inl rfl⟩
    · rcases Nat.lt_or_ge id nx0 with h3 | h3
      · obtain ⟨j, dj, lo', hi', a, b, c, d', e⟩ := seg_cover h4 k d lo hi hk hn id h1 h3
        exact ⟨j, dj, lo', hi', by simp [a], b, c, d', e⟩
      · cases hq : di.new with
        | none => have := entry_same ho hq; omega
        | some p =>
          obtain ⟨lo', hi'⟩ := p
          obtain ⟨rfl, rfl⟩ := entry_new ho hq
          refine ⟨i, di, lo', hi', by simp, hq, h3, h2, .inr ?_⟩
          rcases ho.ups (k, d) hk with q | q
          · exact q
          · have := q.1 (by rw [hq]; simp)
            rw [hn] at this; cases this

/-- Two calls: one is bound to come first, and has the lower numbers. -/
theorem seg_two : ∀ {ds : List (Nat × Done)} {n nx : Nat}, SegOk E call callH callY V nt ops b m n nx ds → ∀ k d lo hi j dj lo' hi', (k, d) ∈ ds → d.new = some (lo, hi) → (j, dj) ∈ ds → dj.new = some (lo', hi') → j ≠ k → Nat.testBit d.anc j = true ∨ hi ≤ lo'
  | [], _, _, _, _, _, _, _, _, _, _, _, h, _, _, _, _ => by cases h
  | (i, di) :: ds, n, nx, h, k, d, lo, hi, j, dj, lo', hi', hk, hn, hj, hnj, hne => by
    obtain ⟨rfl, nx0, ⟨o, ho⟩, h4⟩ := h
    rcases List.mem_cons.1 hk with hk | hk
    · cases hk
      rcases List.mem_cons.1 hj with hj | hj
      · cases hj; exact absurd rfl hne
      · rcases ho.ups (j, dj) hj with q | q
        · exact .inl q
        · have := q.1 (by rw [hn]; simp)
          rw [hnj] at this; cases this
    · rcases List.mem_cons.1 hj with hj | hj
      · cases hj
        obtain ⟨rfl, rfl⟩ := entry_new ho hnj
        exact .inr ((seg_le h4).2 k d lo hi hk hn).2.2
      · exact seg_two h4 k d lo hi j dj lo' hi' hk hn hj hnj hne

end
end Go.Ab
