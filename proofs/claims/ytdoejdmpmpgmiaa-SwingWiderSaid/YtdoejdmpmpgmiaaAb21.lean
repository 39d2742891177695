/- A region whose order is drawn. -/
import Derived.Test.YtdoejdmpmpgmiaaAb26
import Derived.OrdersIn
set_option linter.unusedSectionVars false
set_option linter.unusedVariables false
set_option linter.unusedSimpArgs false
namespace Go.Ab
open Go.RowKit

section
variable {E : Env} {call : Nat → List DV → Option DV} {callH callY : CallH} {V nt : Nat} {ops : Array Oper} {b : Nat}

/-- One operation of a segment, as the evaluator has taken it. -/
structure EntryOk (E : Env) (call : Nat → List DV → Option DV) (V nt : Nat) (ops : Array Oper) (b : Nat) (m : Mid) (c k : Nat) (o : Oper) (d : Done) (ds : List (Nat × Done)) : Prop where
  op : ops[k]? = some o
  dst : d.dst = o.dst
  anc : d.anc = ancOf ops ds o k
  edges : ∀ e ∈ o.after, Region.binds .any e = true → e.on < k
  fits : ∀ t, o.dst = some t → t < nt
  bar : c = 0 ∨ Nat.testBit d.anc (c - 1) = true
  apart : ∀ e ∈ ds, Nat.testBit d.anc e.1 = true ∨ ∀ t, o.dst = some t → t ∉ (ops.getD e.1 o).looksAt ops ∧ e.2.dst ≠ some t
  run : (wantedD ops (seen d.anc (slotOf V m.base m.loc) ds) o = some true ∧ evAny E call (b + k) (seen d.anc (slotOf V m.base m.loc) ds) (seenH d.anc m.objs.get ds) o.op = some d.out ∧ d.touch = touch (seen d.anc (slotOf V m.base m.loc) ds) o.op ∧
      ∀ u ∈ d.out.upd, ∀ e ∈ ds, Nat.testBit d.anc e.1 = true ∨ (u.1 ∉ e.2.touch ∧ updFind u.1 e.2.out.upd = none)) ∨
    (wantedD ops (seen d.anc (slotOf V m.base m.loc) ds) o = some false ∧ d.touch = [] ∧ d.out = ⟨some (.tup []), []⟩)

def SegOk (E : Env) (call : Nat → List DV → Option DV) (V nt : Nat) (ops : Array Oper) (b : Nat) (m : Mid) (c : Nat) : Nat → List (Nat × Done) → Prop
  | k, [] => k = c
  | k, (j, d) :: ds => k = j + 1 ∧ (∃ o, EntryOk E call V nt ops b m c j o d ds) ∧ SegOk E call V nt ops b m c j ds

/-- The call that ends a segment. -/
structure BarOk (E : Env) (call : Nat → List DV → Option DV) (callH callY : CallH) (V nt : Nat) (ops : Array Oper) (b : Nat) (m : Mid) (c k : Nat) (o : Oper) (ds : List (Nat × Done)) (m1 mf : Mid) : Prop where
  op : ops[k]? = some o
  edges : ∀ e ∈ o.after, Region.binds .any e = true → e.on < k
  all : ∀ e ∈ ds, Nat.testBit (ancOf ops ds o k) e.1 = true
  wanted : wantedD ops (seen (ancOf ops ds o k) (slotOf V m.base m.loc) ds) o = some true
  run : ∃ cl tgt, isCall o.op = some cl ∧ target (slotOf V (putAll V nt ds m).base (putAll V nt ds m).loc) cl = some tgt ∧ evImpure callH callY V nt (putAll V nt ds m) o.dst tgt = some m1
  next : evDraw E call callH callY V nt ops b (k + 1) (ops.toList.drop (k + 1)) m1 (k + 1) [] = some mf

theorem drop_cons {k : Nat} {o : Oper} {os : List Oper} (h : o :: os = ops.toList.drop k) : ops[k]? = some o ∧ os = ops.toList.drop (k + 1) := by
  have hlt : k < ops.toList.length := by
    rcases Nat.lt_or_ge k ops.toList.length with h1 | h1
    · exact h1
    · rw [List.drop_eq_nil_of_le h1] at h; cases h
  rw [List.drop_eq_getElem_cons hlt] at h
  simp only [List.cons.injEq] at h
  refine ⟨?_, h.2⟩
  rw [h.1, ← Array.getElem?_toList]
  exact List.getElem?_eq_getElem hlt

/-- A segment. -/
theorem draw_split : ∀ (os : List Oper) (k : Nat) (m mf : Mid) (c : Nat) (ds : List (Nat × Done)), evDraw E call callH callY V nt ops b k os m c ds = some mf → os = ops.toList.drop k → SegOk E call V nt ops b m c k ds → k ≤ ops.size →
    ∃ k2 ds2, SegOk E call V nt ops b m c k2 ds2 ∧ k ≤ k2 ∧ ((k2 = ops.size ∧ mf = putAll V nt ds2 m) ∨ (∃ o m1, BarOk E call callH callY V nt ops b m c k2 o ds2 m1 mf))
  | [], k, m, mf, c, ds, hd, ho, hs, hk => by
    simp only [evDraw, Option.some.injEq] at hd
    refine ⟨k, ds, hs, Nat.le_refl _, .inl ⟨?_, hd.symm⟩⟩
    have := List.drop_eq_nil_iff.1 ho.symm
    simp at this; omega
  | o :: os, k, m, mf, c, ds, hd, ho, hs, hk => by
    obtain ⟨hop, hos⟩ := drop_cons ho
    have hlt : k < ops.size := (Array.getElem?_eq_some_iff.1 hop).1
    simp only [evDraw] at hd
    obtain ⟨hq, hd⟩ := bif_some hd
    simp only [Bool.and_eq_true, List.all_eq_true, Bool.or_eq_true] at hq
    obtain ⟨⟨⟨q1, q2⟩, q3⟩, q4⟩ := hq
    have hedges : ∀ e ∈ o.after, Region.binds .any e = true → e.on < k := fun e he hb => by
      have := (Array.all_eq_true_iff_forall_mem.1 q1) e he
      simp only [hb, Bool.not_true, Bool.false_or, Tr.blt_dec, decide_eq_true_eq] at this
      exact this
    have hfits : ∀ t, o.dst = some t → t < nt := fun t ht => by
      rw [ht] at q2
      simpa [Tr.blt_dec] using q2
    have hbar : c = 0 ∨ Nat.testBit (ancOf ops ds o k) (c - 1) = true := by
      rcases q3 with q3 | q3
      · exact .inl (Nat.eq_of_beq_eq_true q3)
      · exact .inr q3
    have hap : ∀ e ∈ ds, Nat.testBit (ancOf ops ds o k) e.1 = true ∨ ∀ t, o.dst = some t → t ∉ (ops.getD e.1 o).looksAt ops ∧ e.2.dst ≠ some t := fun e he => by
      rcases q4 e he with h | h
      · exact .inl h
      · refine .inr fun t ht => ?_
        rw [ht] at h
        simp only [Bool.and_eq_true, Bool.not_eq_true'] at h
        refine ⟨by simpa using h.1, fun hdst => ?_⟩
        have h2 := h.2
        rw [hdst] at h2
        simp at h2
    obtain ⟨want, hw, hd⟩ := some_bind hd
    cases want with
    | false =>
      simp only [cond_false] at hd
      obtain ⟨k2, ds2, k3, k4, k5⟩ := draw_split os (k + 1) m mf c _ hd hos ⟨rfl, ⟨o, hop, rfl, rfl, hedges, hfits, hbar, hap, .inr ⟨hw, rfl, rfl⟩⟩, hs⟩ hlt
      exact ⟨k2, ds2, k3, by omega, k5⟩
    | true =>
      simp only [cond_true] at hd
      obtain ⟨so, hso, hd⟩ := some_bind hd
      cases so with
      | some r =>
        have hr := stepD_any hso
        obtain ⟨hup, hd⟩ := bif_some hd
        have hups : ∀ u ∈ r.upd, ∀ e ∈ ds, Nat.testBit (ancOf ops ds o k) e.1 = true ∨ (u.1 ∉ e.2.touch ∧ updFind u.1 e.2.out.upd = none) := fun u hu e he => by
          simp only [List.all_eq_true, Bool.or_eq_true, Bool.and_eq_true, Bool.not_eq_true', Option.isNone_iff_eq_none] at hup
          rcases hup u hu e he with h | h
          · exact .inl h
          · exact .inr ⟨by simpa using h.1, h.2⟩
        obtain ⟨k2, ds2, k3, k4, k5⟩ := draw_split os (k + 1) m mf c _ hd hos ⟨rfl, ⟨o, hop, rfl, rfl, hedges, hfits, hbar, hap, .inl ⟨hw, hr, rfl, hups⟩⟩, hs⟩ hlt
        exact ⟨k2, ds2, k3, by omega, k5⟩
      | none =>
        obtain ⟨hall, hd⟩ := bif_some hd
        obtain ⟨cl, h1, hd⟩ := some_bind hd
        obtain ⟨tgt, h2, hd⟩ := some_bind hd
        obtain ⟨m1, h3, hd⟩ := some_bind hd
        refine ⟨k, ds, hs, Nat.le_refl _, .inr ⟨o, m1, hop, hedges, fun e he => ?_, hw, ⟨cl, tgt, h1, h2, h3⟩, ?_⟩⟩
        · rw [List.all_eq_true] at hall; exact hall e he
        · rw [← hos]; exact hd

theorem anc_bits {ds : List (Nat × Done)} {o : Oper} {k i : Nat} (h : Nat.testBit (ancOf ops ds o k) i = true) : ∃ e ∈ o.after, Region.binds .any e = true ∧ e.on < k ∧ (i = e.on ∨ ∃ d, (e.on, d) ∈ ds ∧ Nat.testBit d.anc i = true) := by
  unfold ancOf at h
  have key : ∀ (es : List Edge) (x : Nat), Nat.testBit (es.foldl (fun m e => bif Region.binds .any e && Nat.blt e.on k then m ||| (1 <<< e.on) ||| ((ds.find? (fun d => Nat.beq d.1 e.on)).map (·.2.anc)).getD 0 else m) x) i = true →
      Nat.testBit x i = true ∨ ∃ e ∈ es, Region.binds .any e = true ∧ e.on < k ∧ (i = e.on ∨ ∃ d, (e.on, d) ∈ ds ∧ Nat.testBit d.anc i = true) := by
    intro es
    induction es with
    | nil => intro x hx; exact .inl hx
    | cons e es ih =>
      intro x hx
      rw [List.foldl_cons] at hx
      rcases ih _ hx with h1 | ⟨e', h1, h2⟩
      · cases hq : (Region.binds .any e && Nat.blt e.on k) with
        | false => rw [hq] at h1; exact .inl h1
        | true =>
          rw [hq] at h1
          simp only [Bool.and_eq_true, Tr.blt_dec, decide_eq_true_eq] at hq
          simp only [cond_true, Nat.testBit_or, Bool.or_eq_true] at h1
          rcases h1 with (h1 | h1) | h1
          · exact .inl h1
          · refine .inr ⟨e, by simp, hq.1, hq.2, .inl ?_⟩
            rw [Nat.one_shiftLeft, Nat.testBit_two_pow] at h1
            simpa using (of_decide_eq_true h1).symm
          · refine .inr ⟨e, by simp, hq.1, hq.2, .inr ?_⟩
            cases hf : ds.find? (fun d => Nat.beq d.1 e.on) with
            | none => rw [hf] at h1; simp at h1
            | some p =>
              rw [hf] at h1
              obtain ⟨j, d⟩ := p
              have hj := List.find?_some hf
              have hj : j = e.on := Nat.eq_of_beq_eq_true hj
              subst hj
              exact ⟨d, List.mem_of_find?_eq_some hf, h1⟩
      · exact .inr ⟨e', by simp [h1], h2⟩
  rcases key _ _ h with h1 | ⟨e, h1, h2⟩
  · simp at h1
  · exact ⟨e, by simpa using h1, h2⟩

/-! What has been done, where L tells which -/
def seenL (L : Nat → Bool) (ρ : Nat → Option DV) : List (Nat × Done) → Nat → Option DV
  | [], t => ρ t
  | (j, d) :: ds, t => if L j = true ∧ d.dst = some t then d.out.val else seenL L ρ ds t

def hL (L : Nat → Bool) (h : Nat → Option AObj) : List (Nat × Done) → Nat → Option AObj
  | [], id => h id
  | (j, d) :: ds, id => if L j = true then (match updFind id d.out.upd with | some x => x | none => hL L h ds id) else hL L h ds id

theorem updFind_mem {id : Nat} : ∀ {us : List (Nat × Option AObj)} {x : Option AObj}, updFind id us = some x → ∃ u ∈ us, u.1 = id
  | [], _, h => by cases h
  | (i, y) :: us, x, h => by
    simp only [updFind] at h
    cases hq : updFind id us with
    | some z =>
      obtain ⟨u, h1, h2⟩ := updFind_mem hq
      exact ⟨u, by simp [h1], h2⟩
    | none =>
      rw [hq] at h
      simp only [Tr.beq_dec] at h
      by_cases e : i = id
      · exact ⟨(i, y), by simp, e⟩
      · simp [e] at h

variable {m : Mid} {c : Nat}

theorem seg_lt : ∀ {ds : List (Nat × Done)} {k : Nat}, SegOk E call V nt ops b m c k ds → c ≤ k ∧ ∀ j d, (j, d) ∈ ds → c ≤ j ∧ j < k
  | [], k, h => ⟨by rw [h]; exact Nat.le_refl _, fun _ _ h => by cases h⟩
  | (j, d) :: ds, k, h => by
    obtain ⟨rfl, _, h2⟩ := h
    obtain ⟨k1, k2⟩ := seg_lt h2
    refine ⟨by omega, fun i e hi => ?_⟩
    rcases List.mem_cons.1 hi with hi | hi
    · cases hi; exact ⟨k1, by omega⟩
    · obtain ⟨k3, k4⟩ := k2 i e hi
      exact ⟨k3, by omega⟩

/-- All that an operation of the segment hangs on is done. -/
def Down (L : Nat → Bool) (ds : List (Nat × Done)) : Prop := ∀ j d, (j, d) ∈ ds → L j = true → ∀ i, Nat.testBit d.anc i = true → L i = true

/-- The place of one operation. -/
theorem seg_at : ∀ {ds : List (Nat × Done)} {k : Nat}, SegOk E call V nt ops b m c k ds → ∀ j, c ≤ j → j < k → ∃ d tl o, (j, d) ∈ ds ∧ EntryOk E call V nt ops b m c j o d tl ∧ (∀ e ∈ tl, e ∈ ds) ∧ SegOk E call V nt ops b m c j tl
  | [], k, h, j, h1, h2 => by rw [h] at h2; omega
  | (i, d) :: ds, k, h, j, h1, h2 => by
    obtain ⟨rfl, ⟨o, ho⟩, h4⟩ := h
    by_cases e : j = i
    · subst e; exact ⟨d, ds, o, by simp, ho, fun e he => by simp [he], h4⟩
    · obtain ⟨d', tl, o', k1, k2, k3, k4⟩ := seg_at h4 j h1 (by omega)
      exact ⟨d', tl, o', by simp [k1], k2, fun e he => by simp [k3 e he], k4⟩

theorem seen_tail {L : Nat → Bool} {anc : Nat} (hanc : ∀ i, Nat.testBit anc i = true → L i = true) {ρ : Nat → Option DV} {t : Nat} {v : DV} : ∀ {ds : List (Nat × Done)}, seen anc ρ ds t = some v → seenL L ρ ds t = some v
  | [], h => h
  | (j, d) :: ds, h => by
    simp only [seen] at h
    simp only [seenL]
    by_cases e : d.dst = some t
    · rw [e] at h
      simp only [Tr.beq_dec, decide_true, cond_true] at h
      cases hq : Nat.testBit anc j with
      | false => rw [hq] at h; cases h
      | true => rw [hq] at h; rw [if_pos ⟨hanc j hq, e⟩]; exact h
    · rw [if_neg (fun q => e q.2)]
      refine seen_tail hanc ?_
      cases hd : d.dst with
      | none => rw [hd] at h; exact h
      | some s =>
        have hne : s ≠ t := fun q => e (by rw [hd, q])
        rw [hd] at h
        simpa [Tr.beq_dec, hne] using h

theorem seenH_tail {L : Nat → Bool} {anc : Nat} (hanc : ∀ i, Nat.testBit anc i = true → L i = true) {h : Nat → Option AObj} {id : Nat} {ob : AObj} : ∀ {ds : List (Nat × Done)}, seenH anc h ds id = some ob → hL L h ds id = some ob
  | [], h => h
  | (j, d) :: ds, h => by
    simp only [seenH] at h
    simp only [hL]
    cases hq : updFind id d.out.upd with
    | some x =>
      rw [hq] at h
      simp only at h ⊢
      cases hb : Nat.testBit anc j with
      | false => rw [hb] at h; cases h
      | true => rw [hb] at h; rw [if_pos (hanc j hb)]; exact h
    | none =>
      rw [hq] at h
      simp only at h ⊢
      have := seenH_tail hanc h
      by_cases e : L j = true
      · rw [if_pos e]; exact this
      · rw [if_neg e]; exact this

theorem seenL_congr {L L' : Nat → Bool} {ρ : Nat → Option DV} {t : Nat} : ∀ {ds : List (Nat × Done)}, (∀ i e, (i, e) ∈ ds → L' i = L i) → seenL L' ρ ds t = seenL L ρ ds t
  | [], _ => rfl
  | (j, d) :: ds, h => by
    simp only [seenL]
    rw [h j d (by simp), seenL_congr fun i e hi => h i e (by simp [hi])]

theorem hL_congr {L L' : Nat → Bool} {h : Nat → Option AObj} {id : Nat} : ∀ {ds : List (Nat × Done)}, (∀ i e, (i, e) ∈ ds → L' i = L i) → hL L' h ds id = hL L h ds id
  | [], _ => rfl
  | (j, d) :: ds, h => by
    simp only [hL]
    rw [h j d (by simp), hL_congr fun i e hi => h i e (by simp [hi])]

/-- What operation k sees is what has been done; what it does is what is then done. -/
theorem seg_view {L : Nat → Bool} {k : Nat} (hk : L k = false) {L' : Nat → Bool} (hL' : ∀ j, L' j = if j = k then true else L j) (hc : ∀ j, j < c → L j = true) : ∀ {ds : List (Nat × Done)} {n : Nat}, SegOk E call V nt ops b m c n ds → Down L ds → c ≤ k → k < n → ∃ d tl o, (k, d) ∈ ds ∧ EntryOk E call V nt ops b m c k o d tl ∧
    ((∀ i, Nat.testBit d.anc i = true → L i = true) →
      (∀ t v, t ∈ o.looksAt ops → seen d.anc (slotOf V m.base m.loc) tl t = some v → seenL L (slotOf V m.base m.loc) ds t = some v) ∧
      (∀ id ob, id ∈ d.touch → seenH d.anc m.objs.get tl id = some ob → hL L m.objs.get ds id = some ob)) ∧
    (∀ t, seenL L' (slotOf V m.base m.loc) ds t = if d.dst = some t then d.out.val else seenL L (slotOf V m.base m.loc) ds t) ∧
    (∀ id, hL L' m.objs.get ds id = match updFind id d.out.upd with | some x => x | none => hL L m.objs.get ds id)
  | [], n, h, _, h1, h2 => by rw [h] at h2; omega
  | (j, dj) :: ds, n, h, hd, h1, h2 => by
    obtain ⟨rfl, ⟨o, ho⟩, h4⟩ := h
    have hd' : Down L ds := fun i e hi => hd i e (by simp [hi])
    by_cases e : k = j
    · subst e
      have hlt := (seg_lt h4).2
      have hself : L' k = true := by rw [hL']; simp
      have hsame : ∀ i e, (i, e) ∈ ds → L' i = L i := fun i e hi => by
        have := (hlt i e hi).2
        rw [hL', if_neg (by omega)]
      refine ⟨dj, ds, o, by simp, ho, fun hanc => ⟨fun t v _ hs => ?_, fun id ob _ hs => ?_⟩, fun t => ?_, fun id => ?_⟩
      · simp only [seenL, hk, Bool.false_eq_true, false_and, if_false]
        exact seen_tail hanc hs
      · simp only [hL, hk, Bool.false_eq_true, if_false]
        exact seenH_tail hanc hs
      · simp only [seenL, hself, hk, Bool.false_eq_true, false_and, if_false, true_and]
        rw [seenL_congr hsame]
      · simp only [hL, hself, hk, Bool.false_eq_true, if_false, if_true]
        rw [hL_congr hsame]
    · obtain ⟨d, tl, o', k1, k2, k3, k4, k5⟩ := seg_view hk hL' hc h4 hd' h1 (by omega)
      have hne : L' j = L j := by rw [hL', if_neg (fun q => e q.symm)]
      have hnb : L j = true → Nat.testBit dj.anc k = false := fun hj => by
        cases hq : Nat.testBit dj.anc k with
        | false => rfl
        | true => have := hd j dj (by simp) hj k hq; rw [hk] at this; cases this
      have hgo : (ops.getD k o).looksAt ops = o'.looksAt ops := by
        have : ops.getD k o = o' := by
          have := k2.op
          simp [this]
        rw [this]
      have hup : L j = true → ∀ id x, updFind id dj.out.upd = some x → id ∉ d.touch ∧ updFind id d.out.upd = none := fun hj id x hq => by
        obtain ⟨u, hu, rfl⟩ := updFind_mem hq
        rcases ho.run with ⟨_, _, _, h5⟩ | ⟨_, _, h5⟩
        · rcases h5 u hu (k, d) k1 with q | q
          · rw [hnb hj] at q; cases q
          · exact q
        · rw [h5] at hu; cases hu
      refine ⟨d, tl, o', by simp [k1], k2, fun hanc => ⟨fun t v ht hs => ?_, fun id ob hid hs => ?_⟩, fun t => ?_, fun id => ?_⟩
      · simp only [seenL]
        rw [if_neg, (k3 hanc).1 t v ht hs]
        rintro ⟨e1, e2⟩
        rcases ho.apart (k, d) k1 with q | q
        · rw [hnb e1] at q; cases q
        · have := (q t (by rw [← ho.dst]; exact e2)).1
          rw [hgo] at this
          exact this ht
      · simp only [hL]
        rw [(k3 hanc).2 id ob hid hs]
        by_cases e1 : L j = true
        · rw [if_pos e1]
          cases hq : updFind id dj.out.upd with
          | none => rfl
          | some x => exact absurd hid (hup e1 id x hq).1
        · rw [if_neg e1]
      · simp only [seenL, hne]
        rw [k4]
        by_cases e1 : L j = true ∧ dj.dst = some t
        · rw [if_pos e1, if_pos e1, if_neg]
          intro e2
          rcases ho.apart (k, d) k1 with q | q
          · rw [hnb e1.1] at q; cases q
          · exact (q t (by rw [← ho.dst]; exact e1.2)).2 e2
        · rw [if_neg e1, if_neg e1]
      · simp only [hL, hne]
        rw [k5]
        by_cases e1 : L j = true
        · rw [if_pos e1, if_pos e1]
          cases hq : updFind id dj.out.upd with
          | none => rfl
          | some x => rw [(hup e1 id x hq).2]
        · rw [if_neg e1, if_neg e1]

end
end Go.Ab
