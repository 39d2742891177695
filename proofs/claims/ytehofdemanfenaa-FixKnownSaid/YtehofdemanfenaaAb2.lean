/- What an abstract value stands for in a world, and that this stays. No condition: definitions and their plain lemmas. -/
import Derived.Test.YtehofdemanfenaaAb1
import Derived.WalkKit
import Derived.CallsIn
namespace Go.Ab
open Go.RowKit

/-- Published cells: what they hold they hold for good. -/
abbrev Gh := Nat → Nat → Option Value

/-- Where the objects lie. -/
structure Bi where
  blk : Nat → Option Nat
  hdr : Nat → Nat → Option Value

mutual
def Rep (β : Bi) (G : Gh) : DV → Value → Prop
  | .bool b, v => v = .bool b
  | .int k n, v => v = .int k n
  | .str s, v => v = .string s
  | .nilp, v => v = .pointer none
  | .ptr id off, v => ∃ b, β.blk id = some b ∧ v = .pointer (some ⟨b, off, none⟩)
  | .rptr id w i e off, v => ∃ b n c, β.hdr id w = some (.slice (some ⟨b, 0, none⟩) n c) ∧ v = .pointer (some ⟨b, i * e + off, none⟩)
  | .pub cs, v => idfrees cs = true ∧ ∃ b o, v = .pointer (some ⟨b, o, none⟩) ∧ Pub β G b o cs
  | .nils, v => v = .slice none 0 0
  | .sl es, v => ∃ a c, (v = .slice a es.length c ∧ es.length ≤ c) ∧ (es = [] ∨ ∃ b o e, a = some ⟨b, o, none⟩ ∧ PubE β G b e o es)
  | .rs id w, v => β.hdr id w = some v ∧ ∃ a n c, v = .slice a n c
  | .agg cs, v => ∃ vs, v = .agg vs.toArray ∧ RepL β G cs vs
  | .tup cs, v => ∃ vs, v = .tuple vs.toArray ∧ RepL β G cs vs
  | .fn f a c, v => ∃ as cs, v = .func f as.toArray cs.toArray ∧ RepL β G a as ∧ RepL β G c cs
  | .nilfn, v => v = .nilFunc
  | .map id, v => ∃ b, β.blk id = some b ∧ v = .map (some b)
  | .nilmap, v => v = .map none
  | .iface t d, v => ∃ u, v = .iface t u ∧ Rep β G d u
  | .nilif, v => v = .nilIface
  | .iter id, v => ∃ b, β.blk id = some b ∧ v = .pointer (some ⟨b, 0, none⟩)
  | .yld id, v => ∃ b, β.blk id = some b ∧ v = .func (.yield b) #[] #[]
def RepL (β : Bi) (G : Gh) : List DV → List Value → Prop
  | [], vs => vs = []
  | d :: ds, vs => ∃ v vs', vs = v :: vs' ∧ Rep β G d v ∧ RepL β G ds vs'
def Pub (β : Bi) (G : Gh) (b o : Nat) : List DV → Prop
  | [] => True
  | d :: ds => (∃ u, G b o = some u ∧ Rep β G d u) ∧ Pub β G b (o + 1) ds
def PubE (β : Bi) (G : Gh) (b e o : Nat) : List (List DV) → Prop
  | [] => True
  | c :: cs => c.length = e ∧ (idfrees c = true ∧ c.all isCell = true) ∧ Pub β G b o c ∧ PubE β G b e (o + e) cs
end

/-- More is published, more objects are placed; nothing else turns. -/
structure Ext (β : Bi) (G : Gh) (β' : Bi) (G' : Gh) : Prop where
  g : ∀ b o v, G b o = some v → G' b o = some v
  blk : ∀ id b, β.blk id = some b → β'.blk id = some b
  hdr : ∀ id u v, β.hdr id u = some v → β'.hdr id u = some v

theorem Ext.refl (β : Bi) (G : Gh) : Ext β G β G := ⟨fun _ _ _ h => h, fun _ _ h => h, fun _ _ _ h => h⟩
theorem Ext.trans {β β' β'' : Bi} {G G' G'' : Gh} (h : Ext β G β' G') (k : Ext β' G' β'' G'') : Ext β G β'' G'' :=
  ⟨fun b o v x => k.g b o v (h.g b o v x), fun id b x => k.blk id b (h.blk id b x), fun id u v x => k.hdr id u v (h.hdr id u v x)⟩

section mono
variable {β β' : Bi} {G G' : Gh}
mutual
theorem Rep.mono (hx : Ext β G β' G') : ∀ (d : DV) (v : Value), Rep β G d v → Rep β' G' d v
  | .bool _, _, h => by unfold Rep at h ⊢; exact h
  | .int _ _, _, h => by unfold Rep at h ⊢; exact h
  | .str _, _, h => by unfold Rep at h ⊢; exact h
  | .nilp, _, h => by unfold Rep at h ⊢; exact h
  | .ptr _ _, _, h => by unfold Rep at h ⊢; obtain ⟨b, h1, h2⟩ := h; exact ⟨b, hx.blk _ _ h1, h2⟩
  | .rptr _ _ _ _ _, _, h => by unfold Rep at h ⊢; obtain ⟨b, n, c, h1, h2⟩ := h; exact ⟨b, n, c, hx.hdr _ _ _ h1, h2⟩
  | .pub cs, _, h => by unfold Rep at h ⊢; obtain ⟨h0, b, o, h1, h2⟩ := h; exact ⟨h0, b, o, h1, Pub.mono hx cs b o h2⟩
  | .nils, _, h => by unfold Rep at h ⊢; exact h
  | .sl es, _, h => by
    unfold Rep at h ⊢
    obtain ⟨a, c, h1, h2⟩ := h
    refine ⟨a, c, h1, ?_⟩
    rcases h2 with h2 | ⟨b, o, e, h2, h3⟩
    · exact .inl h2
    · exact .inr ⟨b, o, e, h2, PubE.mono hx es b e o h3⟩
  | .rs _ _, _, h => by unfold Rep at h ⊢; exact ⟨hx.hdr _ _ _ h.1, h.2⟩
  | .agg cs, _, h => by unfold Rep at h ⊢; obtain ⟨vs, h1, h2⟩ := h; exact ⟨vs, h1, RepL.mono hx cs vs h2⟩
  | .tup cs, _, h => by unfold Rep at h ⊢; obtain ⟨vs, h1, h2⟩ := h; exact ⟨vs, h1, RepL.mono hx cs vs h2⟩
  | .fn _ a c, _, h => by unfold Rep at h ⊢; obtain ⟨as, cs, h1, h2, h3⟩ := h; exact ⟨as, cs, h1, RepL.mono hx a as h2, RepL.mono hx c cs h3⟩
  | .nilfn, _, h => by unfold Rep at h ⊢; exact h
  | .map _, _, h => by unfold Rep at h ⊢; obtain ⟨b, h1, h2⟩ := h; exact ⟨b, hx.blk _ _ h1, h2⟩
  | .nilmap, _, h => by unfold Rep at h ⊢; exact h
  | .iface _ d, _, h => by unfold Rep at h ⊢; obtain ⟨u, h1, h2⟩ := h; exact ⟨u, h1, Rep.mono hx d u h2⟩
  | .nilif, _, h => by unfold Rep at h ⊢; exact h
  | .iter _, _, h => by unfold Rep at h ⊢; obtain ⟨b, h1, h2⟩ := h; exact ⟨b, hx.blk _ _ h1, h2⟩
  | .yld _, _, h => by unfold Rep at h ⊢; obtain ⟨b, h1, h2⟩ := h; exact ⟨b, hx.blk _ _ h1, h2⟩
theorem RepL.mono (hx : Ext β G β' G') : ∀ (ds : List DV) (vs : List Value), RepL β G ds vs → RepL β' G' ds vs
  | [], _, h => by unfold RepL at h ⊢; exact h
  | d :: ds, _, h => by unfold RepL at h ⊢; obtain ⟨v, vs', h1, h2, h3⟩ := h; exact ⟨v, vs', h1, Rep.mono hx d v h2, RepL.mono hx ds vs' h3⟩
theorem Pub.mono (hx : Ext β G β' G') : ∀ (ds : List DV) (b o : Nat), Pub β G b o ds → Pub β' G' b o ds
  | [], _, _, _ => by unfold Pub; trivial
  | d :: ds, b, o, h => by unfold Pub at h ⊢; obtain ⟨⟨u, h1, h2⟩, h3⟩ := h; exact ⟨⟨u, hx.g _ _ _ h1, Rep.mono hx d u h2⟩, Pub.mono hx ds b (o + 1) h3⟩
theorem PubE.mono (hx : Ext β G β' G') : ∀ (es : List (List DV)) (b e o : Nat), PubE β G b e o es → PubE β' G' b e o es
  | [], _, _, _, _ => by unfold PubE; trivial
  | c :: cs, b, e, o, h => by unfold PubE at h ⊢; obtain ⟨h1, h2, h3, h4⟩ := h; exact ⟨h1, h2, Pub.mono hx c b o h3, PubE.mono hx cs b e (o + e) h4⟩
end
end mono

/-! A value that names no object does not hang on where objects lie. -/
section free
variable {β β' : Bi} {G : Gh}
mutual
theorem Rep.free : ∀ (d : DV) (v : Value), idfree d = true → Rep β G d v → Rep β' G d v
  | .bool _, _, _, h => by unfold Rep at h ⊢; exact h
  | .int _ _, _, _, h => by unfold Rep at h ⊢; exact h
  | .str _, _, _, h => by unfold Rep at h ⊢; exact h
  | .nilp, _, _, h => by unfold Rep at h ⊢; exact h
  | .ptr _ _, _, hf, _ => by simp [idfree] at hf
  | .rptr _ _ _ _ _, _, hf, _ => by simp [idfree] at hf
  | .pub _, _, hf, _ => by simp [idfree] at hf
  | .nils, _, _, h => by unfold Rep at h ⊢; exact h
  | .sl es, _, _, h => by
    unfold Rep at h ⊢
    obtain ⟨a, c, h1, h2⟩ := h
    refine ⟨a, c, h1, ?_⟩
    rcases h2 with h2 | ⟨b, o, e, h2, h3⟩
    · exact .inl h2
    · exact .inr ⟨b, o, e, h2, PubE.free es b e o h3⟩
  | .rs _ _, _, hf, _ => by simp [idfree] at hf
  | .agg cs, _, hf, h => by unfold Rep at h ⊢; obtain ⟨vs, h1, h2⟩ := h; exact ⟨vs, h1, RepL.free cs vs (by simpa [idfree] using hf) h2⟩
  | .tup cs, _, hf, h => by unfold Rep at h ⊢; obtain ⟨vs, h1, h2⟩ := h; exact ⟨vs, h1, RepL.free cs vs (by simpa [idfree] using hf) h2⟩
  | .fn _ a c, _, hf, h => by
    unfold Rep at h ⊢
    obtain ⟨as, cs, h1, h2, h3⟩ := h
    have hf' : idfrees a = true ∧ idfrees c = true := by simpa [idfree] using hf
    exact ⟨as, cs, h1, RepL.free a as hf'.1 h2, RepL.free c cs hf'.2 h3⟩
  | .nilfn, _, _, h => by unfold Rep at h ⊢; exact h
  | .map _, _, hf, _ => by simp [idfree] at hf
  | .nilmap, _, _, h => by unfold Rep at h ⊢; exact h
  | .iface _ d, _, hf, h => by unfold Rep at h ⊢; obtain ⟨u, h1, h2⟩ := h; exact ⟨u, h1, Rep.free d u (by simpa [idfree] using hf) h2⟩
  | .nilif, _, _, h => by unfold Rep at h ⊢; exact h
  | .iter _, _, hf, _ => by simp [idfree] at hf
  | .yld _, _, hf, _ => by simp [idfree] at hf
theorem RepL.free : ∀ (ds : List DV) (vs : List Value), idfrees ds = true → RepL β G ds vs → RepL β' G ds vs
  | [], _, _, h => by unfold RepL at h ⊢; exact h
  | d :: ds, _, hf, h => by
    unfold RepL at h ⊢
    have hf' : idfree d = true ∧ idfrees ds = true := by simpa [idfrees] using hf
    obtain ⟨v, vs', h1, h2, h3⟩ := h
    exact ⟨v, vs', h1, Rep.free d v hf'.1 h2, RepL.free ds vs' hf'.2 h3⟩
theorem Pub.free : ∀ (ds : List DV) (b o : Nat), idfrees ds = true → Pub β G b o ds → Pub β' G b o ds
  | [], _, _, _, _ => by unfold Pub; trivial
  | d :: ds, b, o, hf, h => by
    unfold Pub at h ⊢
    have hf' : idfree d = true ∧ idfrees ds = true := by simpa [idfrees] using hf
    obtain ⟨⟨u, h1, h2⟩, h3⟩ := h
    exact ⟨⟨u, h1, Rep.free d u hf'.1 h2⟩, Pub.free ds b (o + 1) hf'.2 h3⟩
theorem PubE.free : ∀ (es : List (List DV)) (b e o : Nat), PubE β G b e o es → PubE β' G b e o es
  | [], _, _, _, _ => by unfold PubE; trivial
  | c :: cs, b, e, o, h => by unfold PubE at h ⊢; obtain ⟨h1, h2, h3, h4⟩ := h; exact ⟨h1, h2, Pub.free c b o h2.1 h3, PubE.free cs b e (o + e) h4⟩
end
end free

/-! Lists -/
section lists
variable {β : Bi} {G : Gh}
theorem repL_nil {vs : List Value} : RepL β G [] vs ↔ vs = [] := by unfold RepL; exact Iff.rfl
theorem repL_cons {d : DV} {ds : List DV} {vs : List Value} : RepL β G (d :: ds) vs ↔ ∃ v vs', vs = v :: vs' ∧ Rep β G d v ∧ RepL β G ds vs' := by
  conv => lhs; unfold RepL
theorem repL_len : ∀ {ds : List DV} {vs : List Value}, RepL β G ds vs → vs.length = ds.length
  | [], _, h => by rw [repL_nil] at h; simp [h]
  | d :: ds, _, h => by
    obtain ⟨v, vs', rfl, _, h⟩ := repL_cons.1 h
    simp [repL_len h]
theorem repL_get : ∀ {ds : List DV} {vs : List Value}, RepL β G ds vs → ∀ {i : Nat} {d : DV}, ds[i]? = some d → ∃ v, vs[i]? = some v ∧ Rep β G d v
  | [], _, _, i, d, hi => by simp at hi
  | x :: ds, _, h, i, d, hi => by
    obtain ⟨v, vs', rfl, h1, h⟩ := repL_cons.1 h
    cases i with
    | zero => simp at hi; subst hi; exact ⟨v, rfl, h1⟩
    | succ i => simpa using repL_get h (i := i) (d := d) (by simpa using hi)
theorem repL_append : ∀ {ds es : List DV} {vs : List Value}, RepL β G (ds ++ es) vs ↔ ∃ as bs, vs = as ++ bs ∧ RepL β G ds as ∧ RepL β G es bs
  | [], es, vs => by
    constructor
    · intro h; exact ⟨[], vs, rfl, repL_nil.2 rfl, h⟩
    · rintro ⟨as, bs, rfl, h1, h2⟩; rw [repL_nil] at h1; subst h1; exact h2
  | d :: ds, es, vs => by
    constructor
    · intro h
      obtain ⟨v, vs', rfl, h1, h2⟩ := repL_cons.1 h
      obtain ⟨as, bs, rfl, h3, h4⟩ := repL_append.1 h2
      exact ⟨v :: as, bs, rfl, repL_cons.2 ⟨v, as, rfl, h1, h3⟩, h4⟩
    · rintro ⟨as, bs, rfl, h1, h2⟩
      obtain ⟨v, as', rfl, h3, h4⟩ := repL_cons.1 h1
      exact repL_cons.2 ⟨v, as' ++ bs, rfl, h3, repL_append.2 ⟨as', bs, rfl, h4, h2⟩⟩
theorem repL_drop : ∀ {ds : List DV} {vs : List Value} (n : Nat), RepL β G ds vs → RepL β G (ds.drop n) (vs.drop n)
  | [], _, n, h => by rw [repL_nil] at h; subst h; simp [repL_nil]
  | d :: ds, _, 0, h => by simpa using h
  | d :: ds, _, n + 1, h => by
    obtain ⟨v, vs', rfl, h1, h2⟩ := repL_cons.1 h
    simpa using repL_drop n h2
theorem repL_take : ∀ {ds : List DV} {vs : List Value} (n : Nat), RepL β G ds vs → RepL β G (ds.take n) (vs.take n)
  | [], _, n, h => by rw [repL_nil] at h; subst h; simp [repL_nil]
  | d :: ds, _, 0, h => by simp [repL_nil]
  | d :: ds, _, n + 1, h => by
    obtain ⟨v, vs', rfl, h1, h2⟩ := repL_cons.1 h
    simpa using repL_cons.2 ⟨v, _, rfl, h1, repL_take n h2⟩

theorem rep_cell {d : DV} {v : Value} (hc : isCell d = true) (h : Rep β G d v) : v.oneCell' = true := by
  cases d <;> simp [isCell] at hc <;> unfold Rep at h
  all_goals first
    | (subst h; rfl)
    | (obtain ⟨b, _, rfl⟩ := h; rfl)
    | (obtain ⟨b, n, c, _, rfl⟩ := h; rfl)
    | (obtain ⟨_, b, o, rfl, _⟩ := h; rfl)
    | (obtain ⟨a, c, ⟨rfl, _⟩, _⟩ := h; rfl)
    | (obtain ⟨_, a, n, c, rfl⟩ := h; rfl)
    | (obtain ⟨_, _, rfl, _, _⟩ := h; rfl)
    | (obtain ⟨_, rfl, _⟩ := h; rfl)

theorem rep_cells {d : DV} {v : Value} (h : Rep β G d v) : RepL β G (cellsOf d) v.cells.toList := by
  have single : ∀ {d : DV} {v : Value}, Rep β G d v → v.cells = #[v] → RepL β G [d] v.cells.toList := fun h e => by
    rw [e]; exact repL_cons.2 ⟨_, [], rfl, h, repL_nil.2 rfl⟩
  cases d with
  | agg cs => unfold Rep at h; obtain ⟨vs, rfl, h⟩ := h; simpa [cellsOf, Value.cells] using h
  | _ =>
    refine single h ?_
    unfold Rep at h
    first
    | (subst h; rfl)
    | (obtain ⟨b, _, rfl⟩ := h; rfl)
    | (obtain ⟨b, n, c, _, rfl⟩ := h; rfl)
    | (obtain ⟨_, b, o, rfl, _⟩ := h; rfl)
    | (obtain ⟨a, c, ⟨rfl, _⟩, _⟩ := h; rfl)
    | (obtain ⟨_, a, n, c, rfl⟩ := h; rfl)
    | (obtain ⟨_, _, rfl, _, _⟩ := h; rfl)
    | (obtain ⟨_, rfl, _⟩ := h; rfl)

theorem repL_cells : ∀ {ds : List DV} {vs : List Value}, ds.all isCell = true → RepL β G ds vs → ∀ v ∈ vs, v.oneCell' = true
  | [], _, _, h, v, hv => by rw [repL_nil] at h; subst h; cases hv
  | d :: ds, _, hc, h, v, hv => by
    obtain ⟨u, vs', rfl, h1, h2⟩ := repL_cons.1 h
    simp only [List.all_cons, Bool.and_eq_true] at hc
    cases hv with
    | head => exact rep_cell hc.1 h1
    | tail _ hv => exact repL_cells hc.2 h2 v hv
end lists

end Go.Ab
