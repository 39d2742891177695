/- The abstract heap's steps: one object is laid or turned, the rest lies as it lay. -/
import Derived.Test.YtehofdemanfenaaAb3
namespace Go.Ab
open Go.RowKit

theorem owns_eq {β β' : Bi} {id : Nat} (hb : β'.blk id = β.blk id) (hh : ∀ u, β'.hdr id u = β.hdr id u) (o : AObj) (b : Nat) : Owns β' id o b ↔ Owns β id o b := by
  cases o <;> simp only [Owns, hb, hh]

theorem ownsRow_of_block {w w' : World} {base : Nat} {e : TypeId} {size : Nat} {v : Value} {n : Nat} {xs : List Value} (h : w.ownsRow base e size v n xs)
    (hb : ∀ g, v.ownBlock = some g → w'.heap[g]? = w.heap[g]?) : w'.ownsRow base e size v n xs := by
  obtain ⟨h1, h2⟩ := h
  refine ⟨h1, ?_⟩
  rcases h2 with h2 | ⟨g, cap, cur, hv, hg, hh, r⟩
  · exact Or.inl h2
  · exact Or.inr ⟨g, cap, cur, hv, hg, by rw [hb g (by rw [hv]; rfl)]; exact hh, r⟩

theorem ownBlock_form {w : World} {base : Nat} {e : TypeId} {size : Nat} {v : Value} {n : Nat} {xs : List Value} (h : w.ownsRow base e size v n xs) {g : Nat} (hg : v.ownBlock = some g) :
    ∃ c, v = .slice (some ⟨g, 0, none⟩) n c := by
  rcases h.2 with ⟨rfl, _⟩ | ⟨g', cap, cur, rfl, _⟩
  · cases hg
  · simp [Value.ownBlock] at hg; subst hg; exact ⟨cap, rfl⟩

theorem mapR_mono {β β' : Bi} {G G' : Gh} (hx : Ext β G β' G') : ∀ {es : List (DV × DV)} {ms : List MapEntry}, MapR β G es ms → MapR β' G' es ms
  | [], _, h => h
  | _ :: _, _, ⟨m, ms', h1, h2, h3, h4, h5, h6⟩ => ⟨m, ms', h1, Rep.mono hx _ _ h2, Rep.mono hx _ _ h3, h4, h5, mapR_mono hx h6⟩

/-- An object whose block has not turned lies on. -/
theorem ObjR.keep {E : Env} {base : Nat} {w w' : World} {β β' : Bi} {G G' : Gh} {id : Nat} {o : AObj} (hx : Ext β G β' G') (hhdr : ∀ u, β'.hdr id u = β.hdr id u)
    (hb : ∀ b, Owns β id o b → w'.heap[b]? = w.heap[b]? ∧ ∀ off, G' b off = G b off) (h : ObjR E base w β G id o) : ObjR E base w' β' G' id o := by
  cases o with
  | cells t cs =>
    obtain ⟨b, vs, h1, h2, h3, h4, h5⟩ := h
    obtain ⟨k1, k2⟩ := hb b h1
    exact ⟨b, vs, hx.blk _ _ h1, k1.trans h2, RepL.mono hx _ _ h3, h4, fun o => (k2 o).trans (h5 o)⟩
  | row t es p u =>
    obtain ⟨hdr, vals, h1, h2, h3, h4, h5, h6, h7⟩ := h
    have hbl : ∀ g, hdr.ownBlock = some g → Owns β id (.row t es p u) g := fun g hg => by
      obtain ⟨c, hc⟩ := ownBlock_form h2 hg
      exact ⟨es.length, c, by rw [h1, hc]⟩
    refine ⟨hdr, vals, hx.hdr _ _ _ h1, ownsRow_of_block h2 (fun g hg => (hb g (hbl g hg)).1), RepL.mono hx _ _ h3, h4, h5, fun b hbb o ho => ?_, fun u' hu => (hhdr u').trans (h7 u' hu)⟩
    exact ((hb b (hbl b hbb)).2 o).trans (h6 b hbb o ho)
  | map es =>
    obtain ⟨b, ms, clock, h1, h2, h3⟩ := h
    obtain ⟨k1, _⟩ := hb b h1
    exact ⟨b, ms, clock, hx.blk _ _ h1, k1.trans h2, mapR_mono hx h3⟩
  | siter s pos =>
    obtain ⟨b, h1, h2⟩ := h
    exact ⟨b, hx.blk _ _ h1, ((hb b h1).1).trans h2⟩
  | loop fid bs ps assign body bid ex =>
    obtain ⟨b, tmps, df, fn, F, h1, h2, h3, h4⟩ := h
    exact ⟨b, tmps, df, fn, F, hx.blk _ _ h1, ((hb b h1).1).trans h2, FrM.mono hx h3, h4⟩

theorem updF_one (h : Nat → Option AObj) (id : Nat) (x : Option AObj) (i : Nat) : updF h [(id, x)] i = if i = id then x else h i := by
  unfold updF
  by_cases e : i = id
  · subst e; simp [updFind]
  · have : Nat.beq id i = false := by
      cases hq : Nat.beq id i with
      | false => rfl
      | true => exact absurd (Nat.eq_of_beq_eq_true hq).symm e
    simp [updFind, this, e]

/-- THE STEP. -/
theorem HR.move {E : Env} {w0 : World} {G0 : Gh} {D : DD} {w w' : World} {β β' : Bi} {G G' : Gh} {h : Nat → Option AObj} (hh : HR E w0 G0 D w β G h)
    (T : Nat → Prop) (id : Nat) (o' : AObj) (hx : Ext β G β' G') (hbe : Below w0.heap.size w0 w')
    (hw : ∀ b, ¬ T b → b < w.heap.size → w'.heap[b]? = w.heap[b]?) (hG : ∀ b, ¬ T b → G' b = G b) (hsz : w.heap.size ≤ w'.heap.size)
    (hT : ∀ b, T b → w0.heap.size ≤ b ∧ D b = none) (hTo : ∀ b id' o, T b → h id' = some o → Owns β id' o b → id' = id)
    (hag : ∀ b, T b → ∀ o v, G' b o = some v → w'.cell? ⟨b, o, none⟩ = some v)
    (hob : ObjR E w0.heap.size w' β' G' id o') (hown : ∀ b, Owns β' id o' b → T b ∨ ∃ o, h id = some o ∧ Owns β id o b) (hlt : ∀ b, Owns β' id o' b → b < w'.heap.size)
    (hβ : ∀ i, i ≠ id → β'.blk i = β.blk i ∧ ∀ u, β'.hdr i u = β.hdr i u) : HR E w0 G0 D w' β' G' (updF h [(id, some o')]) := by
  have hold : ∀ i o b, i ≠ id → h i = some o → Owns β i o b → ¬ T b := fun i o b hi ho hb ht => hi (hTo b i o ht ho hb)
  have hget : ∀ i o, updF h [(id, some o')] i = some o → (i = id ∧ o = o') ∨ (i ≠ id ∧ h i = some o) := fun i o hi => by
    rw [updF_one] at hi
    by_cases e : i = id
    · rw [if_pos e] at hi; cases hi; exact .inl ⟨e, rfl⟩
    · rw [if_neg e] at hi; exact .inr ⟨e, hi⟩
  have hown' : ∀ b, Owns β' id o' b → w0.heap.size ≤ b ∧ D b = none := fun b hb => by
    rcases hown b hb with ht | ⟨o, ho, hb'⟩
    · exact hT b ht
    · obtain ⟨k1, _, k3⟩ := hh.own id o b ho hb'; exact ⟨k1, k3⟩
  have hsep : ∀ i o b, i ≠ id → h i = some o → Owns β i o b → Owns β' id o' b → False := fun i o b hi ho hb hb' => by
    rcases hown b hb' with ht | ⟨o2, ho2, hb2⟩
    · exact hold i o b hi ho hb ht
    · exact hi (hh.inj i id o o2 b ho ho2 hb hb2)
  constructor
  · exact hbe
  · intro b hb
    rw [← hh.g0 b hb]
    refine hG b fun ht => ?_
    have := (hT b ht).1
    omega
  · intro b o v hg
    by_cases ht : T b
    · exact hag b ht o v hg
    · rw [hG b ht] at hg
      have hc := hh.agree b o v hg
      have hlt := block_lt_of_cell hc
      exact (World.cell?_of_block (w := w) (w' := w') (a := ⟨b, o, none⟩) (hw b ht hlt)).trans hc
  · intro i o hi
    rcases hget i o hi with ⟨rfl, rfl⟩ | ⟨hne, hi⟩
    · exact hob
    · refine ObjR.keep hx (hβ i hne).2 (fun b hb => ?_) (hh.obj i o hi)
      have hnt := hold i o b hne hi hb
      exact ⟨hw b hnt (hh.own i o b hi hb).2.1, fun off => by rw [hG b hnt]⟩
  · intro i o b hi hb
    rcases hget i o hi with ⟨rfl, rfl⟩ | ⟨hne, hi⟩
    · exact ⟨(hown' b hb).1, hlt b hb, (hown' b hb).2⟩
    · have hb' := (owns_eq (hβ i hne).1 (hβ i hne).2 o b).1 hb
      obtain ⟨k1, k2, k3⟩ := hh.own i o b hi hb'
      exact ⟨k1, by omega, k3⟩
  · intro i j o p b hi hj hb hc
    rcases hget i o hi with ⟨e1, e2⟩ | ⟨hne, hi2⟩ <;> rcases hget j p hj with ⟨e3, e4⟩ | ⟨hne', hj2⟩
    · exact e1.trans e3.symm
    · subst e1 e2; exact (hsep j p b hne' hj2 ((owns_eq (hβ j hne').1 (hβ j hne').2 p b).1 hc) hb).elim
    · subst e3 e4; exact (hsep i o b hne hi2 ((owns_eq (hβ i hne).1 (hβ i hne).2 o b).1 hb) hc).elim
    · exact hh.inj i j o p b hi2 hj2 ((owns_eq (hβ i hne).1 (hβ i hne).2 o b).1 hb) ((owns_eq (hβ j hne').1 (hβ j hne').2 p b).1 hc)
  · intro d x hd
    obtain ⟨k1, k2, k3⟩ := hh.marks d x hd
    have hlt : d < w.heap.size := (Array.getElem?_eq_some_iff.1 k2).1
    have hnt : ¬ T d := fun ht => by rw [(hT d ht).2] at hd; cases hd
    exact ⟨k1, (hw d hnt hlt).trans k2, fun o => by rw [hG d hnt]; exact k3 o⟩

/-- Fewer objects. -/
theorem HR.less {E : Env} {w0 : World} {G0 : Gh} {D : DD} {w : World} {β : Bi} {G : Gh} {h h' : Nat → Option AObj} (hh : HR E w0 G0 D w β G h) (hl : ∀ i o, h' i = some o → h i = some o) :
    HR E w0 G0 D w β G h' :=
  ⟨hh.below, hh.g0, hh.agree, fun i o hi => hh.obj i o (hl i o hi), fun i o b hi => hh.own i o b (hl i o hi), fun i j o p b hi hj => hh.inj i j o p b (hl i o hi) (hl j p hj), hh.marks⟩

theorem HR.eq {E : Env} {w0 : World} {G0 : Gh} {D : DD} {w : World} {β : Bi} {G : Gh} {h h' : Nat → Option AObj} (hh : HR E w0 G0 D w β G h) (hl : ∀ i, h' i = h i) : HR E w0 G0 D w β G h' :=
  hh.less fun i o hi => by rw [← hl i]; exact hi

/-- A draw turns nothing. -/
theorem HR.drew {E : Env} {w0 : World} {G0 : Gh} {D : DD} {w : World} {β : Bi} {G : Gh} {h : Nat → Option AObj} (hh : HR E w0 G0 D w β G h) (n : Nat) :
    HR E w0 G0 D { w with drawn := n } β G h :=
  ⟨⟨hh.below.os, hh.below.tape, hh.below.output, hh.below.size, hh.below.block⟩, hh.g0, hh.agree, fun i o hi => by
    have := hh.obj i o hi
    cases o <;> exact this, hh.own, hh.inj, hh.marks⟩

/-- What is not known is left alone. -/
def Keep1 (β β' : Bi) (h h' : Nat → Option AObj) (id : Nat) : Prop := h id = none → h' id = none ∧ β'.blk id = β.blk id ∧ ∀ u, β'.hdr id u = β.hdr id u
theorem Keep1.refl (β : Bi) (h : Nat → Option AObj) (id : Nat) : Keep1 β β h h id := fun h => ⟨h, rfl, fun _ => rfl⟩
theorem Keep1.trans {β β' β'' : Bi} {h h' h'' : Nat → Option AObj} {id : Nat} (x : Keep1 β β' h h' id) (y : Keep1 β' β'' h' h'' id) : Keep1 β β'' h h'' id := fun hn => by
  obtain ⟨a, b, c⟩ := x hn
  obtain ⟨a', b', c'⟩ := y a
  exact ⟨a', b'.trans b, fun u => (c' u).trans (c u)⟩
theorem Keep1.fresh {β β' : Bi} {h h' : Nat → Option AObj} {id : Nat} (x : Keep1 β β' h h' id) (hf : Fresh β h id) : Fresh β' h' id := by
  obtain ⟨a, b, c⟩ := x hf.h
  exact ⟨b.trans hf.blk, fun u => (c u).trans (hf.hdr u), a⟩

/-- What an operation on the abstract heap may do to what is not known. -/
def Kept (β β' : Bi) (h h' : Nat → Option AObj) (nid : Nat) : Prop := ∀ id, id ≠ nid → Keep1 β β' h h' id

theorem Kept.refl (β : Bi) (h : Nat → Option AObj) (nid : Nat) : Kept β β h h nid := fun id _ => Keep1.refl β h id

/-- A new block for a new object. -/
theorem HR.lay {E : Env} {w0 : World} {G0 : Gh} {D : DD} {w : World} {β : Bi} {G : Gh} {h : Nat → Option AObj} (hh : HR E w0 G0 D w β G h) {nid : Nat} (hf : Fresh β h nid) (ob : Obj) (o' : AObj)
    (hrow : ∀ t es p u, o' ≠ .row t es p u)
    (hob : ∀ β', Ext β G β' G → β'.blk nid = some w.heap.size → ObjR E w0.heap.size (w.alloc ob) β' G nid o') :
    ∃ β', Ext β G β' G ∧ β'.blk nid = some w.heap.size ∧ HR E w0 G0 D (w.alloc ob) β' G (updF h [(nid, some o')]) ∧ Kept β β' h (updF h [(nid, some o')]) nid := by
  refine ⟨{ β with blk := fun i => if i = nid then some w.heap.size else β.blk i }, ?_, ?_, ?_, ?_⟩
  · exact ⟨fun _ _ _ h => h, fun i b hb => by
      by_cases e : i = nid
      · subst e; rw [hf.blk] at hb; cases hb
      · simp [e, hb], fun _ _ _ h => h⟩
  · simp
  · have hx : Ext β G { β with blk := fun i => if i = nid then some w.heap.size else β.blk i } G := ⟨fun _ _ _ h => h, fun i b hb => by
      by_cases e : i = nid
      · subst e; rw [hf.blk] at hb; cases hb
      · simp [e, hb], fun _ _ _ h => h⟩
    have howns : ∀ b, Owns { β with blk := fun i => if i = nid then some w.heap.size else β.blk i } nid o' b → b = w.heap.size := fun b hb => by
      cases o' with
      | row t es p u => exact absurd rfl (hrow t es p u)
      | _ => simp [Owns] at hb; exact hb.symm
    refine hh.move (fun b => b = w.heap.size) nid o' hx (hh.below.alloc hh.below.size ob) (fun b _ hlt => Below.heap_alloc w ob b hlt) (fun _ _ => rfl) (by simp) ?_ ?_ ?_ (hob _ hx (by simp)) (fun b hb => .inl (howns b hb)) ?_ ?_
    · rintro b rfl
      refine ⟨hh.below.size, ?_⟩
      cases hd : D w.heap.size with
      | none => rfl
      | some x =>
        have := (Array.getElem?_eq_some_iff.1 (hh.marks _ x hd).2.1).1
        omega
    · rintro b id' o rfl ho hb
      have := (hh.own id' o _ ho hb).2.1
      omega
    · rintro b rfl o v hg
      rw [glt hh (Nat.le_refl _)] at hg; cases hg
    · intro b hb
      rw [howns b hb]; simp
    · intro i hi
      exact ⟨by simp [hi], fun _ => rfl⟩
  · intro id hne hn
    exact ⟨by rw [updF_one, if_neg hne]; exact hn, by simp [hne], fun _ => rfl⟩

end Go.Ab
