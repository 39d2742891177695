/- A region whose order is drawn: the end. -/
import Derived.Test.YtehofdemanfenaaAb27
namespace Go.Ab
open Go.RowKit

section
variable {P : Program} {E : Env} {w0 : World} {G0 : Gh} {outer : DD} {own : List Nat} {V nt : Nat} {a : Act} {w : World} {β : Bi} {G : Gh} {ro : Option Nat} {n : Nat} {call : Nat → List DV → Option DV} {callH callY : CallH} {ops : Array Oper} {b : Nat} {m : Mid} {c : Nat}

theorem countP_lt {p p' : Nat → Bool} : ∀ {l : List Nat} {x : Nat}, x ∈ l → p x = true → p' x = false → (∀ y, p' y = true → p y = true) → l.countP p' + 1 ≤ l.countP p
  | [], _, h, _, _, _ => by cases h
  | y :: l, x, h, h1, h2, h3 => by
    have hle : l.countP p' ≤ l.countP p := List.countP_mono_left fun z _ hz => h3 z hz
    rw [List.countP_cons, List.countP_cons]
    rcases List.mem_cons.1 h with rfl | h
    · rw [if_pos h1, if_neg (by rw [h2]; simp)]; omega
    · have := countP_lt h h1 h2 h3
      by_cases e : p' y = true
      · rw [if_pos e, if_pos (h3 y e)]; omega
      · rw [if_neg e]; split <;> omega

def lst (listed : Array Bool) (j : Nat) : Bool := listed.getD j false
def cnt (N : Nat) (listed : Array Bool) : Nat := (List.range N).countP fun j => !lst listed j

theorem lst_set {listed : Array Bool} {i : Nat} (hi : i < listed.size) (j : Nat) : lst (listed.setIfInBounds i true) j = if j = i then true else lst listed j := by
  unfold lst
  by_cases e : j = i
  · subst e; simp [hi]
  · have : i ≠ j := fun h => e h.symm
    simp [e, Array.getElem?_setIfInBounds_ne this]

theorem cnt_set {listed : Array Bool} {i : Nat} (hi : i < listed.size) (hl : lst listed i = false) : cnt listed.size (listed.setIfInBounds i true) + 1 ≤ cnt listed.size listed := by
  unfold cnt
  refine countP_lt (x := i) (List.mem_range.2 hi) (by simp [hl]) (by simp [lst_set hi]) fun y hy => ?_
  rw [lst_set hi] at hy
  by_cases e : y = i
  · rw [if_pos e] at hy; simp at hy
  · rw [if_neg e] at hy; exact hy

theorem cnt_zero {N : Nat} {listed : Array Bool} (h : cnt N listed = 0) : ∀ j, j < N → lst listed j = true := fun j hj => by
  have := List.countP_eq_zero.1 h j (List.mem_range.2 hj)
  simpa using this

theorem ready_iff {listed : Array Bool} (hsz : listed.size = ops.size) {j : Nat} : j ∈ Region.ready .any ops listed ↔ lst listed j = false ∧ ∃ o, ops[j]? = some o ∧ ∀ e ∈ o.after, Region.binds .any e = true → lst listed e.on = true := by
  rw [mem_ready]
  constructor
  · rintro ⟨h1, o, h2, h3⟩
    have hlt : j < listed.size := by rw [hsz]; exact (Array.getElem?_eq_some_iff.1 h2).1
    refine ⟨?_, o, h2, h3⟩
    unfold lst
    simp [hlt] at h1 ⊢; exact h1
  · rintro ⟨h1, o, h2, h3⟩
    have hlt : j < listed.size := by rw [hsz]; exact (Array.getElem?_eq_some_iff.1 h2).1
    refine ⟨?_, o, h2, h3⟩
    unfold lst at h1
    simp [hlt] at h1 ⊢; exact h1

theorem draw_main (hE : ∀ t ti, E.ty t = some ti → TyOk P t ti) (hp : PureOk P call) (hH : HeapOk P E callH) (hY : YieldOk P E callY) {Q : Exit → Act → World → Prop} {β0 : Bi} {Gz : Gh} {hz : Nat → Option AObj} {m : Mid} {ds : List (Nat × Done)} {nx : Nat} (hs : SegOk E call callH callY V nt ops b m ops.size nx ds) (hle : b + ops.size ≤ m.next)
    (hq : ∀ a' w' β' G', MM E w0 G0 outer V nt own (putAll V nt ds { m with next := nx }) a' w' β' G' → Go2 b β0 Gz β' G' hz (putAll V nt ds { m with next := nx }).objs.get → Q .normal a' w') :
    ∀ (fuel : Nat) (listed : Array Bool) (a : Act) (w : World) (β : Bi) (G : Gh), listed.size = ops.size → cnt ops.size listed ≤ fuel → DS E w0 G0 outer V nt own ops b nx m ds (lst listed) β0 Gz hz a w β G → wpAnyIn (fw ro) n P .any ops Q fuel listed a w := by
  intro fuel
  induction fuel with
  | zero =>
    intro listed a w β G hsz hcnt hst
    have hall := cnt_zero (Nat.le_zero.1 hcnt)
    have hr : Region.ready .any ops listed = [] := by
      cases hrr : Region.ready .any ops listed with
      | nil => rfl
      | cons j l =>
        obtain ⟨h1, o, h2, _⟩ := (ready_iff (j := j) hsz).1 (by rw [hrr]; simp)
        rw [hall j (Array.getElem?_eq_some_iff.1 h2).1] at h1; cases h1
    obtain ⟨f1, f2, _⟩ := hst.full hs fun j d hj => hall j (seg_lt hs j d hj)
    exact ⟨hr, hq a w β G f1 f2⟩
  | succ fuel ihf =>
    intro listed a w β G hsz hcnt hst
    refine ⟨fun hr => ?_, fun i hi => ?_⟩
    ·
      have hall : ∀ j, j < ops.size → lst listed j = true := fun j => by
        induction j using Nat.strongRecOn with
        | _ j ihj =>
          intro hj
          obtain ⟨d, tl, o, _, _, _, h2, _⟩ := seg_at hs j hj
          cases hlj : lst listed j with
          | true => rfl
          | false =>
            have : j ∈ Region.ready .any ops listed := (ready_iff hsz).2 ⟨hlj, o, h2.op, fun e he hb => ihj e.on (h2.edges e he hb) (by have := h2.edges e he hb; omega)⟩
            rw [hr] at this; cases this
      obtain ⟨f1, f2, _⟩ := hst.full hs fun j d hj => hall j (seg_lt hs j d hj)
      exact hq a w β G f1 f2
    · obtain ⟨hli, o, hoi, hed⟩ := (ready_iff hsz).1 hi
      have hilt := (Array.getElem?_eq_some_iff.1 hoi).1
      have hset := lst_set (listed := listed) (i := i) (by omega)
      have hcnt' : cnt ops.size (listed.setIfInBounds i true) ≤ fuel := by
        have := cnt_set (listed := listed) (i := i) (by omega) hli
        rw [hsz] at this; omega
      exact op_step hE hp hH hY hs hilt hle hli hset hoi hed hst fun a' w' β' G' hst' => ihf _ a' w' β' G' (by simpa using hsz) hcnt' hst'

theorem draw_sound (hE : ∀ t ti, E.ty t = some ti → TyOk P t ti) (hp : PureOk P call) (hH : HeapOk P E callH) (hY : YieldOk P E callY) {Q : Exit → Act → World → Prop} {m mf : Mid}
    (hd : evDraw E call callH callY V nt ops b 0 ops.toList m [] = some mf) (hle : b + ops.size ≤ m.next) (hfr : ∀ j, j < ops.size → Fresh β m.objs.get (b + j)) (hm : MM E w0 G0 outer V nt own m a w β G)
    (hq : ∀ a' w' β' G', m.next ≤ mf.next → MM E w0 G0 outer V nt own mf a' w' β' G' → Go2 b β G β' G' m.objs.get mf.objs.get → Q .normal a' w') :
    wpAnyIn (fw ro) n P .any ops Q ops.size (Array.replicate ops.size false) a w := by
  obtain ⟨nx, ds, hs, rfl⟩ := draw_split (m := m) ops.toList 0 mf m.next [] hd rfl ⟨rfl, rfl⟩ (Nat.zero_le _)
  have hno : ∀ j, lst (Array.replicate ops.size false) j = false := fun j => by
    unfold lst
    by_cases e : j < ops.size
    · simp [e]
    · simp [e]
  obtain ⟨hnx, hcalls⟩ := seg_le hs
  have e1 : ∀ (l : List (Nat × Done)) t, seenL (lst (Array.replicate ops.size false)) (slotOf V m.base m.loc) l t = slotOf V m.base m.loc t := fun l t => by
    induction l with
    | nil => rfl
    | cons p l ihl =>
      obtain ⟨i, e⟩ := p
      simp only [seenL, hno i, Bool.false_eq_true, false_and, if_false]
      exact ihl
  have e2 : ∀ (l : List (Nat × Done)) id, hL (lst (Array.replicate ops.size false)) m.objs.get l id = m.objs.get id := fun l id => by
    induction l with
    | nil => rfl
    | cons p l ihl =>
      obtain ⟨i, e⟩ := p
      simp only [hL, hno i, Bool.false_eq_true, if_false]
      exact ihl
  have hF : ∀ id, Fresh β m.objs.get id → Fresh β (hL (lst (Array.replicate ops.size false)) m.objs.get ds) id := fun id h => ⟨h.blk, h.hdr, by rw [e2]; exact h.h⟩
  have hnext : (putAll V nt ds { m with next := nx }).next = nx := (putAll_view (L := fun _ => true) (nx0 := nx) hs fun _ _ _ => rfl).2.2.1
  refine draw_main hE hp hH hY hs hle (fun a' w' β' G' h1 h2 => hq a' w' β' G' (by rw [hnext]; exact hnx) h1 h2) ops.size _ a w β G (by simp) (by unfold cnt; exact Nat.le_trans (List.countP_le_length) (by simp))
    ⟨fun t d ht => hm.fr t d (by rw [← e1]; exact ht), hm.dom, hm.sz, hm.hr.eq (e2 ds), fun id hid => hF id (hm.fresh id (by omega)), hm.df, fun j hj _ => hF _ (hfr j hj), (fun j d lo hi hj hn _ id h1 _ => hF id (hm.fresh id (by have := (hcalls j d lo hi hj hn).1; omega))),
      (fun j d hj hlj => by rw [hno j] at hlj; cases hlj), ⟨Ext.refl _ _, fun id hid hn => ⟨by rw [e2]; exact hn, rfl, fun _ => rfl⟩⟩⟩

end
end Go.Ab
