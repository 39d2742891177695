/- A region whose order is drawn: the end. -/
import Derived.Test.YtdoejdmpmpgmiaaAb27
set_option linter.unusedSectionVars false
set_option linter.unusedVariables false
set_option linter.unusedSimpArgs false
namespace Go.Ab
open Go.RowKit

section
variable {P : Program} {E : Env} {w0 : World} {G0 : Gh} {outer own : List Nat} {V nt : Nat} {a : Act} {w : World} {β : Bi} {G : Gh} {ro : Option Nat} {n : Nat} {call : Nat → List DV → Option DV} {callH callY : CallH} {ops : Array Oper} {b : Nat} {m : Mid} {c : Nat}

theorem countP_lt {p p' : Nat → Bool} : ∀ {l : List Nat} {x : Nat}, x ∈ l → p x = true → p' x = false → (∀ y, p' y = true → p y = true) → l.countP p' + 1 ≤ l.countP p
  | [], _, h, _, _, _ => by cases h
  | y :: l, x, h, h1, h2, h3 => by
    have hle : l.countP p' ≤ l.countP p := List.countP_mono_left fun z _ hz => h3 z hz
    rw [List.countP_cons, List.countP_cons]
    rcases List.mem_cons.1 h with rfl | h
    · rw [if_pos h1, if_neg (by rw [h2]; simp)]; omega
    · have := countP_lt h h1 h2 h3
      by_cases e : p' y = true
      · rw [if_pos e, if_pos (h3 y e)]; omega
      · rw [if_neg e]; split <;> omega

def lst (listed : Array Bool) (j : Nat) : Bool := listed.getD j false
def cnt (N : Nat) (listed : Array Bool) : Nat := (List.range N).countP fun j => !lst listed j

theorem lst_set {listed : Array Bool} {i : Nat} (hi : i < listed.size) (j : Nat) : lst (listed.setIfInBounds i true) j = if j = i then true else lst listed j := by
  unfold lst
  by_cases e : j = i
  · subst e; simp [hi]
  · have : i ≠ j := fun h => e h.symm
    simp [e, Array.getElem?_setIfInBounds_ne this]

theorem cnt_set {listed : Array Bool} {i : Nat} (hi : i < listed.size) (hl : lst listed i = false) : cnt listed.size (listed.setIfInBounds i true) + 1 ≤ cnt listed.size listed := by
  unfold cnt
  refine countP_lt (x := i) (List.mem_range.2 hi) (by simp [hl]) (by simp [lst_set hi]) fun y hy => ?_
  rw [lst_set hi] at hy
  by_cases e : y = i
  · rw [if_pos e] at hy; simp at hy
  · rw [if_neg e] at hy; exact hy

theorem cnt_zero {N : Nat} {listed : Array Bool} (h : cnt N listed = 0) : ∀ j, j < N → lst listed j = true := fun j hj => by
  have := List.countP_eq_zero.1 h j (List.mem_range.2 hj)
  simpa using this

theorem ready_iff {listed : Array Bool} (hsz : listed.size = ops.size) {j : Nat} : j ∈ Region.ready .any ops listed ↔ lst listed j = false ∧ ∃ o, ops[j]? = some o ∧ ∀ e ∈ o.after, Region.binds .any e = true → lst listed e.on = true := by
  rw [mem_ready]
  constructor
  · rintro ⟨h1, o, h2, h3⟩
    have hlt : j < listed.size := by rw [hsz]; exact (Array.getElem?_eq_some_iff.1 h2).1
    refine ⟨?_, o, h2, h3⟩
    unfold lst
    simp [hlt] at h1 ⊢; exact h1
  · rintro ⟨h1, o, h2, h3⟩
    have hlt : j < listed.size := by rw [hsz]; exact (Array.getElem?_eq_some_iff.1 h2).1
    refine ⟨?_, o, h2, h3⟩
    unfold lst at h1
    simp [hlt] at h1 ⊢; exact h1

/-- What lies behind a call waits for it. -/
theorem later : ∀ (os : List Oper) (k : Nat) (m mf : Mid) (c : Nat) (ds : List (Nat × Done)), evDraw E call callH callY V nt ops b k os m c ds = some mf → os = ops.toList.drop k → (∀ j d, (j, d) ∈ ds → c ≤ j) → 0 < c → c ≤ k →
    ∀ listed : Array Bool, listed.size = ops.size → (∀ j, c ≤ j → j < ops.size → lst listed j = false) → ∀ i, k ≤ i → i ∈ Region.ready .any ops listed → lst listed (c - 1) = true
  | [], k, m, mf, c, ds, _, ho, _, _, _, listed, hsz, _, i, hi, hr => by
    obtain ⟨_, o, h2, _⟩ := (ready_iff hsz).1 hr
    have hlt := (Array.getElem?_eq_some_iff.1 h2).1
    have := List.drop_eq_nil_iff.1 ho.symm
    simp at this; omega
  | o :: os, k, m, mf, c, ds, hd, ho, hds, hc, hck, listed, hsz, hun, i, hi, hr => by
    obtain ⟨hop, hos⟩ := drop_cons ho
    simp only [evDraw] at hd
    obtain ⟨hq, hd⟩ := bif_some hd
    simp only [Bool.and_eq_true, Bool.or_eq_true] at hq
    obtain ⟨⟨⟨q1, _⟩, q3⟩, _⟩ := hq
    have hbar : Nat.testBit (ancOf ops ds o k) (c - 1) = true := by
      rcases q3 with q3 | q3
      · have := Nat.eq_of_beq_eq_true q3; omega
      · exact q3
    have hlt : ∀ j, lst listed j = true → j < ops.size := fun j hj => by
      rcases Nat.lt_or_ge j listed.size with h | h
      · rw [← hsz]; exact h
      · unfold lst at hj; simp [Array.getElem?_eq_none h] at hj
    by_cases e : i = k
    · subst e
      obtain ⟨_, o', h2, h3⟩ := (ready_iff hsz).1 hr
      rw [hop] at h2; cases h2
      obtain ⟨e, h4, h5, _, h6⟩ := anc_bits hbar
      rcases h6 with h6 | ⟨d, h6, _⟩
      · rw [h6]; exact h3 e h4 h5
      · have h7 := h3 e h4 h5
        have h8 := hun e.on (hds _ _ h6) (hlt _ h7)
        rw [h7] at h8; cases h8
    · obtain ⟨want, hw, hd⟩ := some_bind hd
      have hds' : ∀ x, ∀ j d, (j, d) ∈ (k, x) :: ds → c ≤ j := fun x j d hj => by
        rcases List.mem_cons.1 hj with hj | hj
        · cases hj; exact hck
        · exact hds j d hj
      cases want with
      | false => exact later os (k + 1) m mf c _ hd hos (hds' _) hc (by omega) listed hsz hun i (by omega) hr
      | true =>
        simp only [cond_true] at hd
        obtain ⟨so, _, hd⟩ := some_bind hd
        cases so with
        | some r =>
          obtain ⟨_, hd⟩ := bif_some hd
          exact later os (k + 1) m mf c _ hd hos (hds' _) hc (by omega) listed hsz hun i (by omega) hr
        | none =>
          obtain ⟨_, hd⟩ := bif_some hd
          obtain ⟨cl, _, hd⟩ := some_bind hd
          obtain ⟨tgt, _, hd⟩ := some_bind hd
          obtain ⟨m1, _, hd⟩ := some_bind hd
          have := later os (k + 1) m1 mf (k + 1) [] hd hos (fun _ _ h => by cases h) (by omega) (Nat.le_refl _) listed hsz (fun j hj hjs => hun j (by omega) hjs) i (by omega) hr
          have h9 := hun k hck (Array.getElem?_eq_some_iff.1 hop).1
          rw [show k + 1 - 1 = k from rfl, h9] at this
          cases this

theorem draw_main (hE : ∀ t ti, E.ty t = some ti → TyOk P t ti) (hp : PureOk P call) (hH : HeapOk P E callH) (hY : YieldOk P E callY) {Q : Exit → Act → World → Prop} {β0 : Bi} {Gz : Gh} {hz : Nat → Option AObj} {n0 : Nat} :
    ∀ (N c : Nat) (m mf : Mid), ops.size - c ≤ N → c ≤ ops.size → evDraw E call callH callY V nt ops b c (ops.toList.drop c) m c [] = some mf → b + ops.size ≤ m.next → n0 ≤ m.next →
      (∀ a' w' β' G', n0 ≤ mf.next → MM E w0 G0 outer V nt own mf a' w' β' G' → Go2 b β0 Gz β' G' hz mf.objs.get → Q .normal a' w') →
      ∀ (fuel : Nat) (listed : Array Bool) (a : Act) (w : World) (β : Bi) (G : Gh), listed.size = ops.size → (∀ j, j < ops.size → lst listed j = decide (j < c)) → cnt ops.size listed ≤ fuel → MM E w0 G0 outer V nt own m a w β G →
        (∀ j, c ≤ j → j < ops.size → Fresh β m.objs.get (b + j)) → Go2 b β0 Gz β G hz m.objs.get → wpAnyIn (fw ro) n P .any ops Q fuel listed a w := by
  intro N
  induction N with
  | zero =>
    intro c m mf hN hc hd hle hn0 hq fuel listed a w β G hsz hl hcnt hm hfr hgo
    have hcs : c = ops.size := by omega
    rw [List.drop_eq_nil_of_le (by simp; omega)] at hd
    simp only [evDraw, putAll, Option.some.injEq] at hd
    subst hd
    have hr : Region.ready .any ops listed = [] := by
      cases hrr : Region.ready .any ops listed with
      | nil => rfl
      | cons j l =>
        obtain ⟨h1, o, h2, _⟩ := (ready_iff (j := j) hsz).1 (by rw [hrr]; simp)
        have hlt := (Array.getElem?_eq_some_iff.1 h2).1
        rw [hl j hlt] at h1
        simp at h1; omega
    exact wpAnyIn_done hr (hq a w β G hn0 hm hgo) fuel
  | succ N ih =>
    intro c m mf hN hc hd hle hn0 hq fuel listed a w β G hsz hl hcnt hm hfr hgo
    obtain ⟨k2, ds, hseg, hck2, hend⟩ := draw_split _ c m mf c [] hd rfl rfl hc
    have hk2s : k2 ≤ ops.size := by
      rcases hend with ⟨h, _⟩ | ⟨o, m1, h⟩
      · omega
      · exact Nat.le_of_lt (Array.getElem?_eq_some_iff.1 h.op).1
    have hmem := (seg_lt hseg).2
    have key : ∀ (fuel : Nat) (listed : Array Bool) (a : Act) (w : World) (β : Bi) (G : Gh), listed.size = ops.size → (∀ j, j < c → lst listed j = true) → (∀ j, k2 ≤ j → j < ops.size → lst listed j = false) → cnt ops.size listed ≤ fuel →
        DS E w0 G0 outer V nt own ops b c m ds (lst listed) β0 Gz hz a w β G → wpAnyIn (fw ro) n P .any ops Q fuel listed a w := by
      intro fuel
      induction fuel with
      | zero =>
        intro listed a w β G hsz hlo hhi hcnt hst
        have hall := cnt_zero (Nat.le_zero.1 hcnt)
        have hk2e : k2 = ops.size := by
          rcases Nat.lt_or_ge k2 ops.size with h | h
          · have := hhi k2 (Nat.le_refl _) h; rw [hall k2 h] at this; cases this
          · omega
        have hr : Region.ready .any ops listed = [] := by
          cases hrr : Region.ready .any ops listed with
          | nil => rfl
          | cons j l =>
            obtain ⟨h1, o, h2, _⟩ := (ready_iff (j := j) hsz).1 (by rw [hrr]; simp)
            rw [hall j (Array.getElem?_eq_some_iff.1 h2).1] at h1; cases h1
        rcases hend with ⟨_, rfl⟩ | ⟨o, m1, h⟩
        · obtain ⟨f1, f2, f3, _⟩ := hst.full hseg fun j d hj => hall j (by have := (hmem j d hj).2; omega)
          exact ⟨hr, hq a w β G (by rw [f3]; exact hn0) f1 f2⟩
        · have := (Array.getElem?_eq_some_iff.1 h.op).1; omega
      | succ fuel ihf =>
        intro listed a w β G hsz hlo hhi hcnt hst
        refine ⟨fun hr => ?_, fun i hi => ?_⟩
        ·
          have hall : ∀ j, j < k2 → lst listed j = true := fun j => by
            induction j using Nat.strongRecOn with
            | _ j ihj =>
              intro hj
              rcases Nat.lt_or_ge j c with h | h
              · exact hlo j h
              · obtain ⟨d, tl, o, _, h2, _⟩ := seg_at hseg j h hj
                cases hlj : lst listed j with
                | true => rfl
                | false =>
                  have : j ∈ Region.ready .any ops listed := (ready_iff hsz).2 ⟨hlj, o, h2.op, fun e he hb => ihj e.on (h2.edges e he hb) (by have := h2.edges e he hb; omega)⟩
                  rw [hr] at this; cases this
          rcases hend with ⟨hk, rfl⟩ | ⟨o, m1, h⟩
          · obtain ⟨f1, f2, f3, _⟩ := hst.full hseg fun j d hj => hall j (hmem j d hj).2
            exact hq a w β G (by rw [f3]; exact hn0) f1 f2
          · have hlk := hhi k2 (Nat.le_refl _) (Array.getElem?_eq_some_iff.1 h.op).1
            have : k2 ∈ Region.ready .any ops listed := (ready_iff hsz).2 ⟨hlk, o, h.op, fun e he hb => hall e.on (h.edges e he hb)⟩
            rw [hr] at this; cases this
        · obtain ⟨hli, o, hoi, hed⟩ := (ready_iff hsz).1 hi
          have hilt := (Array.getElem?_eq_some_iff.1 hoi).1
          have hci : c ≤ i := by
            rcases Nat.lt_or_ge i c with h | h
            · rw [hlo i h] at hli; cases hli
            · exact h
          have hset := lst_set (listed := listed) (i := i) (by omega)
          have hcnt' : cnt ops.size (listed.setIfInBounds i true) ≤ fuel := by
            have := cnt_set (listed := listed) (i := i) (by omega) hli
            rw [hsz] at this; omega
          rcases Nat.lt_trichotomy i k2 with hik | hik | hik
          · refine op_step hE hp hseg hci hik hk2s hle hli hset hlo hoi hed hst fun a' w' β' G' hst' => ?_
            refine ihf _ a' w' β' G' (by simpa using hsz) (fun j hj => ?_) (fun j hj hjs => ?_) hcnt' hst'
            · rw [hset]; split
              · rfl
              · exact hlo j hj
            · rw [hset, if_neg (by omega)]; exact hhi j hj hjs
          · subst hik
            rcases hend with ⟨hk, _⟩ | ⟨o', m1, hbar⟩
            · omega
            · have : o' = o := by have := hbar.op; rw [hoi] at this; cases this; rfl
              subst this
              have hall : ∀ j d, (j, d) ∈ ds → lst listed j = true := fun j d hj => anc_done hst.down (fun _ h => h) hed j (hbar.all _ hj)
              obtain ⟨f1, f2, f3, f4⟩ := hst.full hseg hall
              have hwant := wanted_sound f1.fr (o := o') (ops := ops) (want := true) (by
                have h1 : wantedD ops (seenL (lst listed) (slotOf V m.base m.loc) ds) o' = some true :=
                  wanted_view (fun t v _ hv => seen_tail (anc_done hst.down (fun _ h => h) hed) hv) hbar.wanted
                have h2 : slotOf V (putAll V nt ds m).base (putAll V nt ds m).loc = seenL (lst listed) (slotOf V m.base m.loc) ds := funext fun t => ((putAll_view hseg hall).1 t).symm
                rw [h2]; exact h1)
              unfold wpOpIn
              rw [hoi]
              simp only [hwant, if_true]
              obtain ⟨cl, tgt, r1, r2, r3⟩ := hbar.run
              refine impure_sound hH hY f1 r1 r2 r3 fun a' w' β' G' g1 g2 g3 => ?_
              rw [f3] at g1 g3
              refine ih (i + 1) m1 mf (by omega) hilt hbar.next (by omega) (by omega) hq fuel _ a' w' β' G' (by simpa using hsz) (fun j hj => ?_) hcnt' g2 (fun j hj hjs => ?_) (f2.trans (g3.less (by omega)))
              · rw [hset]
                by_cases e : j = i
                · subst e; simp
                · rw [if_neg e]
                  rcases Nat.lt_or_ge j i with h | h
                  · have : lst listed j = true := by
                      rcases Nat.lt_or_ge j c with h' | h'
                      · exact hlo j h'
                      · obtain ⟨d, _, _, h2, _⟩ := seg_at hseg j h' h
                        exact hall j d h2
                    rw [this]; simp; omega
                  · rw [hhi j h hj]; simp; omega
              · exact g3.stay _ (by omega) (f4 _ (hst.un j (by omega) hjs (hhi j (by omega) hjs)))
          ·
            exfalso
            rcases hend with ⟨hk, _⟩ | ⟨o', m1, hbar⟩
            · omega
            · have hk2l := hhi k2 (Nat.le_refl _) (by omega)
              have := later _ (k2 + 1) m1 mf (k2 + 1) [] hbar.next rfl (fun _ _ h => by cases h) (by omega) (Nat.le_refl _) listed hsz (fun j hj hjs => hhi j (by omega) hjs) i (by omega) hi
              rw [show k2 + 1 - 1 = k2 from rfl, hk2l] at this
              cases this
    have hL0 : ∀ j, c ≤ j → j < ops.size → lst listed j = false := fun j hj hjs => by rw [hl j hjs]; simp; omega
    have hno : ∀ i e, (i, e) ∈ ds → lst listed i = false := fun i e hi => hL0 i (hmem i e hi).1 (by have := (hmem i e hi).2; omega)
    have e1 : ∀ t, seenL (lst listed) (slotOf V m.base m.loc) ds t = slotOf V m.base m.loc t := fun t => by
      have : ∀ (l : List (Nat × Done)), (∀ i e, (i, e) ∈ l → lst listed i = false) → seenL (lst listed) (slotOf V m.base m.loc) l t = slotOf V m.base m.loc t := fun l => by
        induction l with
        | nil => intro _; rfl
        | cons p l ihl =>
          intro h
          obtain ⟨i, e⟩ := p
          simp only [seenL, h i e (by simp), Bool.false_eq_true, false_and, if_false]
          exact ihl fun i e hi => h i e (by simp [hi])
      exact this ds hno
    have e2 : ∀ id, hL (lst listed) m.objs.get ds id = m.objs.get id := fun id => by
      have : ∀ (l : List (Nat × Done)), (∀ i e, (i, e) ∈ l → lst listed i = false) → hL (lst listed) m.objs.get l id = m.objs.get id := fun l => by
        induction l with
        | nil => intro _; rfl
        | cons p l ihl =>
          intro h
          obtain ⟨i, e⟩ := p
          simp only [hL, h i e (by simp), Bool.false_eq_true, if_false]
          exact ihl fun i e hi => h i e (by simp [hi])
      exact this ds hno
    have hF : ∀ id, Fresh β m.objs.get id → Fresh β (hL (lst listed) m.objs.get ds) id := fun id h => ⟨h.blk, h.hdr, by rw [e2]; exact h.h⟩
    refine key fuel listed a w β G hsz (fun j hj => by rw [hl j (by omega)]; simp [hj]) (fun j hj hjs => hL0 j (by omega) hjs) hcnt
      ⟨fun t d ht => hm.fr t d (by rw [← e1]; exact ht), hm.dom, hm.sz, hm.hr.eq e2, fun id hid => hF id (hm.fresh id hid), hm.df, fun j hj hjs _ => hF _ (hfr j hj hjs), fun j d hj hlj => (by rw [hno j d hj] at hlj; cases hlj), ⟨hgo.ext, fun id hid h => hF id (hgo.stay id hid h)⟩⟩

theorem draw_sound (hE : ∀ t ti, E.ty t = some ti → TyOk P t ti) (hp : PureOk P call) (hH : HeapOk P E callH) (hY : YieldOk P E callY) {Q : Exit → Act → World → Prop} {mf : Mid}
    (hd : evDraw E call callH callY V nt ops b 0 ops.toList m 0 [] = some mf) (hle : b + ops.size ≤ m.next) (hfr : ∀ j, j < ops.size → Fresh β m.objs.get (b + j)) (hm : MM E w0 G0 outer V nt own m a w β G)
    (hq : ∀ a' w' β' G', m.next ≤ mf.next → MM E w0 G0 outer V nt own mf a' w' β' G' → Go2 b β G β' G' m.objs.get mf.objs.get → Q .normal a' w') :
    wpAnyIn (fw ro) n P .any ops Q ops.size (Array.replicate ops.size false) a w :=
  draw_main hE hp hH hY ops.size 0 m mf (by omega) (Nat.zero_le _) (by simpa using hd) hle (Nat.le_refl _) hq ops.size _ a w β G (by simp) (fun j hj => by unfold lst; simp [hj])
    (by unfold cnt; exact Nat.le_trans (List.countP_le_length) (by simp)) hm (fun j _ hj => hfr j hj) (Go2.refl _ _ _ _)

end
end Go.Ab
