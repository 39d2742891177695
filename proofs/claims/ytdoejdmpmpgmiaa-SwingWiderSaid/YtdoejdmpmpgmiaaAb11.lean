/- Operations, continued: rows laid and grown; elements; maps; strings. -/
import Derived.Test.YtdoejdmpmpgmiaaAb10
set_option linter.unusedSectionVars false
set_option linter.unusedVariables false
set_option linter.unusedSimpArgs false
namespace Go.Ab
open Go.RowKit

section
variable {P : Program} {E : Env} {w0 : World} {G0 : Gh} {D : List Nat} {o : Oper} {a : Act} {w : World} {β : Bi} {G : Gh} {h : Nat → Option AObj} {nid : Nat} {ρ : Nat → Option DV}

theorem eszOf_eq {t : TypeId} {ti : TI} (ht : E.ty t = some ti) : eszOf E t = ti.size := by simp [eszOf, ht]

/-- A header's block is named by it alone. -/
theorem owns_row {id : Nat} {t : TypeId} {es : List (List DV)} {p u : Nat} {hdr : Value} (h1 : β.hdr id u = some hdr) {base e : Nat} {n : Nat} {xs : List Value} {size : Nat} (h2 : w.ownsRow base e size hdr n xs) (b : Nat) :
    Owns β id (.row t es p u) b ↔ hdr.ownBlock = some b := by
  constructor
  · rintro ⟨n', c, hb⟩
    rw [h1] at hb; cases hb; rfl
  · intro hb
    obtain ⟨c, hc⟩ := ownBlock_form h2 hb
    exact ⟨n, c, by rw [h1, hc]⟩

def setHdr (β : Bi) (id u : Nat) (v : Value) : Bi := { β with hdr := fun i x => if i = id ∧ x = u then some v else β.hdr i x }

theorem setHdr_ext {id u : Nat} {v : Value} (hn : β.hdr id u = none) : Ext β G (setHdr β id u v) G :=
  ⟨fun _ _ _ h => h, fun _ _ h => h, fun i x y hy => by
    by_cases e : i = id ∧ x = u
    · obtain ⟨rfl, rfl⟩ := e; rw [hn] at hy; cases hy
    · simp [setHdr, e, hy]⟩

/-- A row in a new block, for a new number. -/
theorem row_lay (hh : HR E w0 G0 D w β G h) (hf : Fresh β h nid) {w' : World} {hdr : Value} {t : TypeId} {es : List (List DV)} {vals : List Value}
    (hg : w.grownBy w' none) (hown : w'.ownsRow w0.heap.size t (eszOf E t) hdr es.length vals) (hblk : ∀ b, hdr.ownBlock = some b → b = w.heap.size) (hsl : ∃ a n c, hdr = .slice a n c)
    (hr : RepL β G es.flatten vals) (hes : ∀ c ∈ es, c.length = eszOf E t ∧ idfrees c = true ∧ c.all isCell = true) (hsz : 0 < eszOf E t) :
    ∃ β', Ext β G β' G ∧ Rep β' G (.rs nid 0) hdr ∧ HR E w0 G0 D w' β' G (updF h [(nid, some (.row t es 0 0))]) ∧ Kept β β' h (updF h [(nid, some (.row t es 0 0))]) nid := by
  have hx : Ext β G (setHdr β nid 0 hdr) G := setHdr_ext (hf.hdr 0)
  have hhd : (setHdr β nid 0 hdr).hdr nid 0 = some hdr := by simp [setHdr]
  refine ⟨setHdr β nid 0 hdr, hx, rep_rs.2 ⟨hhd, hsl⟩, ?_, ?_⟩
  · refine hh.move (fun b => w.heap.size ≤ b) nid _ hx (hh.below.grown hg hh.below.size (fun _ e => by cases e)) (fun b hb hlt => hg.block b hlt (by simp)) (fun _ _ => rfl) hg.size ?_ ?_ ?_ ?_ ?_ ?_ ?_
    · intro b hb
      refine ⟨Nat.le_trans hh.below.size hb, fun hd => ?_⟩
      have := (Array.getElem?_eq_some_iff.1 (hh.marks _ hd).2).1
      omega
    · intro b id' o2 hb ho2 hob
      have := (hh.own id' o2 _ ho2 hob).2.1
      omega
    · intro b hb o v hgv
      rw [glt hh hb] at hgv; cases hgv
    · refine ⟨hdr, vals, hhd, hown, RepL.mono hx _ _ hr, hes, ⟨hsz, pn_le _ _⟩, fun b hb o _ => ?_, fun u' hu' => ?_⟩
      · rw [hblk b hb]; exact glt hh (Nat.le_refl _) o
      · have : ¬ u' = 0 := by omega
        simp only [setHdr, this, and_false, if_false]
        exact hf.hdr u'
    · intro b hb
      rw [owns_row hhd hown] at hb
      left; rw [hblk b hb]; exact Nat.le_refl _
    · intro b hb
      rw [owns_row hhd hown] at hb
      exact (hown.lt b hb).2
    · intro i hi
      exact ⟨rfl, fun u => by simp [setHdr, hi]⟩
  · intro i hi hfr
    exact ⟨hfr.blk, fun u => by simp [setHdr, hi, hfr.hdr u], by rw [updF_one, if_neg hi]; exact hfr.h⟩

/-- A row grows. -/
theorem row_grow (hh : HR E w0 G0 D w β G h) {id : Nat} {w' : World} {v v' : Value} {row : Option Nat} {t : TypeId} {es xs : List (List DV)} {p u : Nat} {vals news : List Value}
    (ho : h id = some (.row t es p u)) (hv : β.hdr id u = some v) (hold : w.ownsRow w0.heap.size t (eszOf E t) v es.length vals) (hrep : RepL β G es.flatten vals)
    (hg : w.grownBy w' row) (hown : w'.ownsRow w0.heap.size t (eszOf E t) v' (es.length + xs.length) (vals ++ news))
    (hrow : row = none ∧ (v'.ownBlock = some w.heap.size ∨ v' = v) ∨ row = v.ownBlock ∧ v'.ownBlock = v.ownBlock)
    (hn : RepL β G xs.flatten news) (hxs : ∀ c ∈ xs, c.length = eszOf E t ∧ idfrees c = true ∧ c.all isCell = true) :
    ∃ β', Ext β G β' G ∧ Rep β' G (.rs id (u + 1)) v' ∧ HR E w0 G0 D w' β' G (updF h [(id, some (.row t (es ++ xs) p (u + 1)))]) ∧ Kept β β' h (updF h [(id, some (.row t (es ++ xs) p (u + 1)))]) nid := by
  obtain ⟨hdr, vals', h1, h2, h3, h4, h5, h6, h7⟩ := hh.obj id _ ho
  rw [hv] at h1; cases h1
  have hx : Ext β G (setHdr β id (u + 1) v') G := setHdr_ext (h7 (u + 1) (by omega))
  have hhd : (setHdr β id (u + 1) v').hdr id (u + 1) = some v' := by simp [setHdr]
  have hsl : ∃ a n c, v' = .slice a n c := by
    rcases hown.2 with ⟨e, _⟩ | ⟨g, cap, cur, e, _⟩ <;> exact ⟨_, _, _, e⟩
  have hrowT : ∀ b, row = some b → v.ownBlock = some b := fun b hb => by
    rcases hrow with ⟨e, _⟩ | ⟨e, _⟩
    · rw [e] at hb; cases hb
    · rw [← e]; exact hb
  have hblk : ∀ b, v'.ownBlock = some b → b = w.heap.size ∨ v.ownBlock = some b := fun b hb => by
    rcases hrow with ⟨_, e | e⟩ | ⟨_, e⟩
    · rw [e] at hb; cases hb; exact .inl rfl
    · subst e; exact .inr hb
    · right; rw [← e]; exact hb
  refine ⟨setHdr β id (u + 1) v', hx, rep_rs.2 ⟨hhd, hsl⟩, ?_, ?_⟩
  · refine hh.move (fun b => w.heap.size ≤ b ∨ row = some b) id _ hx (hh.below.grown hg hh.below.size (fun k e => (hold.lt k (hrowT k e)).1))
      (fun b hb hlt => hg.block b hlt (fun e => hb (.inr e.symm))) (fun _ _ => rfl) hg.size ?_ ?_ ?_ ?_ ?_ ?_ ?_
    · rintro b (hb | hb)
      · refine ⟨Nat.le_trans hh.below.size hb, fun hd => ?_⟩
        have := (Array.getElem?_eq_some_iff.1 (hh.marks _ hd).2).1
        omega
      · have hob : Owns β id (.row t es p u) b := (owns_row hv hold b).2 (hrowT b hb)
        exact ⟨(hh.own id _ b ho hob).1, (hh.own id _ b ho hob).2.2⟩
    · rintro b id' o2 (hb | hb) ho2 hob
      · have := (hh.own id' o2 _ ho2 hob).2.1
        omega
      · exact hh.inj id' id o2 _ b ho2 ho hob ((owns_row hv hold b).2 (hrowT b hb))
    · rintro b (hb | hb) off x hgx
      · rw [glt hh hb] at hgx; cases hgx
      · have hvb := hrowT b hb
        have hv'b : v'.ownBlock = some b := by
          rcases hrow with ⟨e, _⟩ | ⟨_, e⟩
          · rw [e] at hb; cases hb
          · rw [e]; exact hvb
        have hoff : off < vals.length := by
          have hlt : off < pn p es.length * eszOf E t := by
            rcases Nat.lt_or_ge off (pn p es.length * eszOf E t) with hlt | hge
            · exact hlt
            · rw [h6 b hvb off hge] at hgx; cases hgx
          have := Nat.mul_le_mul_right (eszOf E t) h5.2
          rw [hold.1]; omega
        have hc := hold.cells hvb off (vals[off]) (by simp [hoff])
        rw [addr_add, Nat.zero_add] at hc
        have := hh.agree b off x hgx
        rw [hc] at this
        cases this
        have hc' := hown.cells hv'b off (vals[off]) (by rw [List.getElem?_append_left hoff]; simp [hoff])
        rwa [addr_add, Nat.zero_add] at hc'
    · refine ⟨v', vals ++ news, hhd, by rw [List.length_append]; exact hown, ?_, ?_, ⟨h5.1, pn_le _ _⟩, ?_, ?_⟩
      · rw [List.flatten_append]
        exact repL_append.2 ⟨_, _, rfl, RepL.mono hx _ _ hrep, RepL.mono hx _ _ hn⟩
      · intro c hc
        rcases List.mem_append.1 hc with hc | hc
        · exact h4 c hc
        · exact hxs c hc
      · intro b hb off hoff
        rcases hblk b hb with rfl | hvb
        · exact glt hh (Nat.le_refl _) off
        · exact h6 b hvb off (Nat.le_trans (Nat.mul_le_mul_right _ (pn_mono p (by rw [List.length_append]; omega))) hoff)
      · intro u' hu'
        have : ¬ u' = u + 1 := by omega
        simp only [setHdr, this, and_false, if_false]
        exact h7 u' (by omega)
    · intro b hb
      rw [owns_row hhd hown] at hb
      rcases hblk b hb with rfl | hvb
      · exact .inl (.inl (Nat.le_refl _))
      · exact .inr ⟨_, ho, (owns_row hv hold b).2 hvb⟩
    · intro b hb
      rw [owns_row hhd hown] at hb
      exact (hown.lt b hb).2
    · intro i hi
      exact ⟨rfl, fun x => by simp [setHdr, hi]⟩
  · intro i hi hfr
    have hne : i ≠ id := by rintro rfl; rw [hfr.h] at ho; cases ho
    exact ⟨hfr.blk, fun x => by simp [setHdr, hne, hfr.hdr x], by rw [updF_one, if_neg hne]; exact hfr.h⟩

theorem flat_len {e : Nat} : ∀ {xs : List (List DV)}, (∀ c ∈ xs, c.length = e) → xs.flatten.length = xs.length * e
  | [], _ => by simp
  | y :: ys, h => by
    have ih := flat_len (xs := ys) (fun c hc => h c (by simp [hc]))
    rw [List.flatten_cons, List.length_append, ih, h y (by simp), List.length_cons, Nat.add_mul, Nat.one_mul, Nat.add_comm]

theorem append_sound (hE : ∀ t ti, E.ty t = some ti → TyOk P t ti) (hh : HR E w0 G0 D w β G h) (hf : Fresh β h nid) {t ty : TypeId} {ds dx : DV} {s x : Value} (hs : Rep β G ds s) (hx : Rep β G dx x) {r : Out}
    (hd : appendD E nid h t ds dx = some r) :
    ∃ v w' β', (Builtin.append_ #[t, t] ty #[s, x]).run P w = .ok v w' ∧ (∀ d, r.val = some d → Rep β' G d v) ∧ Ext β G β' G ∧ HR E w0 G0 D w' β' G (updF h r.upd) ∧ Kept β β' h (updF h r.upd) nid := by
  unfold appendD at hd
  obtain ⟨ti, hti, hd⟩ := some_bind hd
  have htd := (hE t ti hti).desc
  split at hd
  · rename_i e hk
    rw [hk] at htd
    obtain ⟨ei, hei, hd⟩ := some_bind hd
    obtain ⟨xs, hxs, hd⟩ := some_bind hd
    have hpos := (bif_some hd).1
    replace hd := (bif_some hd).2
    simp only [Bool.and_eq_true] at hpos
    have hby2 := Nat.le_of_ble_eq_true hpos.2
    have hpos : 0 < ei.size := Nat.le_of_ble_eq_true hpos.1
    have hesz := eszOf_eq hei
    obtain ⟨A, c, rfl, _, hsrc⟩ := elems_sound hh hxs hx
    have hall : ∀ {xs : List (List DV)}, (xs.all fun c => Nat.beq c.length ei.size) = true → ∀ c ∈ xs, c.length = ei.size := fun h c hc => Nat.eq_of_beq_eq_true (List.all_eq_true.1 h c hc)
    have src : (xs.all fun c => Nat.beq c.length ei.size) = true → ∃ news, news.length = xs.length * ei.size ∧ RepL β G xs.flatten news ∧ (∀ u ∈ news, u.oneCell' = true) ∧
        (xs.length = 0 ∨ ∃ b off, A = some ⟨b, off, none⟩ ∧ ∀ j u, news[j]? = some u → w.cell? ⟨b, off + j, none⟩ = some u) ∧ (∀ c ∈ xs, idfrees c = true ∧ c.all isCell = true) := fun hal => by
      rcases hsrc with rfl | ⟨b, off, e', vals, hA, h1, h2, h3⟩
      · exact ⟨[], by simp, repL_nil.2 rfl, by simp, .inl rfl, by simp⟩
      · have hfl : xs.flatten.length = xs.length * ei.size := flat_len (hall hal)
        refine ⟨vals, by rw [repL_len h2, hfl], h2, repL_cells ?_ h2, .inr ⟨b, off, hA, h3⟩, fun c hc => (h1 c hc).2⟩
        rw [List.all_eq_true]
        intro y hy
        obtain ⟨c, hc, hy⟩ := List.mem_flatten.1 hy
        exact List.all_eq_true.1 (h1 c hc).2.2 y hy
    cases ds with
    | nils =>
      simp only at hd
      rw [rep_nils] at hs; subst hs
      split at hd
      · cases hd
        refine ⟨.slice none 0 0, w, β, ?_, fun d hd => by cases hd; exact rep_nils.2 rfl, Ext.refl β G, by rw [updF_nil]; exact hh, Kept.refl β h nid⟩
        obtain ⟨i, z, hi, hs', _⟩ := (hE e ei hei).info
        cases A <;> simp [Builtin.append_, Go.run_underlying htd, sizeOf, typeInfo, hi, Builtin.lenOf, Builtin.firstCells, loadCells, loadCellsFrom]
      · skip
        obtain ⟨hq, hdx⟩ := bif_some hd
        clear hd
        cases hdx
        simp only [Bool.and_eq_true] at hq
        obtain ⟨news, k1, k2, k3, k4, k5⟩ := src hq.1
        have hown : w.ownsRow w0.heap.size e ei.size (.slice none 0 0) 0 [] := ⟨by simp, .inl ⟨rfl, rfl⟩⟩
        have hle := Nat.le_of_ble_eq_true hq.2
        obtain ⟨v', w', row, hr, ho', hg, hrow⟩ := append_run (P := P) (ty := ty) (c := c) htd (hE e ei hei) hown k1 k4 k3 (by rw [Nat.zero_add]; exact hle) hby2 hh.below.size
        rw [Nat.zero_add, List.nil_append] at ho'
        have hg' : w.grownBy w' none := by
          rcases hrow with ⟨e1, _⟩ | ⟨e1, _⟩ <;> rw [e1] at hg <;> exact hg
        have hb : ∀ b, v'.ownBlock = some b → b = w.heap.size := fun b hb => by
          rcases hrow with ⟨_, e1 | e1⟩ | ⟨_, e1⟩
          · rw [e1] at hb; cases hb; rfl
          · rw [e1] at hb; cases hb
          · rw [e1] at hb; cases hb
        have hsl : ∃ a n c, v' = .slice a n c := by
          rcases ho'.2 with ⟨e1, _⟩ | ⟨g, cap, cur, e1, _⟩ <;> exact ⟨_, _, _, e1⟩
        obtain ⟨β', m1, m2, m3, m4⟩ := row_lay hh hf hg' (by rw [hesz]; exact ho') hb hsl k2 (fun c hc => ⟨by rw [hesz]; exact hall hq.1 c hc, (k5 c hc).1, (k5 c hc).2⟩) (by rw [hesz]; exact hpos)
        exact ⟨v', w', β', hr, fun d hd => by cases hd; exact m2, m1, m3, m4⟩
    | rs id ver =>
      simp only at hd
      obtain ⟨ob, ho, hd⟩ := some_bind hd
      split at hd
      · rename_i e' es p u
        obtain ⟨hq, hd2⟩ := bif_some hd
        clear hd
        cases hd2
        simp only [Bool.and_eq_true] at hq
        obtain ⟨⟨⟨hu, he⟩, hal⟩, hle⟩ := hq
        have hu : u = ver := Nat.eq_of_beq_eq_true hu
        have he : e' = e := Nat.eq_of_beq_eq_true he
        subst hu he
        obtain ⟨news, k1, k2, k3, k4, k5⟩ := src hal
        obtain ⟨hv, _⟩ := rep_rs.1 hs
        obtain ⟨hdr, vals, h1, h2, h3, h4, h5, h6, h7⟩ := hh.obj id _ ho
        rw [hv] at h1; cases h1
        have h2' := h2
        rw [hesz] at h2'
        obtain ⟨v', w', row, hr, ho', hg, hrow⟩ := append_run (P := P) (ty := ty) (c := c) htd (hE e' ei hei) h2' k1 k4 k3 (Nat.le_of_ble_eq_true hle) hby2 hh.below.size
        obtain ⟨β', m1, m2, m3, m4⟩ := row_grow (nid := nid) (xs := xs) (news := news) hh ho hv h2 h3 hg (by rw [hesz]; exact ho') hrow k2 (fun c hc => ⟨by rw [hesz]; exact hall hal c hc, (k5 c hc).1, (k5 c hc).2⟩)
        exact ⟨v', w', β', hr, fun d hd => by cases hd; exact m2, m1, m3, m4⟩
      · cases hd
    | _ => cases hd
  · cases hd

end
end Go.Ab
