/- Operations, continued: slices written out and cut; elements; maps; strings. -/
import Derived.Test.YtdoejdmpmpgmiaaAb11
set_option linter.unusedSectionVars false
set_option linter.unusedVariables false
set_option linter.unusedSimpArgs false
namespace Go.Ab
open Go.RowKit

section
variable {P : Program} {E : Env} {w0 : World} {G0 : Gh} {D : List Nat} {o : Oper} {a : Act} {w : World} {β : Bi} {G : Gh} {h : Nat → Option AObj} {nid : Nat} {ρ : Nat → Option DV}

theorem fill_dense {size : Nat} : ∀ (ps : List (Nat × Value)) (k : Nat) (base : Array Value), (∀ j p, ps[j]? = some p → p.1 = k + j ∧ p.2.cells.size = size) → (k + ps.length) * size ≤ base.size →
    ∃ out, Instr.fill (fun i => some (i * size, size)) base ps = some out ∧ out.size = base.size ∧ out.toList.take ((k + ps.length) * size) = base.toList.take (k * size) ++ ps.flatMap (fun p => p.2.cells.toList)
  | [], k, base, _, _ => ⟨base, rfl, rfl, by simp⟩
  | (i, v) :: ps, k, base, hp, hs => by
    obtain ⟨h1, h2⟩ := hp 0 (i, v) rfl
    simp only [Nat.add_zero] at h1 h2
    subst h1
    have hmul : (i + ((i, v) :: ps).length) * size = i * size + size + ps.length * size := by
      simp only [List.length_cons]; rw [show i + (ps.length + 1) = i + 1 + ps.length by omega, Nat.add_mul, Nat.add_mul, Nat.one_mul]
    have hfo := fold_set_arr v.cells (i * size) base (by rw [h2]; omega)
    obtain ⟨out, h3, h4, h5⟩ := fill_dense ps (i + 1) (v.cells.zipIdx.foldl (fun cs (c, j) => cs.setIfInBounds (i * size + j) c) base)
      (fun j p hj => by
        obtain ⟨k1, k2⟩ := hp (j + 1) p (by simpa using hj)
        exact ⟨by omega, k2⟩)
      (by
        have hsz : (v.cells.zipIdx.foldl (fun cs (c, j) => cs.setIfInBounds (i * size + j) c) base).size = base.size := by
          rw [← Array.length_toList, hfo]; simp; omega
        rw [hsz, Nat.add_mul, Nat.add_mul, Nat.one_mul]; omega)
    have hsz : (v.cells.zipIdx.foldl (fun cs (c, j) => cs.setIfInBounds (i * size + j) c) base).size = base.size := by
      rw [← Array.length_toList, hfo]; simp; omega
    refine ⟨out, ?_, h4.trans hsz, ?_⟩
    · have hn : (v.cells.size ≠ size || i * size + v.cells.size > base.size) = false := by simp; omega
      simp only [Instr.fill, hn, Bool.false_eq_true, if_false]
      exact h3
    · rw [show i + ((i, v) :: ps).length = i + 1 + ps.length by simp; omega, h5, hfo]
      have hl : (base.toList.take (i * size)).length = i * size := by simp; omega
      rw [Nat.add_mul, Nat.one_mul, List.append_assoc]
      simp only [List.flatMap_cons, ← List.append_assoc]
      congr 1
      rw [List.append_assoc, List.take_append, hl, List.take_of_length_le (by rw [hl]; omega), show i * size + size - i * size = size by omega, List.take_append]
      simp [h2]
      exact List.take_of_length_le (by simp [h2])

/-- Rows named by cells. -/
theorem rowsOf_cells (d : DV) : rowsOfs (cellsOf d) = rowsOf d := by
  cases d <;> simp [cellsOf, rowsOf, rowsOfs]

theorem rowsD_sound {h' : Nat → Option AObj} {G' : Gh} (hx : Ext β G β G') (hsame : ∀ i t es p u, h i = some (.row t es p u) → ∃ p', h' i = some (.row t es p' u)) {size : Nat} :
    ∀ {ds : List (Nat × DV)} {ps : List (Nat × Value)} {k : Nat} {es : List (List DV)}, PartsR β G ds ps → (∀ i ∈ rowsOfs (ds.map (·.2)), Shown E β G' h' i) → rowsD h size k ds = some es →
      RepL β G' es.flatten (ps.flatMap fun p => p.2.cells.toList) ∧ (∀ c ∈ es, c.length = size ∧ idfrees c = true ∧ c.all isCell = true) ∧ es.length = ps.length ∧ ∀ j p, ps[j]? = some p → p.1 = k + j ∧ p.2.cells.size = size
  | [], ps, k, es, hp, _, hd => by
    simp only [PartsR] at hp; subst hp
    simp only [rowsD, Option.some.injEq] at hd; subst hd
    exact ⟨repL_nil.2 rfl, by simp, rfl, by simp⟩
  | (i, d) :: ds, _, k, es, ⟨v, ps', hps, hv, hp⟩, hs, hd => by
    subst hps
    simp only [rowsD] at hd
    obtain ⟨hq, hd⟩ := bif_some hd
    simp only [Bool.and_eq_true] at hq
    obtain ⟨c, hc, hd⟩ := some_bind hd
    obtain ⟨hall, hd⟩ := bif_some hd
    obtain ⟨r, hr, hd⟩ := some_bind hd
    cases hd
    have hi : i = k := Nat.eq_of_beq_eq_true hq.1
    have hl : (cellsOf d).length = size := Nat.eq_of_beq_eq_true hq.2
    subst hi
    have hrc := rep_cells hv
    obtain ⟨k1, k2⟩ := frzs_rep (E := E) hx hsame hc (fun j hj => hs j (by rw [rowsOf_cells] at hj; simp [rowsOfs, hj])) hrc
    obtain ⟨m1, m2, m3, m4⟩ := rowsD_sound hx hsame hp (fun j hj => hs j (by simp [rowsOfs, hj])) hr
    have hcl : c.length = size := by have := repL_len k1; have := repL_len hrc; omega
    refine ⟨?_, ?_, by simp [m3], ?_⟩
    · rw [List.flatten_cons, List.flatMap_cons]
      exact repL_append.2 ⟨_, _, rfl, k1, m1⟩
    · intro x hx
      rcases List.mem_cons.1 hx with rfl | hx
      · exact ⟨hcl, k2, hall⟩
      · exact m2 x hx
    · intro j p hj
      cases j with
      | zero =>
        simp at hj; subst hj
        have := repL_len hrc
        refine ⟨by simp, ?_⟩
        show v.cells.size = size
        rw [← hl, ← this]; simp
      | succ j =>
        obtain ⟨n1, n2⟩ := m4 j p (by simpa using hj)
        exact ⟨by omega, n2⟩

theorem updF_front {id : Nat} {x : Option AObj} {us : List (Nat × Option AObj)} (hn : updFind id us = none) (i : Nat) : updF h ((id, x) :: us) i = updF (updF h us) [(id, x)] i := by
  rw [updF_cons, updF_one]
  unfold updF
  by_cases e : i = id
  · subst e; rw [hn]
  · simp only [e, if_false]; cases updFind i us <;> rfl

theorem buildSlice_sound (hE : ∀ t ti, E.ty t = some ti → TyOk P t ti) (hf : FrM β G ρ a.tmps) (hh : HR E w0 G0 D w β G h) (hfr : Fresh β h nid) {t : TypeId} {n : Nat} {ps : Array (Nat × Operand)} {r : Out}
    (hd : evOp E nid ρ h (.buildSlice t n ps) = some r) :
    ∃ v w' β' G', (Instr.buildSlice t n (ps.map fun (i, x) => (i, a.eval x))).run P w = .ok v w' ∧ (∀ d, r.val = some d → Rep β' G' d v) ∧ Ext β G β' G' ∧ HR E w0 G0 D w' β' G' (updF h r.upd) ∧ Kept β β' h (updF h r.upd) nid := by
  simp only [evOp] at hd
  obtain ⟨ti, hti, hd⟩ := some_bind hd
  have htd := (hE t ti hti).desc
  split at hd
  · rename_i e hk
    rw [hk] at htd
    obtain ⟨ei, hei, hd⟩ := some_bind hd
    obtain ⟨vs, hvs, hd⟩ := some_bind hd
    obtain ⟨es, hes, hd⟩ := some_bind hd
    obtain ⟨hq, hd⟩ := bif_some hd
    cases hd
    simp only [Bool.and_eq_true] at hq
    obtain ⟨⟨hlen, hsm⟩, hpos⟩ := hq
    have hlen : es.length = n := Nat.eq_of_beq_eq_true hlen
    have hsm : n * ei.size ≤ 1048576 := Nat.le_of_ble_eq_true hsm
    have hpos : 0 < ei.size := Nat.le_of_ble_eq_true hpos
    have hesz := eszOf_eq hei
    have hpr := parts_rep hf hvs
    obtain ⟨G1, hx1, hh1, hs1⟩ := show_rows hh (rowsOfs (vs.map (·.2)))
    obtain ⟨k1, k2, k3, k4⟩ := rowsD_sound (E := E) hx1 (show_same h _) hpr hs1 hes
    have hpl : (ps.map fun (i, x) => (i, a.eval x)).toList = ps.toList.map fun (i, x) => (i, a.eval x) := by simp
    obtain ⟨ie, z, hi, hs', hby, hz, hzs, _⟩ := (hE e ei hei).info
    have hnid : updFind nid (showRows h (rowsOfs (vs.map (·.2)))) = none := by
      cases hq : updFind nid (showRows h (rowsOfs (vs.map (·.2)))) with
      | none => rfl
      | some y =>
        obtain ⟨t', es', p', u', m1, _⟩ := showRows_find h _ nid y hq
        rw [hfr.h] at m1; cases m1
    have hfr1 : Fresh β (updF h (showRows h (rowsOfs (vs.map (·.2))))) nid := by
      refine ⟨hfr.blk, hfr.hdr, ?_⟩
      unfold updF; rw [hnid]; exact hfr.h
    have hrun : ∃ cells : Array Value, (Instr.buildSlice t n (ps.map fun (i, x) => (i, a.eval x))).run P w = .ok (.slice (some ⟨w.heap.size, 0, none⟩) n n) (w.alloc (.cells cells e)) ∧ cells.size = n * ei.size ∧
        cells.toList = (ps.toList.map fun (i, x) => (i, a.eval x)).flatMap fun p => p.2.cells.toList := by
      have hpsl : (ps.toList.map fun (i, x) => (i, a.eval x)).length = n := by rw [List.length_map] at k3 ⊢; omega
      obtain ⟨out, n1, n2, n3⟩ := fill_dense (size := ei.size) (ps.toList.map fun (i, x) => (i, a.eval x)) 0 ((Array.range (n * ei.size)).map (z.cells[· % z.cells.size]!)) (by simpa using k4) (by rw [hpsl]; simp)
      have hos : out.size = n * ei.size := by rw [n2]; simp
      have hol : out.toList = (ps.toList.map fun (i, x) => (i, a.eval x)).flatMap fun p => p.2.cells.toList := by
        rw [Nat.zero_add, hpsl, List.take_of_length_le (by rw [Array.length_toList, hos]; exact Nat.le_refl _)] at n3
        simpa using n3
      by_cases h0 : n * ei.size = 0
      · have hn0 : n = 0 := by
          rcases Nat.mul_eq_zero.1 h0 with e1 | e1
          · exact e1
          · omega
        subst hn0
        have hpe : ps.toList = [] := by
          have : ps.toList.length = 0 := by simpa using hpsl
          exact List.eq_nil_of_length_eq_zero this
        have hpa : ps = #[] := by simpa using hpe
        subst hpa
        refine ⟨#[], ?_, by simp, by simp⟩
        simp [Instr.buildSlice, Go.run_underlying htd, sizeOf, typeInfo, hi, Instr.fill, newRow]
        congr 2
        apply Array.ext'
        simp
      · refine ⟨out, ?_, hos, hol⟩
        refine run_buildSlice w t e n _ out ie z htd hi hz (by rw [hs']; omega) (by rw [hs']; exact h0) ?_
        rw [hpl, hs']; exact n1
    obtain ⟨cells, hr, hcs, hcl⟩ := hrun
    have hmax : n ≤ maxLen := by
      have : n ≤ n * ei.size := Nat.le_mul_of_pos_right n hpos
      simp only [maxLen]; omega
    have hown : (w.alloc (.cells cells e)).ownsRow w0.heap.size e (eszOf E e) (.slice (some ⟨w.heap.size, 0, none⟩) n n) es.length cells.toList := by
      rw [hesz, hlen]
      exact World.ownsRow_lit w cells n hh.below.size hmax hcs
    rw [← hcl] at k1
    obtain ⟨β', m1, m2, m3, m4⟩ := row_lay (nid := nid) hh1 hfr1 (World.grownBy_alloc w _ none) hown (by intro b hb; cases hb; rfl) ⟨_, _, _, rfl⟩ k1 (fun c hc => by rw [hesz]; exact k2 c hc) (by rw [hesz]; exact hpos)
    refine ⟨_, _, β', G1, hr, fun d hd => by cases hd; exact m2, hx1.trans m1, m3.eq (updF_front hnid), fun i hi hq => ?_⟩
    have := m4 i hi (show_kept (nid := nid) _ i hi hq)
    exact ⟨this.blk, this.hdr, by rw [updF_front hnid]; exact this.h⟩
  · cases hd

end
end Go.Ab
