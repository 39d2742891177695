/- Operations, continued: structs, arrays and slices written out; fields and elements. -/
import Derived.Test.YtehofdemanfenaaAb7
import Derived.Great.BuildSlice
namespace Go.Ab
open Go.RowKit

section
variable {P : Program} {E : Env} {w0 : World} {G0 : Gh} {D : DD} {o : Oper} {a : Act} {w : World} {β : Bi} {G : Gh} {h : Nat → Option AObj} {nid : Nat} {ρ : Nat → Option DV}

theorem fold_set : ∀ (us : List Value) (off k : Nat) (cells : Array Value), off + k + us.length ≤ cells.size →
    ((us.zipIdx k).foldl (fun cs (c, j) => cs.setIfInBounds (off + j) c) cells).toList = cells.toList.take (off + k) ++ us ++ cells.toList.drop (off + k + us.length)
  | [], off, k, cells, _ => by simp
  | u :: us, off, k, cells, h => by
    have ih := fold_set us off (k + 1) (cells.setIfInBounds (off + k) u) (by simp at h ⊢; omega)
    simp only [List.zipIdx_cons, List.foldl_cons]
    rw [ih]
    have := list_seg_step cells.toList (off + k) u us (by simp at h ⊢; omega)
    simpa [Array.toList_setIfInBounds, Nat.add_assoc] using this

theorem fold_set_arr (us : Array Value) (off : Nat) (cells : Array Value) (h : off + us.size ≤ cells.size) :
    (us.zipIdx.foldl (fun cs (c, j) => cs.setIfInBounds (off + j) c) cells).toList = cells.toList.take off ++ us.toList ++ cells.toList.drop (off + us.size) := by
  have := fold_set us.toList off 0 cells (by simpa using h)
  rw [← Array.foldl_toList, Array.toList_zipIdx]
  simpa using this

def PartsR (β : Bi) (G : Gh) : List (Nat × DV) → List (Nat × Value) → Prop
  | [], ps => ps = []
  | (i, d) :: ds, ps => ∃ v ps', ps = (i, v) :: ps' ∧ Rep β G d v ∧ PartsR β G ds ps'

theorem parts_rep (hf : FrM β G ρ a.tmps) : ∀ {ps : List (Nat × Operand)} {ds : List (Nat × DV)}, partsD ρ ps = some ds → PartsR β G ds (ps.map fun (i, x) => (i, a.eval x))
  | [], ds, hd => by simp only [partsD, Option.some.injEq] at hd; subst hd; rfl
  | (i, x) :: ps, ds, hd => by
    simp only [partsD] at hd
    obtain ⟨d, h1, hd⟩ := some_bind hd
    obtain ⟨ds', h2, h3⟩ := some_bind hd
    cases h3
    exact ⟨_, _, rfl, eval_rep hf h1, parts_rep hf h2⟩

theorem repL_splice {cs us : List DV} {vs xs : List Value} {off : Nat} (hc : RepL β G cs vs) (hu : RepL β G us xs) (hl : off + us.length ≤ cs.length) :
    RepL β G (splice cs off us) (vs.take off ++ xs ++ vs.drop (off + xs.length)) := by
  rw [splice_eq cs off us hl, repL_len hu, List.append_assoc, List.append_assoc]
  exact repL_append.2 ⟨_, _, rfl, repL_take _ hc, repL_append.2 ⟨_, _, rfl, hu, repL_drop _ hc⟩⟩

theorem len_splice {cs us : List DV} {off : Nat} (hl : off + us.length ≤ cs.length) : (splice cs off us).length = cs.length := by
  rw [splice_eq cs off us hl]; simp; omega

theorem fillArray_sound {size : Nat} : ∀ {ds : List (Nat × DV)} {ps : List (Nat × Value)} {cs res : List DV} {vs : Array Value}, PartsR β G ds ps → RepL β G cs vs.toList →
    fillArray size ds cs = some res → ∃ out, Instr.fill (fun i => some (i * size, size)) vs ps = some out ∧ RepL β G res out.toList
  | [], ps, cs, res, vs, hp, hc, hd => by
    simp only [PartsR] at hp; subst hp
    simp only [fillArray, Option.some.injEq] at hd; subst hd
    exact ⟨vs, rfl, hc⟩
  | (i, d) :: ds, _, cs, res, vs, ⟨v, ps', hps, hv, hp⟩, hc, hd => by
    subst hps
    simp only [fillArray] at hd
    obtain ⟨hq, hd⟩ := bif_some hd
    simp only [Bool.and_eq_true] at hq
    have h1 : (cellsOf d).length = size := Nat.eq_of_beq_eq_true hq.1
    have h2 : i * size + size ≤ cs.length := Nat.le_of_ble_eq_true hq.2
    have hcv := rep_cells hv
    have hvl : v.cells.size = size := by have := repL_len hcv; simp at this; omega
    have hvs : vs.size = cs.length := by have := repL_len hc; simpa using this
    have hrep := repL_splice (off := i * size) hc hcv (by omega)
    have hfo := fold_set_arr v.cells (i * size) vs (by omega)
    have hrep2 : RepL β G (splice cs (i * size) (cellsOf d)) (v.cells.zipIdx.foldl (fun cs (c, j) => cs.setIfInBounds (i * size + j) c) vs).toList := by
      rw [hfo]; simpa using hrep
    obtain ⟨out, h3, h4⟩ := fillArray_sound hp hrep2 hd
    refine ⟨out, ?_, h4⟩
    have hn : (v.cells.size ≠ size || i * size + v.cells.size > vs.size) = false := by simp; omega
    simp only [Instr.fill, hn, Bool.false_eq_true, if_false]
    exact h3

theorem fillStruct_sound {fs : List (Nat × Nat)} (place : Nat → Option (Nat × Nat)) (hpl : ∀ i ft off ti, fs[i]? = some (ft, off) → E.ty ft = some ti → place i = some (off, ti.size)) :
    ∀ {ds : List (Nat × DV)} {ps : List (Nat × Value)} {cs res : List DV} {vs : Array Value}, PartsR β G ds ps → RepL β G cs vs.toList →
    fillStruct fs E ds cs = some res → ∃ out, Instr.fill place vs ps = some out ∧ RepL β G res out.toList
  | [], ps, cs, res, vs, hp, hc, hd => by
    simp only [PartsR] at hp; subst hp
    simp only [fillStruct, Option.some.injEq] at hd; subst hd
    exact ⟨vs, rfl, hc⟩
  | (i, d) :: ds, _, cs, res, vs, ⟨v, ps', hps, hv, hp⟩, hc, hd => by
    subst hps
    simp only [fillStruct] at hd
    obtain ⟨⟨ft, off⟩, hf, hd⟩ := some_bind hd
    obtain ⟨ti, hti, hd⟩ := some_bind hd
    obtain ⟨hq, hd⟩ := bif_some hd
    simp only [Bool.and_eq_true] at hq
    have h1 : (cellsOf d).length = ti.size := Nat.eq_of_beq_eq_true hq.1
    have h2 : off + ti.size ≤ cs.length := Nat.le_of_ble_eq_true hq.2
    have hcv := rep_cells hv
    have hvl : v.cells.size = ti.size := by have := repL_len hcv; simp at this; omega
    have hvs : vs.size = cs.length := by have := repL_len hc; simpa using this
    have hrep := repL_splice (off := off) hc hcv (by omega)
    have hfo := fold_set_arr v.cells off vs (by omega)
    have hrep2 : RepL β G (splice cs off (cellsOf d)) (v.cells.zipIdx.foldl (fun cs (c, j) => cs.setIfInBounds (off + j) c) vs).toList := by
      rw [hfo]; simpa using hrep
    obtain ⟨out, h3, h4⟩ := fillStruct_sound place hpl hp hrep2 hd
    refine ⟨out, ?_, h4⟩
    have hn : (v.cells.size ≠ ti.size || off + v.cells.size > vs.size) = false := by simp; omega
    simp only [Instr.fill, hpl i ft off ti hf hti, hn, Bool.false_eq_true, if_false]
    exact h3

theorem mapM_get {α γ : Type} {f : α → Option γ} : ∀ {l : List α} {r : List γ}, l.mapM f = some r → ∀ {i : Nat} {x : α}, l[i]? = some x → f x = r[i]?
  | [], _, _, i, x, hx => by simp at hx
  | y :: l, r, h, i, x, hx => by
    simp only [List.mapM_cons, Option.bind_eq_bind, Option.pure_def] at h
    obtain ⟨z, h1, h⟩ := some_bind h
    obtain ⟨zs, h2, h⟩ := some_bind h
    cases h
    cases i with
    | zero => simp at hx; subst hx; simpa using h1
    | succ i => simpa using mapM_get h2 (i := i) (x := x) (by simpa using hx)

theorem build_sound (hE : ∀ t ti, E.ty t = some ti → TyOk P t ti) (hf : FrM β G ρ a.tmps) {t : TypeId} {ps : Array (Nat × Operand)} {d : DV}
    (hd : ((E.ty t).bind fun ti => (partsD ρ ps.toList).bind fun vs => match ti.k with
      | .struct fs => (fillStruct fs E vs ti.zero).bind fun cs => ret (.agg cs)
      | .array _ e => (E.ty e).bind fun ei => (fillArray ei.size vs ti.zero).bind fun cs => ret (.agg cs)
      | _ => none) = some ⟨some d, []⟩) :
    ∃ r, (Instr.build t (ps.map fun (i, x) => (i, a.eval x))).run P w = .ok r w ∧ Rep β G d r := by
  obtain ⟨ti, hti, hd⟩ := some_bind hd
  obtain ⟨vs, hvs, hd⟩ := some_bind hd
  have ht := hE t ti hti
  have hp := parts_rep hf hvs
  have hpl : (ps.map fun (i, x) => (i, a.eval x)).toList = ps.toList.map fun (i, x) => (i, a.eval x) := by simp
  obtain ⟨it, z, h1, h2, _, h4, h5, h6⟩ := ht.info
  split at hd
  · rename_i fs hk
    obtain ⟨cs, hcs, hd⟩ := some_bind hd
    cases hd
    have hdesc := ht.desc
    rw [hk] at hdesc
    obtain ⟨fields, hu, hfs, places, hplc⟩ := hdesc
    obtain ⟨out, h7, h8⟩ := fillStruct_sound (E := E) (fs := fs) (fun i => places.toArray[i]?) (fun i ft off fi hif hfi => by
      rw [← hfs, List.getElem?_map] at hif
      cases hq : fields.toList[i]? with
      | none => rw [hq] at hif; cases hif
      | some fd =>
        rw [hq] at hif
        simp only [Option.map_some, Option.some.injEq, Prod.mk.injEq] at hif
        obtain ⟨e1, e2⟩ := hif
        obtain ⟨ii, zz, k1, k2, _⟩ := (hE ft fi hfi).info
        have := mapM_get hplc hq
        rw [e1, k1] at this
        simp only [Option.map_some, Option.some.injEq] at this
        simp [← this, e2, k2]) hp (h6 β G) hcs
    refine ⟨.agg out, run_build w t _ out ?_, rep_agg.2 ⟨out.toList, by simp, h8⟩⟩
    rw [hpl]
    simp only [Program.built, h1, hu, h4, hplc]
    exact h7
  · rename_i n e hk
    obtain ⟨ei, hei, hd⟩ := some_bind hd
    obtain ⟨cs, hcs, hd⟩ := some_bind hd
    cases hd
    have hdesc := ht.desc
    rw [hk] at hdesc
    obtain ⟨ie, ze, k1, k2, _⟩ := (hE e ei hei).info
    obtain ⟨out, h7, h8⟩ := fillArray_sound hp (h6 β G) hcs
    refine ⟨.agg out, run_build w t _ out ?_, rep_agg.2 ⟨out.toList, by simp, h8⟩⟩
    rw [hpl]
    simp only [Program.built, h1, hdesc, h4, k1, k2]
    exact h7
  · cases hd

end
end Go.Ab
