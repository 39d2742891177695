/- Operations, continued: stores, new blocks, structs and arrays written out. -/
import Derived.Test.YtdoejdmpmpgmiaaAb6
import Derived.Laws.CopyRow
set_option linter.unusedSectionVars false
set_option linter.unusedVariables false
set_option linter.unusedSimpArgs false
namespace Go.Ab
open Go.RowKit

section
variable {P : Program} {E : Env} {w0 : World} {G0 : Gh} {D : List Nat} {o : Oper} {a : Act} {w : World} {β : Bi} {G : Gh} {h : Nat → Option AObj} {nid : Nat} {ρ : Nat → Option DV}

theorem splice_nil : ∀ (cs : List DV) (n : Nat), splice cs n [] = cs
  | [], 0 => rfl
  | [], _ + 1 => rfl
  | _ :: _, 0 => rfl
  | _ :: _, _ + 1 => rfl

theorem splice_eq : ∀ (cs : List DV) (n : Nat) (vs : List DV), n + vs.length ≤ cs.length → splice cs n vs = cs.take n ++ vs ++ cs.drop (n + vs.length)
  | cs, n, [], _ => by rw [splice_nil]; simp
  | [], n, v :: vs, h => by simp at h
  | c :: cs, 0, v :: vs, h => by
    have := splice_eq cs 0 vs (by simp at h ⊢; omega)
    simp only [splice, this]
    simp
  | c :: cs, n + 1, v :: vs, h => by
    have := splice_eq cs n (v :: vs) (by simp at h ⊢; omega)
    simp only [splice, this]
    simp [show n + 1 + (vs.length + 1) = n + (vs.length + 1) + 1 by omega]

theorem setRow_other (w : World) (g : Nat) (cs : Array Value) {k : Nat} (hk : k ≠ g) : (w.setRow g cs).heap[k]? = w.heap[k]? := by
  simp only [World.setRow, Array.getElem?_modify]
  rw [if_neg (fun e => hk e.symm)]

theorem below_setRow {B : Nat} {x w : World} (hb : Below B x w) {g : Nat} (hg : B ≤ g) (cs : Array Value) : Below B x (w.setRow g cs) :=
  hb.trans ⟨rfl, rfl, rfl, by simp, fun k hk => setRow_other w g cs (by omega)⟩

theorem size_of_cells {t : TypeId} {ti : TI} (ht : TyOk P t ti) {v : Value} (hl : v.cells.size = ti.size) (b n : Nat) {vs : Array Value} {t' : TypeId} (hg : w.heap[b]? = some (.cells vs t' (0, 0)))
    (hle : n + ti.size ≤ vs.size) (h1 : ∀ x ∈ v.cells.toList, x.oneCell' = true) :
    (Instr.storeAt t (.pointer (some ⟨b, n, none⟩)) v).run P w = .ok () (w.setRow b (vs.toList.take n ++ v.cells.toList ++ vs.toList.drop (n + v.cells.toList.length)).toArray) := by
  have hs := ht.run_sizeOf w
  have hst := run_storeCells_at P b n t' v.cells.toList 0 vs w hg (by simp; omega) h1
  have hne : ¬ v.cells.size ≠ ti.size := by omega
  simp only [Instr.storeAt, Instr.sureAddr, storeVar, Sem.run_bind, Sem.run_pure, Result.andThen_ok, hs, hne, if_false]
  simpa using hst

theorem store_sound (hh : HR E w0 G0 D w β G h) {t : TypeId} {ti : TI} (ht : TyOk P t ti) {da dv : DV} {u v : Value} (hx : Rep β G da u) (hy : Rep β G dv v) {us : List (Nat × Option AObj)}
    (hd : storeD ti h da dv = some us) : ∃ w', (Instr.storeAt t u v).run P w = .ok () w' ∧ HR E w0 G0 D w' β G (updF h us) ∧ Kept β β h (updF h us) nid := by
  unfold storeD at hd
  obtain ⟨hq, hd⟩ := bif_some hd
  simp only [Bool.and_eq_true] at hq
  have hlen : (cellsOf dv).length = ti.size := Nat.eq_of_beq_eq_true hq.1
  have hcs := rep_cells hy
  have hvl : v.cells.size = ti.size := by have := repL_len hcs; simp at this; omega
  have hone : ∀ x ∈ v.cells.toList, x.oneCell' = true := repL_cells hq.2 hcs
  have hkept : ∀ {id : Nat} {o' : AObj} {o : AObj}, h id = some o → Kept β β h (updF h [(id, some o')]) nid := fun {id o' o} ho i _ hf => by
    refine ⟨hf.blk, hf.hdr, ?_⟩
    rw [updF_one]
    by_cases e : i = id
    · subst e; rw [hf.h] at ho; cases ho
    · rw [if_neg e]; exact hf.h
  split at hd
  · rename_i id off _
    obtain ⟨b, hb, rfl⟩ := rep_ptr.1 hx
    obtain ⟨ob, ho, hd⟩ := some_bind hd
    split at hd
    · rename_i t' cs
      obtain ⟨hle, hd⟩ := bif_some hd
      cases hd
      have hle : off + ti.size ≤ cs.length := Nat.le_of_ble_eq_true hle
      obtain ⟨b', vs, h1, h2, h3, h4, h5⟩ := hh.obj id _ ho
      rw [hb] at h1; cases h1
      have hvs : vs.size = cs.length := by have := repL_len h3; simpa using this
      refine ⟨_, size_of_cells ht hvl b off h2 (by omega) hone, ?_, hkept ho⟩
      have hsp := splice_eq cs off (cellsOf dv) (by omega)
      refine hh.move (fun x => x = b) id _ (Ext.refl β G) (below_setRow hh.below (hh.own id _ b ho hb).1 _) (fun x hx _ => setRow_other w b _ hx) (fun _ _ => rfl) (by simp) ?_ ?_ ?_ ?_ ?_ ?_ (fun _ _ => ⟨rfl, fun _ => rfl⟩)
      · rintro x rfl; exact ⟨(hh.own id _ _ ho hb).1, (hh.own id _ _ ho hb).2.2⟩
      · rintro x id' o2 rfl ho2 hb2; exact hh.inj id' id o2 _ _ ho2 ho hb2 hb
      · rintro x rfl n y hg; rw [h5] at hg; cases hg
      · refine ⟨b, _, hb, setRow_heap w b vs _ t' (0, 0) h2, ?_, ?_, h5⟩
        · rw [hsp]
          simp only [List.append_assoc]
          refine repL_append.2 ⟨_, _, rfl, repL_take _ h3, repL_append.2 ⟨_, _, rfl, hcs, ?_⟩⟩
          have : v.cells.toList.length = (cellsOf dv).length := repL_len hcs
          rw [this]
          exact repL_drop _ h3
        · rw [hsp]
          simp only [List.all_append, Bool.and_eq_true]
          refine ⟨⟨?_, hq.2⟩, ?_⟩
          · rw [List.all_eq_true] at h4 ⊢; exact fun x hx => h4 x (List.mem_of_mem_take hx)
          · rw [List.all_eq_true] at h4 ⊢; exact fun x hx => h4 x (List.mem_of_mem_drop hx)
      · intro x hx; exact .inr ⟨_, ho, hx⟩
      · intro x hx
        have := (hh.own id _ x ho hx).2.1
        simpa using this
    · cases hd
  · cases hd

/-! New blocks of cells -/
theorem lay_sound (hh : HR E w0 G0 D w β G h) (hf : Fresh β h nid) {t : TypeId} {cs : List DV} {vs : Array Value} (hr : RepL β G cs vs.toList) (hc : cs.all isCell = true) :
    ∃ β', Ext β G β' G ∧ β'.blk nid = some w.heap.size ∧ HR E w0 G0 D (w.alloc (.cells vs t)) β' G (updF h [(nid, some (.cells t cs))]) ∧ Kept β β' h (updF h [(nid, some (.cells t cs))]) nid := by
  refine hh.lay hf (.cells vs t) (.cells t cs) (by intros; simp) (fun β' hx hb => ?_)
  exact ⟨w.heap.size, vs, hb, heap_alloc_new w _, RepL.mono hx _ _ hr, hc, fun o => glt hh (Nat.le_refl _) o⟩

theorem run_newVar (t : TypeId) (v : Value) : (newVar t v).run P w = .ok ⟨w.heap.size, 0, none⟩ (w.alloc (.cells v.cells t)) := by
  rfl

theorem alloc_sound (hh : HR E w0 G0 D w β G h) (hf : Fresh β h nid) {t : TypeId} {ti : TI} (ht : TyOk P t ti) (ho : o.op = .alloc t) :
    OpRes P E w0 G0 D o a w β G h nid ⟨some (.ptr nid 0), [(nid, some (.cells t ti.zero))]⟩ := by
  obtain ⟨z, hz, _, hr⟩ := ht.run_zero w
  obtain ⟨β', hx, hb, hh', hk⟩ := lay_sound (t := t) hh hf (hr β G) ht.zc
  refine ⟨.value (.pointer (some ⟨w.heap.size, 0, none⟩)), _, w.alloc (.cells z.cells t), β', G, ?_, .inl rfl, ?_, hx, hh', hk⟩
  · unfold execOp; rw [ho]; simp [Instr.alloc, Sem.run_bind, hz, run_newVar]
  · intro d hd; cases hd; exact rep_ptr.2 ⟨_, hb, rfl⟩

theorem box_sound (hh : HR E w0 G0 D w β G h) (hf : Fresh β h nid) {t : TypeId} {x : Operand} {d : DV} (ho : o.op = .box t x) (hx : Rep β G d (a.eval x)) (hc : (cellsOf d).all isCell = true) :
    OpRes P E w0 G0 D o a w β G h nid ⟨some (.ptr nid 0), [(nid, some (.cells t (cellsOf d)))]⟩ := by
  obtain ⟨β', hx', hb, hh', hk⟩ := lay_sound (t := t) hh hf (rep_cells hx) hc
  refine ⟨.value (.pointer (some ⟨w.heap.size, 0, none⟩)), _, w.alloc (.cells (a.eval x).cells t), β', G, ?_, .inl rfl, ?_, hx', hh', hk⟩
  · unfold execOp; rw [ho]; simp [Instr.box, run_newVar]
  · intro d hd; cases hd; exact rep_ptr.2 ⟨_, hb, rfl⟩

end
end Go.Ab
