/- Operations, continued: stores, new blocks, structs and arrays written out. -/
import Derived.Test.YtehofdemanfenaaAb6
import Derived.Laws.CopyRow
namespace Go.Ab
open Go.RowKit

section
variable {P : Program} {E : Env} {w0 : World} {G0 : Gh} {D : DD} {o : Oper} {a : Act} {w : World} {β : Bi} {G : Gh} {h : Nat → Option AObj} {nid : Nat} {ρ : Nat → Option DV}

theorem splice_nil : ∀ (cs : List DV) (n : Nat), splice cs n [] = cs
  | [], 0 => rfl
  | [], _ + 1 => rfl
  | _ :: _, 0 => rfl
  | _ :: _, _ + 1 => rfl

theorem splice_eq : ∀ (cs : List DV) (n : Nat) (vs : List DV), n + vs.length ≤ cs.length → splice cs n vs = cs.take n ++ vs ++ cs.drop (n + vs.length)
  | cs, n, [], _ => by rw [splice_nil]; simp
  | [], n, v :: vs, h => by simp at h
  | c :: cs, 0, v :: vs, h => by
    have := splice_eq cs 0 vs (by simp at h ⊢; omega)
    simp only [splice, this]
    simp
  | c :: cs, n + 1, v :: vs, h => by
    have := splice_eq cs n (v :: vs) (by simp at h ⊢; omega)
    simp only [splice, this]
    simp [show n + 1 + (vs.length + 1) = n + (vs.length + 1) + 1 by omega]

theorem setRow_other (w : World) (g : Nat) (cs : Array Value) {k : Nat} (hk : k ≠ g) : (w.setRow g cs).heap[k]? = w.heap[k]? := by
  simp only [World.setRow, Array.getElem?_modify]
  rw [if_neg (fun e => hk e.symm)]

theorem below_setRow {B : Nat} {x w : World} (hb : Below B x w) {g : Nat} (hg : B ≤ g) (cs : Array Value) : Below B x (w.setRow g cs) :=
  hb.trans ⟨rfl, rfl, rfl, by simp, fun k hk => setRow_other w g cs (by omega)⟩

theorem size_of_cells {t : TypeId} {ti : TI} (ht : TyOk P t ti) {v : Value} (hl : v.cells.size = ti.size) (b n : Nat) {vs : Array Value} {t' : TypeId} (hg : w.heap[b]? = some (.cells vs t' (0, 0)))
    (hle : n + ti.size ≤ vs.size) (h1 : ∀ x ∈ v.cells.toList, x.oneCell' = true) :
    (Instr.storeAt t (.pointer (some ⟨b, n, none⟩)) v).run P w = .ok () (w.setRow b (vs.toList.take n ++ v.cells.toList ++ vs.toList.drop (n + v.cells.toList.length)).toArray) := by
  have hs := ht.run_sizeOf w
  have hst := run_storeCells_at P b n t' v.cells.toList 0 vs w hg (by simp; omega) h1
  have hne : ¬ v.cells.size ≠ ti.size := by omega
  simp only [Instr.storeAt, Instr.sureAddr, storeVar, Sem.run_bind, Sem.run_pure, Result.andThen_ok, hs, hne, if_false]
  simpa using hst

theorem splice_app (xs cs : List DV) (n : Nat) (vs : List DV) (h : n + vs.length ≤ cs.length) : splice (xs ++ cs) (xs.length + n) vs = xs ++ splice cs n vs := by
  rw [splice_eq _ _ _ (by rw [List.length_append]; omega), splice_eq _ _ _ h, List.take_length_add_append, show xs.length + n + vs.length = xs.length + (n + vs.length) by omega, List.drop_length_add_append]
  simp

theorem splice_left (cs ds : List DV) (n : Nat) (vs : List DV) (h : n + vs.length ≤ cs.length) : splice (cs ++ ds) n vs = splice cs n vs ++ ds := by
  rw [splice_eq _ _ _ (by rw [List.length_append]; omega), splice_eq _ _ _ h, List.take_append_of_le_length (by omega), List.drop_append_of_le_length h]
  simp

theorem splice_len (cs : List DV) (n : Nat) (vs : List DV) (h : n + vs.length ≤ cs.length) : (splice cs n vs).length = cs.length := by
  rw [splice_eq _ _ _ h]; simp; omega

/-- A part of an element is stored: the row's cells. -/
theorem flat_splice {e : Nat} : ∀ {es : List (List DV)} {i : Nat} {c : List DV} (vs : List DV) {off : Nat}, (∀ y ∈ es, y.length = e) → es[i]? = some c → off + vs.length ≤ e →
    (es.set i (splice c off vs)).flatten = splice es.flatten (i * e + off) vs
  | [], i, c, vs, off, _, h, _ => by simp at h
  | x :: es, 0, c, vs, off, he, h, hl => by
    simp only [List.getElem?_cons_zero, Option.some.injEq] at h
    subst h
    rw [List.set_cons_zero, List.flatten_cons, List.flatten_cons, Nat.zero_mul, Nat.zero_add, splice_left _ _ _ _ (by rw [he x (by simp)]; exact hl)]
  | x :: es, i + 1, c, vs, off, he, h, hl => by
    have hx : x.length = e := he x (by simp)
    have hc : es[i]? = some c := by simpa using h
    have ih := flat_splice vs (fun y hy => he y (by simp [hy])) hc hl
    rw [List.set_cons_succ, List.flatten_cons, List.flatten_cons, ih, show (i + 1) * e + off = x.length + (i * e + off) by rw [hx, Nat.succ_mul]; omega, splice_app]
    have hi : i < es.length := (List.getElem?_eq_some_iff.1 hc).1
    have hlen : es.flatten.length = es.length * e := by
      have : ∀ (l : List (List DV)), (∀ y ∈ l, y.length = e) → l.flatten.length = l.length * e := fun l => by
        induction l with
        | nil => intro _; simp
        | cons y l ih => intro hl; rw [List.flatten_cons, List.length_append, ih (fun z hz => hl z (by simp [hz])), hl y (by simp), List.length_cons, Nat.succ_mul]; omega
      exact this es fun y hy => he y (by simp [hy])
    rw [hlen]
    have := Nat.mul_le_mul_right e hi
    rw [Nat.succ_mul] at this
    omega

theorem take_mid {α : Type} (cur V : List α) (k N : Nat) (h1 : k + V.length ≤ N) (h2 : N ≤ cur.length) :
    List.take N (cur.take k ++ V ++ cur.drop (k + V.length)) = (cur.take N).take k ++ V ++ (cur.take N).drop (k + V.length) := by
  have hk : (cur.take k).length = k := by rw [List.length_take]; omega
  have e1 : (cur.take N).take k = cur.take k := by rw [List.take_take, Nat.min_eq_left (by omega)]
  have e2 : (cur.take N).drop (k + V.length) = (cur.drop (k + V.length)).take (N - (k + V.length)) := List.drop_take
  rw [e1, e2, List.take_append, List.length_append, hk, List.take_of_length_le (l := cur.take k ++ V) (by rw [List.length_append, hk]; exact h1)]

theorem idfrees_iff : ∀ {cs : List DV}, idfrees cs = true ↔ ∀ c ∈ cs, idfree c = true
  | [] => by simp [idfrees]
  | c :: cs => by simp [idfrees, idfrees_iff (cs := cs)]

theorem store_sound (hh : HR E w0 G0 D w β G h) {t : TypeId} {ti : TI} (ht : TyOk P t ti) {da dv : DV} {u v : Value} (hx : Rep β G da u) (hy : Rep β G dv v) {us : List (Nat × Option AObj)}
    (hd : storeD ti h da dv = some us) : ∃ w', (Instr.storeAt t u v).run P w = .ok () w' ∧ HR E w0 G0 D w' β G (updF h us) ∧ Kept β β h (updF h us) nid := by
  unfold storeD at hd
  obtain ⟨hq, hd⟩ := bif_some hd
  simp only [Bool.and_eq_true] at hq
  have hlen : (cellsOf dv).length = ti.size := Nat.eq_of_beq_eq_true hq.1
  have hcs := rep_cells hy
  have hvl : v.cells.size = ti.size := by have := repL_len hcs; simp at this; omega
  have hone : ∀ x ∈ v.cells.toList, x.oneCell' = true := repL_cells hq.2 hcs
  have hkept : ∀ {id : Nat} {o' : AObj} {o : AObj}, h id = some o → Kept β β h (updF h [(id, some o')]) nid := fun {id o' o} ho i _ hf => by
    refine ⟨?_, rfl, fun _ => rfl⟩
    rw [updF_one]
    by_cases e : i = id
    · subst e; rw [hf] at ho; cases ho
    · rw [if_neg e]; exact hf
  split at hd
  · rename_i id off _
    obtain ⟨b, hb, rfl⟩ := rep_ptr.1 hx
    obtain ⟨ob, ho, hd⟩ := some_bind hd
    split at hd
    · rename_i t' cs
      obtain ⟨hle, hd⟩ := bif_some hd
      cases hd
      have hle : off + ti.size ≤ cs.length := Nat.le_of_ble_eq_true hle
      obtain ⟨b', vs, h1, h2, h3, h4, h5⟩ := hh.obj id _ ho
      rw [hb] at h1; cases h1
      have hvs : vs.size = cs.length := by have := repL_len h3; simpa using this
      refine ⟨_, size_of_cells ht hvl b off h2 (by omega) hone, ?_, hkept ho⟩
      have hsp := splice_eq cs off (cellsOf dv) (by omega)
      refine hh.move (fun x => x = b) id _ (Ext.refl β G) (below_setRow hh.below (hh.own id _ b ho hb).1 _) (fun x hx _ => setRow_other w b _ hx) (fun _ _ => rfl) (by simp) ?_ ?_ ?_ ?_ ?_ ?_ (fun _ _ => ⟨rfl, fun _ => rfl⟩)
      · rintro x rfl; exact ⟨(hh.own id _ _ ho hb).1, (hh.own id _ _ ho hb).2.2⟩
      · rintro x id' o2 rfl ho2 hb2; exact hh.inj id' id o2 _ _ ho2 ho hb2 hb
      · rintro x rfl n y hg; rw [h5] at hg; cases hg
      · refine ⟨b, _, hb, setRow_heap w b vs _ t' (0, 0) h2, ?_, ?_, h5⟩
        · rw [hsp]
          simp only [List.append_assoc]
          refine repL_append.2 ⟨_, _, rfl, repL_take _ h3, repL_append.2 ⟨_, _, rfl, hcs, ?_⟩⟩
          have : v.cells.toList.length = (cellsOf dv).length := repL_len hcs
          rw [this]
          exact repL_drop _ h3
        · rw [hsp]
          simp only [List.all_append, Bool.and_eq_true]
          refine ⟨⟨?_, hq.2⟩, ?_⟩
          · rw [List.all_eq_true] at h4 ⊢; exact fun x hx => h4 x (List.mem_of_mem_take hx)
          · rw [List.all_eq_true] at h4 ⊢; exact fun x hx => h4 x (List.mem_of_mem_drop hx)
      · intro x hx; exact .inr ⟨_, ho, hx⟩
      · intro x hx
        have := (hh.own id _ x ho hx).2.1
        simpa using this
    · cases hd
  · rename_i id ver i e off _
    obtain ⟨b, m, c, hb, rfl⟩ := rep_rptr.1 hx
    obtain ⟨ob, ho, hd⟩ := some_bind hd
    split at hd
    · rename_i t' es p uu
      obtain ⟨cc, hc, hd⟩ := some_bind hd
      obtain ⟨hq2, hd2⟩ := bif_some hd
      clear hd
      cases hd2
      simp only [Bool.and_eq_true] at hq2
      obtain ⟨⟨⟨⟨hu, hce⟩, hp0⟩, hfree⟩, hle⟩ := hq2
      have hu : uu = ver := Nat.eq_of_beq_eq_true hu
      have hce : cc.length = e := Nat.eq_of_beq_eq_true hce
      have hp0 : p = 0 := Nat.eq_of_beq_eq_true hp0
      have hle : off + ti.size ≤ cc.length := Nat.le_of_ble_eq_true hle
      subst hu hp0
      obtain ⟨hdr, vals, h1, h2, h3, h4, h5, h6, h7⟩ := hh.obj id _ ho
      rw [hb] at h1; cases h1
      have hee : e = eszOf E t' := by rw [← hce]; exact (h4 cc (List.mem_of_getElem? hc)).1
      have hi : i < es.length := (List.getElem?_eq_some_iff.1 hc).1
      have hfl := flat_splice (e := e) (off := off) (cellsOf dv) (fun y hy => by rw [hee]; exact (h4 y hy).1) hc (by omega)
      rcases h2.2 with ⟨e1, _⟩ | ⟨g, cap, cur, e1, hg1, hg2, hg3, hg4, hg5, hg6⟩
      · cases e1
      · cases e1
        have hlen : vals.length = es.length * eszOf E t' := h2.1
        have hflen : es.flatten.length = vals.length := (repL_len h3).symm
        have hin := Nat.mul_le_mul_right e hi
        rw [Nat.succ_mul] at hin
        have hcm := Nat.mul_le_mul_right e hg3
        have hown : Owns β id (.row t' es 0 uu) b := ⟨_, _, hb⟩
        have hgn : ∀ o, G b o = none := fun o => h6 b rfl o (by simp [pn])
        have hvc : v.cells.toList.length = (cellsOf dv).length := repL_len hcs
        have hmul : es.length * eszOf E t' = es.length * e := by rw [hee]
        have hmul2 : c * eszOf E t' = c * e := by rw [hee]
        refine ⟨_, size_of_cells ht hvl b (i * e + off) hg2 (by rw [hg5, hmul2]; omega) hone, ?_, hkept ho⟩
        have hsp := splice_eq es.flatten (i * e + off) (cellsOf dv) (by omega)
        refine hh.move (fun x => x = b) id _ (Ext.refl β G) (below_setRow hh.below hg1 _) (fun x hx _ => setRow_other w b _ hx) (fun _ _ => rfl) (by simp) ?_ ?_ ?_ ?_ ?_ ?_ (fun _ _ => ⟨rfl, fun _ => rfl⟩)
        · rintro x rfl; exact ⟨(hh.own id _ _ ho hown).1, (hh.own id _ _ ho hown).2.2⟩
        · rintro x id' o2 rfl ho2 hb2; exact hh.inj id' id o2 _ _ ho2 ho hb2 hown
        · rintro x rfl n y hg; rw [hgn] at hg; cases hg
        · refine ⟨_, vals.take (i * e + off) ++ v.cells.toList ++ vals.drop (i * e + off + v.cells.toList.length), hb, ⟨?_, .inr ⟨b, c, _, ?_, hg1, setRow_heap w b cur _ t' (0, 0) hg2, ?_, hg4, ?_, ?_⟩⟩, ?_, ?_, ⟨h5.1, pn_le _ _⟩, fun b' hb' o _ => ?_, h7⟩
          · simp only [List.length_append, List.length_take, List.length_drop, List.length_set]; omega
          · rw [List.length_set]
          · rw [List.length_set]; exact hg3
          · simp only [List.size_toArray, List.length_append, List.length_take, List.length_drop, Array.length_toList]; omega
          · rw [List.length_set, ← hg6]
            have hcl : cur.toList.length = c * e := by rw [Array.length_toList, hg5, hmul2]
            exact take_mid cur.toList v.cells.toList (i * e + off) _ (by omega) (by omega)
          · rw [hfl, hsp]
            simp only [List.append_assoc]
            refine repL_append.2 ⟨_, _, rfl, repL_take _ h3, repL_append.2 ⟨_, _, rfl, hcs, ?_⟩⟩
            rw [hvc]
            exact repL_drop _ h3
          · intro y hy
            rcases List.mem_or_eq_of_mem_set hy with hy | rfl
            · exact h4 y hy
            · obtain ⟨q1, q2, q3⟩ := h4 cc (List.mem_of_getElem? hc)
              refine ⟨by rw [splice_len _ _ _ (by omega)]; exact q1, ?_, ?_⟩
              · rw [idfrees_iff] at q2 hfree ⊢
                rw [splice_eq _ _ _ (by omega)]
                intro z hz
                simp only [List.mem_append] at hz
                rcases hz with (hz | hz) | hz
                · exact q2 z (List.mem_of_mem_take hz)
                · exact hfree z hz
                · exact q2 z (List.mem_of_mem_drop hz)
              · rw [splice_eq _ _ _ (by omega)]
                simp only [List.all_append, Bool.and_eq_true]
                refine ⟨⟨?_, hq.2⟩, ?_⟩
                · rw [List.all_eq_true] at q3 ⊢; exact fun x hx => q3 x (List.mem_of_mem_take hx)
                · rw [List.all_eq_true] at q3 ⊢; exact fun x hx => q3 x (List.mem_of_mem_drop hx)
          · simp only [Value.ownBlock, Option.some.injEq] at hb'
            subst hb'; exact hgn o
        · rintro x ⟨n', c', hx⟩; rw [hb] at hx; cases hx; exact .inl rfl
        · rintro x ⟨n', c', hx⟩; rw [hb] at hx; cases hx
          have := (hh.own id _ _ ho hown).2.1
          simpa using this
    · cases hd
  · cases hd

/-! New blocks of cells -/
theorem lay_sound (hh : HR E w0 G0 D w β G h) (hf : Fresh β h nid) {t : TypeId} {cs : List DV} {vs : Array Value} (hr : RepL β G cs vs.toList) (hc : cs.all isCell = true) :
    ∃ β', Ext β G β' G ∧ β'.blk nid = some w.heap.size ∧ HR E w0 G0 D (w.alloc (.cells vs t)) β' G (updF h [(nid, some (.cells t cs))]) ∧ Kept β β' h (updF h [(nid, some (.cells t cs))]) nid := by
  refine hh.lay hf (.cells vs t) (.cells t cs) (by intros; simp) (fun β' hx hb => ?_)
  exact ⟨w.heap.size, vs, hb, heap_alloc_new w _, RepL.mono hx _ _ hr, hc, fun o => glt hh (Nat.le_refl _) o⟩

theorem run_newVar (t : TypeId) (v : Value) : (newVar t v).run P w = .ok ⟨w.heap.size, 0, none⟩ (w.alloc (.cells v.cells t)) := by
  rfl

theorem alloc_sound (hh : HR E w0 G0 D w β G h) (hf : Fresh β h nid) {t : TypeId} {ti : TI} (ht : TyOk P t ti) (ho : o.op = .alloc t) :
    OpRes P E w0 G0 D o a w β G h nid ⟨some (.ptr nid 0), [(nid, some (.cells t ti.zero))]⟩ := by
  obtain ⟨z, hz, _, hr⟩ := ht.run_zero w
  obtain ⟨β', hx, hb, hh', hk⟩ := lay_sound (t := t) hh hf (hr β G) ht.zc
  refine ⟨.value (.pointer (some ⟨w.heap.size, 0, none⟩)), _, w.alloc (.cells z.cells t), β', G, ?_, .inl rfl, ?_, hx, hh', hk⟩
  · unfold execOp; rw [ho]; simp [Instr.alloc, Sem.run_bind, hz, run_newVar]
  · intro d hd; cases hd; exact rep_ptr.2 ⟨_, hb, rfl⟩

theorem box_sound (hh : HR E w0 G0 D w β G h) (hf : Fresh β h nid) {t : TypeId} {x : Operand} {d : DV} (ho : o.op = .box t x) (hx : Rep β G d (a.eval x)) (hc : (cellsOf d).all isCell = true) :
    OpRes P E w0 G0 D o a w β G h nid ⟨some (.ptr nid 0), [(nid, some (.cells t (cellsOf d)))]⟩ := by
  obtain ⟨β', hx', hb, hh', hk⟩ := lay_sound (t := t) hh hf (rep_cells hx) hc
  refine ⟨.value (.pointer (some ⟨w.heap.size, 0, none⟩)), _, w.alloc (.cells (a.eval x).cells t), β', G, ?_, .inl rfl, ?_, hx', hh', hk⟩
  · unfold execOp; rw [ho]; simp [Instr.box, run_newVar]
  · intro d hd; cases hd; exact rep_ptr.2 ⟨_, hb, rfl⟩

end
end Go.Ab
