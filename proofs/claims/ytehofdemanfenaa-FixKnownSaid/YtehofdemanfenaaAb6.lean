/- Operations, continued: those that read memory, or lay a block of cells, or store. -/
import Derived.Test.YtehofdemanfenaaAb5
namespace Go.Ab
open Go.RowKit

section
variable {P : Program} {E : Env} {w0 : World} {G0 : Gh} {D : DD} {o : Oper} {a : Act} {w : World} {β : Bi} {G : Gh} {h : Nat → Option AObj} {nid : Nat} {ρ : Nat → Option DV}

theorem unD_sound {op : UnOp} {dx d : DV} {u : Value} (hd : unD op dx = some d) (hx : Rep β G dx u) : ∃ r, (Op.unary op u).run P w = .ok r w ∧ Rep β G d r := by
  unfold unD at hd
  split at hd
  · rw [rep_int] at hx; subst hx
    split at hd
    · cases hd; exact ⟨_, by simp [Op.unary, Op.intArith], rep_int.2 rfl⟩
    · cases hd
  · rw [rep_bool] at hx; subst hx
    split at hd
    · cases hd; exact ⟨_, by simp [Op.unary], rep_bool.2 rfl⟩
    · cases hd
  · cases hd

theorem min2_sound {x y d : DV} {u v : Value} (hd : min2D x y = some d) (hx : Rep β G x u) (hy : Rep β G y v) : ∃ r, (Builtin.min2 u v).run P w = .ok r w ∧ Rep β G d r := by
  unfold min2D at hd
  split at hd
  · rw [rep_int] at hx hy; subst hx hy
    cases hd
    refine ⟨_, rfl, rep_int.2 ?_⟩
    rename_i k x _ y
    by_cases hl : y < x <;> simp [hl]
  · cases hd
theorem max2_sound {x y d : DV} {u v : Value} (hd : max2D x y = some d) (hx : Rep β G x u) (hy : Rep β G y v) : ∃ r, (Builtin.max2 u v).run P w = .ok r w ∧ Rep β G d r := by
  unfold max2D at hd
  split at hd
  · rw [rep_int] at hx hy; subst hx hy
    cases hd
    refine ⟨_, rfl, rep_int.2 ?_⟩
    rename_i k x _ y
    by_cases hl : y > x <;> simp [hl]
  · cases hd
theorem foldD_sound {f : DV → DV → Option DV} {g : Value → Value → Sem Value}
    (hfg : ∀ {x y d : DV} {u v : Value}, f x y = some d → Rep β G x u → Rep β G y v → ∃ r, (g u v).run P w = .ok r w ∧ Rep β G d r) :
    ∀ {ds : List DV} {vs : List Value} {x d : DV} {u : Value}, foldD f x ds = some d → Rep β G x u → RepL β G ds vs → ∃ r, (vs.foldlM g u).run P w = .ok r w ∧ Rep β G d r
  | [], vs, x, d, u, hd, hx, hl => by
    rw [repL_nil] at hl; subst hl
    simp only [foldD, Option.some.injEq] at hd; subst hd
    exact ⟨u, rfl, hx⟩
  | y :: ds, vs, x, d, u, hd, hx, hl => by
    obtain ⟨v, vs', rfl, hy, hl⟩ := repL_cons.1 hl
    simp only [foldD] at hd
    obtain ⟨z, h1, h2⟩ := some_bind hd
    obtain ⟨r, h3, h4⟩ := hfg h1 hx hy
    obtain ⟨r', h5, h6⟩ := foldD_sound hfg h2 h4 hl
    exact ⟨r', by simp [List.foldlM_cons, Sem.run_bind, h3, h5], h6⟩

/-! Lists of cells -/
theorem part_sound {t : TypeId} {ti : TI} (ht : TyOk P t ti) (hk : ti.k ≠ .other) {cs : List DV} {vs : List Value} {off : Nat} {d : DV} (hc : RepL β G cs vs) (hd : partOf ti cs off = some d) :
    ∃ r, (part t vs.toArray off).run P w = .ok r w ∧ Rep β G d r := by
  unfold partOf at hd
  unfold part
  rw [Sem.run_bind, ht.run_isAgg hk]
  cases ha : ti.isAgg with
  | true =>
    rw [ha] at hd
    simp only [cond_true] at hd
    obtain ⟨_, hd⟩ := bif_some hd
    cases hd
    refine ⟨.agg (((vs.drop off).take ti.size)).toArray, ?_, rep_agg.2 ⟨_, rfl, repL_take _ (repL_drop _ hc)⟩⟩
    simp [Result.andThen, ht.run_sizeOf]
  | false =>
    rw [ha] at hd
    simp only [cond_false] at hd
    obtain ⟨v, h1, h2⟩ := repL_get hc hd
    exact ⟨v, by simp [Result.andThen, h1], h2⟩

/-- A variable's cells are read. -/
theorem loadVar_sound {t : TypeId} {ti : TI} (ht : TyOk P t ti) (hk : ti.k ≠ .other) {cs : List DV} {vs : List Value} {b o : Nat} {n : Nat} {d : DV} (hc : RepL β G cs vs)
    (hcell : ∀ j v, vs[j]? = some v → w.cell? ⟨b, o + j, none⟩ = some v) (hd : partOf ti cs n = some d) : ∃ r, (loadVar t ⟨b, o + n, none⟩).run P w = .ok r w ∧ Rep β G d r := by
  unfold partOf at hd
  unfold loadVar
  rw [Sem.run_bind, ht.run_isAgg hk]
  cases ha : ti.isAgg with
  | true =>
    rw [ha] at hd
    simp only [cond_true] at hd
    obtain ⟨hle, hd⟩ := bif_some hd
    cases hd
    have hle : n + ti.size ≤ cs.length := Nat.le_of_ble_eq_true hle
    have hl := repL_len hc
    have hrun := run_loadCells_list (P := P) w ⟨b, o + n, none⟩ ((vs.drop n).take ti.size) (fun j v hj => by
      rw [addr_add]
      have hj2 : vs[n + j]? = some v := by
        rw [List.getElem?_take] at hj
        split at hj
        · simpa using hj
        · cases hj
      rw [show o + n + j = o + (n + j) by omega]
      exact hcell _ _ hj2)
    have hlen : ((vs.drop n).take ti.size).length = ti.size := by simp; omega
    rw [hlen] at hrun
    exact ⟨_, by simp [Result.andThen, Sem.run_bind, ht.run_sizeOf, hrun], rep_agg.2 ⟨_, rfl, repL_take _ (repL_drop _ hc)⟩⟩
  | false =>
    rw [ha] at hd
    simp only [cond_false] at hd
    obtain ⟨v, h1, h2⟩ := repL_get hc hd
    exact ⟨v, by simp [Result.andThen, load, Sem.run, hcell _ _ h1], h2⟩

theorem flat_get : ∀ {es : List (List DV)} {i e : Nat} {c : List DV}, (∀ x ∈ es, x.length = e) → es[i]? = some c → (es.flatten.drop (i * e)).take e = c
  | [], i, e, c, _, h => by simp at h
  | x :: es, 0, e, c, he, h => by
    simp at h; subst h
    have := he x (by simp)
    simp [this]
  | x :: es, i + 1, e, c, he, h => by
    have hx := he x (by simp)
    have := flat_get (es := es) (i := i) (e := e) (c := c) (fun y hy => he y (by simp [hy])) (by simpa using h)
    rw [← this, List.flatten_cons, Nat.add_mul, Nat.one_mul]
    rw [show i * e + e = x.length + i * e by omega, List.drop_append, List.drop_eq_nil_of_le (as := x) (by omega)]
    simp

/-- Where the cells of an object lie. -/
theorem load_sound (hE : ∀ t ti, E.ty t = some ti → TyOk P t ti) (hh : HR E w0 G0 D w β G h) {t : TypeId} {ti : TI} (ht : TyOk P t ti) (hk : ti.k ≠ .other) {da d : DV} {u : Value} (hx : Rep β G da u) (hd : loadD ti h da = some d) :
    ∃ r, (Instr.loadAt t u).run P w = .ok r w ∧ Rep β G d r := by
  unfold loadD at hd
  split at hd
  · rename_i id off
    obtain ⟨b, hb, rfl⟩ := rep_ptr.1 hx
    obtain ⟨ob, ho, hd⟩ := some_bind hd
    split at hd
    · rename_i t' cs
      obtain ⟨b', vs, h1, h2, h3, h4, h5⟩ := hh.obj id _ ho
      rw [hb] at h1; cases h1
      obtain ⟨r, h6, h7⟩ := loadVar_sound (w := w) ht hk (b := b) (o := 0) (n := off) h3 (fun j v hj => by
        rw [Nat.zero_add, cell_of_row w b j vs t' (0, 0) h2]; simpa using hj) hd
      rw [Nat.zero_add] at h6
      exact ⟨r, by simp [Instr.loadAt, Instr.sureAddr, h6], h7⟩
    · cases hd
  · rename_i id v i e off
    obtain ⟨b, m, c, hb, rfl⟩ := rep_rptr.1 hx
    obtain ⟨ob, ho, hd⟩ := some_bind hd
    split at hd
    · rename_i t' es p uu
      obtain ⟨cc, hc, hd⟩ := some_bind hd
      obtain ⟨hq, hd2⟩ := bif_some hd
      clear hd
      simp only [Bool.and_eq_true] at hq
      have hu : uu = v := Nat.eq_of_beq_eq_true hq.1
      have hce : cc.length = e := Nat.eq_of_beq_eq_true hq.2
      subst hu
      obtain ⟨hdr, vals, h1, h2, h3, h4, h5, h6, h7⟩ := hh.obj id _ ho
      rw [hb] at h1; cases h1
      have hee : e = eszOf E t' := by rw [← hce]; exact (h4 cc (List.mem_of_getElem? hc)).1
      have hcells := h2.cells (g := b) rfl
      have hsub := repL_take e (repL_drop (i * e) h3)
      rw [flat_get (e := e) (fun x hx => by rw [hee]; exact (h4 x hx).1) hc] at hsub
      obtain ⟨r, h8, h9⟩ := loadVar_sound (w := w) ht hk (b := b) (o := i * e) (n := off) hsub (fun j v hj => by
        have := hcells (i * e + j) v (by
          rw [List.getElem?_take] at hj
          split at hj
          · simpa using hj
          · cases hj)
        rwa [addr_add, Nat.zero_add] at this) hd2
      exact ⟨r, by simp [Instr.loadAt, Instr.sureAddr, h8], h9⟩
    · cases hd
  · rename_i cs
    obtain ⟨_, b, off, rfl, hp⟩ := rep_pub.1 hx
    obtain ⟨vs, h1, h2⟩ := cell_pub hh.agree cs off hp
    obtain ⟨r, h3, h4⟩ := loadVar_sound (w := w) ht hk (b := b) (o := off) (n := 0) h1 h2 hd
    exact ⟨r, by simp [Instr.loadAt, Instr.sureAddr]; exact h3, h4⟩
  · cases hd

/-- The address of a part. -/
theorem pub_drop : ∀ {cs : List DV} {b o : Nat} (n : Nat), Pub β G b o cs → Pub β G b (o + n) (cs.drop n)
  | [], _, _, n, _ => by simp [Pub]
  | _ :: _, _, _, 0, h => h
  | c :: cs, b, o, n + 1, h => by
    unfold Pub at h
    have := pub_drop n h.2
    rw [show o + (n + 1) = o + 1 + n by omega]
    exact this
theorem idfrees_drop : ∀ {cs : List DV} (n : Nat), idfrees cs = true → idfrees (cs.drop n) = true
  | [], n, _ => by simp [idfrees]
  | _ :: _, 0, h => h
  | c :: cs, n + 1, h => by
    have h' : idfree c = true ∧ idfrees cs = true := by simpa [idfrees] using h
    exact idfrees_drop n h'.2

theorem addrOff_sound {da d : DV} {u : Value} {n : Nat} (hx : Rep β G da u) (hd : addrOff da n = some d) : ∃ b, u = .pointer (some b) ∧ Rep β G d (.pointer (some (b.add n))) := by
  unfold addrOff at hd
  split at hd
  · obtain ⟨b, hb, rfl⟩ := rep_ptr.1 hx
    cases hd
    exact ⟨_, rfl, rep_ptr.2 ⟨b, hb, by rw [addr_add]⟩⟩
  · obtain ⟨b, m, c, hb, rfl⟩ := rep_rptr.1 hx
    cases hd
    exact ⟨_, rfl, rep_rptr.2 ⟨b, m, c, hb, by rw [addr_add, Nat.add_assoc]⟩⟩
  · obtain ⟨hf, b, off, rfl, hp⟩ := rep_pub.1 hx
    cases hd
    exact ⟨_, rfl, rep_pub.2 ⟨idfrees_drop n hf, b, off + n, by rw [addr_add], pub_drop n hp⟩⟩
  · cases hd

theorem struct_field {t : TypeId} {ti : TI} (ht : TyOk P t ti) {fs : List (Nat × Nat)} (hk : ti.k = .struct fs) {f ft off : Nat} (hf : fs[f]? = some (ft, off)) :
    ∃ fields fd, P.underlying t = some (.struct fields) ∧ fields[f]? = some fd ∧ fd.type = ft ∧ fd.offset = off := by
  have hd := ht.desc
  rw [hk] at hd
  obtain ⟨fields, h1, h2, _⟩ := hd
  rw [← h2, List.getElem?_map] at hf
  cases hq : fields.toList[f]? with
  | none => rw [hq] at hf; cases hf
  | some fd =>
    rw [hq] at hf
    simp only [Option.map_some, Option.some.injEq, Prod.mk.injEq] at hf
    exact ⟨fields, fd, h1, by simpa using hq, hf.1, hf.2⟩

theorem fieldAt_sound (hE : ∀ t ti, E.ty t = some ti → TyOk P t ti) {t : TypeId} {ti : TI} (ht : TyOk P t ti) {fs : List (Nat × Nat)} (hk : ti.k = .struct fs) {f ft off : Nat} (hf : fs[f]? = some (ft, off))
    {fi : TI} (hfi : E.ty ft = some fi) (hs : 0 < fi.size) {da d : DV} {u : Value} (hx : Rep β G da u) (hd : addrOff da off = some d) :
    ∃ r, (Instr.fieldAt t u f).run P w = .ok r w ∧ Rep β G d r := by
  obtain ⟨fields, fd, h1, h2, h3, h4⟩ := struct_field ht hk hf
  obtain ⟨b, rfl, hr⟩ := addrOff_sound hx hd
  have hz := (hE ft fi hfi).run_sizeOf w
  refine ⟨_, ?_, hr⟩
  have hsz : (sizeOf fd.type).run P w = .ok fi.size w := by rw [h3]; exact hz
  have hn : fi.size ≠ 0 := by omega
  simp [Instr.fieldAt, Sem.run_bind, Go.run_underlying h1, h2, Instr.sureAddr, fieldPlace, hsz, hn, h4]

end
end Go.Ab
