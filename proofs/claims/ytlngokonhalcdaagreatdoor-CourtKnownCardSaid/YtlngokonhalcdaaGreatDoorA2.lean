/- What the code of the program comes to on plain values. -/
import Derived.Test.YtlngokonhalcdaaGreatDoorA1
import Derived.Lib.UnsafeStr
import Derived.TacticsIn
import Derived.LoopNIn
import Derived.RangeFuncLeaves
import Derived.OrdersIn
set_option linter.unusedSectionVars false
set_option linter.unusedVariables false
set_option linter.unusedSimpArgs false
namespace Go.Ab
open Go.RowKit

section
variable {P : Program} {E : Env} {w0 : World} {G0 : Gh} {D : DD} {o : Oper} {a : Act} {w : World} {β : Bi} {G : Gh} {h : Nat → Option AObj} {nid : Nat} {ρ : Nat → Option DV}

theorem arr_of {α : Type} {x : Array α} {l : List α} (h : x.toList = l) : x = l.toArray := by subst h; simp

theorem TyOk.und {t : TypeId} {ti : TI} (ht : TyOk P t ti) : ∃ d, P.underlying t = some d := by
  have hd := ht.desc
  cases hkk : ti.k <;> rw [hkk] at hd <;> simp only at hd
  all_goals first
    | exact ⟨_, hd⟩
    | (obtain ⟨f, hd, _⟩ := hd; exact ⟨_, hd⟩)
    | (obtain ⟨a, b, c, hd⟩ := hd; exact ⟨_, hd⟩)
    | (obtain ⟨a, hd⟩ := hd; exact ⟨_, hd⟩)

theorem run_u {s : Sem Unit} {w' : World} (he : execOp a.eval o = (do s; Pure.pure Next.skip)) (hs : s.run P w = .ok () w') : (execOp a.eval o).run P w = .ok .skip w' := by
  rw [he]; simp [hs]
theorem run_w {s : Sem Value} {v : Value} {w' : World} (he : execOp a.eval o = (do Pure.pure (Next.value (← s)))) (hs : s.run P w = .ok v w') : (execOp a.eval o).run P w = .ok (.value v) w' := by
  rw [he]; simp [hs]

theorem rep_undef : Rep β G (.tup []) undef := rep_tup.2 ⟨[], rfl, repL_nil.2 rfl⟩

theorem siter_lay (hh : HR E w0 G0 D w β G h) (hf : Fresh β h nid) (s : ByteArray) :
    ∃ β', Ext β G β' G ∧ β'.blk nid = some w.heap.size ∧ HR E w0 G0 D (w.alloc (.stringIter s 0)) β' G (updF h [(nid, some (.siter s 0))]) ∧ Kept β β' h (updF h [(nid, some (.siter s 0))]) nid :=
  hh.lay hf _ _ rfl fun β' _ hb => ⟨_, hb, heap_alloc_new w (.stringIter s 0)⟩

theorem mit_lay (hh : HR E w0 G0 D w β G h) (hf : Fresh β h nid) (m bm n : Nat) (hm : β.blk m = some bm) :
    ∃ β', Ext β G β' G ∧ β'.blk nid = some w.heap.size ∧ HR E w0 G0 D (w.alloc (.mapIter (some bm) n #[] n)) β' G (updF h [(nid, some (.mit m n []))]) ∧ Kept β β' h (updF h [(nid, some (.mit m n []))]) nid :=
  hh.lay hf _ _ rfl fun β' hx hb => ⟨_, bm, n, hb, hx.blk _ _ hm, heap_alloc_new w (.mapIter (some bm) n #[] n), Nat.le_refl _⟩

theorem map_lay (hh : HR E w0 G0 D w β G h) (hf : Fresh β h nid) :
    ∃ β', Ext β G β' G ∧ β'.blk nid = some w.heap.size ∧ HR E w0 G0 D (w.alloc (.map #[] 0)) β' G (updF h [(nid, some (.map []))]) ∧ Kept β β' h (updF h [(nid, some (.map []))]) nid :=
  hh.lay hf _ _ rfl fun β' _ hb => ⟨_, _, _, hb, heap_alloc_new w (.map #[] 0), rfl, rfl, rfl⟩

theorem run_getObj_siter {l pos : Nat} {s : ByteArray} (h : w.heap[l]? = some (.stringIter s pos)) : (getObj l).run P w = .ok (.stringIter s pos) w := by simp [getObj, Sem.run, h]
theorem run_setObj_any {l : Nat} {r : Obj} {ob : Obj} (h : w.heap[l]? = some ob) (hc : ∀ c t f, ob ≠ .cells c t f) : (setObj l r).run P w = .ok () (w.putObj l r) := by
  cases ob <;> first | (exact absurd rfl (hc _ _ _)) | simp [setObj, Sem.run, World.putObj, h]

theorem view_sound (hh : HR E w0 G0 D w β G h) {t : TypeId} {ti ei : TI} (ht : TyOk P t ti) {e : Nat} (hk : ti.k = .slice e) (he : TyOk P e ei) {es : List (List DV)} {dx : DV} {u : Value} (hes : elemsOf h dx = some es) (hr : Rep β G dx u)
    {lo hi : Option DV} {vlo vhi : Option Value} (hl : OptR β G lo vlo) (hhi : OptR β G hi vhi) {d : DV} (hd : viewD es ei.size dx lo hi = some d) :
    ∃ r, (Instr.sliceAt t u vlo vhi none).run P w = .ok r w ∧ Rep β G d r := by
  have hdesc := ht.desc
  rw [hk] at hdesc
  unfold viewD at hd
  obtain ⟨m, h1, hd⟩ := some_bind hd
  obtain ⟨l, h2, hd⟩ := some_bind hd
  cases dx with
  | rs id ver =>
    simp only [elemsOf] at hes
    obtain ⟨ob, hob, hes⟩ := some_bind hes
    split at hes
    · rename_i t' es' p u'
      obtain ⟨hu, hes⟩ := bif_some hes
      cases hes
      have hu : u' = ver := Nat.eq_of_beq_eq_true hu
      subst hu
      obtain ⟨hdr, vals, k1, k2, _⟩ := hh.obj _ _ hob
      obtain ⟨k5, _⟩ := rep_rs.1 hr
      rw [k1] at k5; cases k5
      have hform : ∃ A c, u = .slice A es.length c ∧ es.length ≤ c ∧ (es.length = 0 ∨ ∃ b, A = some ⟨b, 0, none⟩) := by
        rcases k2.2 with ⟨rfl, k⟩ | ⟨g, cap, cur, rfl, _, _, k, _⟩
        · exact ⟨none, 0, by rw [k], by omega, .inl k⟩
        · exact ⟨_, cap, rfl, k, .inr ⟨g, rfl⟩⟩
      obtain ⟨A, c, rfl, hle, hA⟩ := hform
      obtain ⟨k1', k2', k3'⟩ := bounds_sound (P := P) (w := w) (isSlice := true) hl hhi h1 h2 hle
      refine ⟨.slice (if c = l then A else A.map (·.add (l * ei.size))) (m - l) (c - l), by simp [Instr.sliceAt, Instr.slice, Go.run_underlying hdesc, k1', he.run_sizeOf], ?_⟩
      cases hd
      refine rep_rv.2 ⟨A, es.length, c, _, c - l, k1, rfl, by omega, by omega, ?_⟩
      by_cases hml : m - l = 0
      · exact .inl hml
      · rcases hA with hA | ⟨b, rfl⟩
        · omega
        · refine .inr ⟨b, rfl, ?_⟩
          rw [if_neg (by omega)]
          simp [addr_add]
    · cases hes
  | _ => cases hd

theorem unbytes_eq : ∀ {es : List (List DV)} {l : List UInt8}, unbytesD es = some l → es = l.map fun b => [DV.int .u8 b.toNat]
  | [], l, h => by cases h; rfl
  | e :: es, l, h => by
    unfold unbytesD at h
    split at h
    · rename_i heq; cases heq
    · rename_i n es' heq
      cases heq
      obtain ⟨hq, h⟩ := bif_some h
      simp only [Bool.and_eq_true, decide_eq_true_eq] at hq
      obtain ⟨l', h1, h⟩ := some_bind h
      cases h
      rw [List.map_cons, ← unbytes_eq h1]
      have : ((UInt8.ofNat n.toNat).toNat : Int) = n := by
        rw [UInt8.toNat_ofNat_of_lt' (by simp [UInt8.size]; omega)]; omega
      rw [this]
    · cases h
theorem bytes_rep : ∀ (l : List UInt8) (vals : List Value), RepL β G (l.map fun b => [DV.int .u8 b.toNat]).flatten vals → vals = l.map fun x => Value.int .u8 x.toNat
  | [], vals, h => repL_nil.1 h
  | b :: l, vals, h => by
    obtain ⟨v, vs, rfl, h1, h2⟩ := repL_cons.1 h
    rw [rep_int.1 h1, bytes_rep l vs h2]; rfl
theorem freeze_other (w : World) (p : Addr) (n : Nat) {b : Nat} (hb : b ≠ p.block) : (w.freeze p n).heap[b]? = w.heap[b]? := by
  unfold World.freeze
  split
  · rfl
  · simp only [Array.getElem?_modify]; rw [if_neg (fun e => hb e.symm)]
theorem freeze_cell (w : World) (p : Addr) (n : Nat) (x : Addr) : (w.freeze p n).cell? x = w.cell? x := by
  by_cases hb : x.block = p.block
  · unfold World.freeze
    split
    · rfl
    · unfold World.cell?
      simp only [Array.getElem?_modify, hb, if_true]
      cases hg : w.heap[p.block]? with
      | none => rfl
      | some ob => cases ob <;> rfl
  · exact World.cell?_of_block (freeze_other w p n hb)
theorem freeze_size (w : World) (p : Addr) (n : Nat) : (w.freeze p n).heap.size = w.heap.size := by
  unfold World.freeze
  split
  · rfl
  · simp
theorem HR.dropRow (hh : HR E w0 G0 D w β G h) {id e : Nat} {es : List (List DV)} {p u : Nat} (ho : h id = some (.row e es p u)) {g : Nat} (hown : Owns β id (.row e es p u) g) (n : Nat) : HR E w0 G0 D (w.freeze ⟨g, 0, none⟩ n) β G (updF h [(id, none)]) := by
  obtain ⟨k1, _, k3⟩ := hh.own id _ g ho hown
  have hget : ∀ i x, updF h [(id, none)] i = some x → i ≠ id ∧ h i = some x := fun i x hi => by
    rw [updF_one] at hi
    by_cases e : i = id
    · rw [if_pos e] at hi; cases hi
    · rw [if_neg e] at hi; exact ⟨e, hi⟩
  have hother : ∀ i x c, i ≠ id → h i = some x → Owns β i x c → c ≠ g := fun i x c hi hx hc q => hi (hh.inj i id x _ g hx ho (q ▸ hc) hown)
  refine ⟨Lib.below_freeze hh.below k1 n, hh.g0, fun b o v hg => by rw [freeze_cell]; exact hh.agree b o v hg, fun i x hi => ?_, fun i x c hi hc => ?_, fun i j x y c hi hj hc hc' => hh.inj i j x y c (hget i x hi).2 (hget j y hj).2 hc hc', fun d x hd => ?_, hh.inv0⟩
  · obtain ⟨hne, hx⟩ := hget i x hi
    exact ObjR.keep (Ext.refl _ _) (fun _ => rfl) (fun c hc => ⟨freeze_other w _ n (hother i x c hne hx hc), fun _ => rfl⟩) (hh.obj i x hx)
  · obtain ⟨hne, hx⟩ := hget i x hi
    obtain ⟨m1, m2, m3⟩ := hh.own i x c hx hc
    exact ⟨m1, by rw [freeze_size]; exact m2, m3⟩
  · obtain ⟨m1, m2, m3⟩ := hh.marks d x hd
    exact ⟨m1, (freeze_other w _ n (fun q => by rw [q, k3] at hd; cases hd)).trans m2, m3⟩
theorem drop_kept {id : Nat} {x : AObj} (ho : h id = some x) : Kept β β h (updF h [(id, none)]) nid := fun i _ hf => by
  have hne : i ≠ id := fun q => by rw [q, ho] at hf; cases hf
  exact ⟨by rw [updF_one, if_neg hne]; exact hf, rfl, fun _ => rfl⟩

theorem run_sliceData_nil (ats : Array TypeId) (ty : TypeId) : (Builtin.unsafeSliceData_ ats ty #[.slice none 0 0]).run P w = .ok (.pointer none) w := rfl
theorem run_sliceData (ats : Array TypeId) (ty : TypeId) (a : Addr) (n c : Nat) (hc : c ≠ 0) : (Builtin.unsafeSliceData_ ats ty #[.slice (some a) n c]).run P w = .ok (.pointer (some a)) w := by
  have h : Builtin.unsafeSliceData_ ats ty #[.slice (some a) n c] = (if c ≠ 0 then (pure (.pointer (some a)) : Sem Value) else (do
      if (← viewAt a.block).isSome then pure (.pointer (some a)) else pure (.pointer (some ⟨← newObj (.view a (← elemOf ty)), 0, none⟩)))) := rfl
  rw [h, if_pos hc]; rfl

theorem evOp_call (hE : ∀ t ti, E.ty t = some ti → TyOk P t ti) (hf : FrM β G ρ a.tmps) (hh : HR E w0 G0 D w β G h) (hfr : Fresh β h nid) {c : Call} (ho : o.op = .call c) {r : Out}
    (hd : evOp E nid ρ h (.call c) = some r) : OpRes P E w0 G0 D o a w β G h nid r := by
  have hexec : ∀ b, c.callee = .builtin b → ∃ cs, execOp a.eval o = Go.builtin b c.argTypes o.type cs (c.args.map a.eval) := fun b hb => by
    refine ⟨c.args.map fun | .const _ => true | _ => false, ?_⟩
    unfold execOp; rw [ho]; simp [resolve, hb, invoke]; rfl
  simp only [evOp] at hd
  split at hd
  · rename_i hb
    split at hd
    · rename_i x t ts hx ht
      obtain ⟨ti, hti, hd⟩ := some_bind hd
      obtain ⟨d, hdx, hd⟩ := some_bind hd
      obtain ⟨u, hu, hd⟩ := some_bind hd
      cases hd
      have hts : c.argTypes[0]? = some t := by rw [arr_of ht]; simp
      obtain ⟨v, h1, h2⟩ := len_sound (ty := o.type) hh (hE t ti hti) hts hu (eval_rep hf hdx)
      refine OpRes.pure hh (v := v) ?_ h2
      obtain ⟨cs, hcs⟩ := hexec _ hb
      rw [hcs, arr_of hx]
      simp [Go.builtin, h1]
    · cases hd
  · rename_i hb
    split at hd
    · rename_i s x t t' hx ht
      obtain ⟨ds, hds, hd⟩ := some_bind hd
      obtain ⟨dx, hdx, hd⟩ := some_bind hd
      obtain ⟨v, w', β', h1, h2, h3, h4, h5⟩ := append_sound (ty := o.type) hE hh hfr (eval_rep hf hds) (eval_rep hf hdx) hd
      refine ⟨.value v, v, w', β', G, ?_, .inl rfl, h2, h3, h4, h5⟩
      obtain ⟨cs, hcs⟩ := hexec _ hb
      rw [hcs, arr_of hx, arr_of ht]
      simp [Go.builtin, h1]
    · cases hd
  · rename_i hb
    obtain ⟨cs, hcs⟩ := hexec _ hb
    split at hd
    · rename_i x hx
      obtain ⟨d, hdx, hd⟩ := some_bind hd
      have hr := eval_rep hf hdx
      split at hd
      · obtain rfl := ret_some hd
        rw [rep_nils] at hr
        refine OpRes.pure hh (v := .pointer none) ?_ (rep_nilp.2 rfl)
        rw [hcs, arr_of hx]
        simp only [List.map_toArray, List.map_cons, List.map_nil, hr, Go.builtin, Sem.run_bind, run_sliceData_nil]; rfl
      · rename_i id v
        obtain ⟨ob, ho2, hd⟩ := some_bind hd
        split at hd
        · rename_i e c es p u
          obtain ⟨hq, hd⟩ := bif_some hd
          obtain rfl := Nat.eq_of_beq_eq_true hq
          obtain rfl := ret_some hd
          obtain ⟨hdr, vals, h1, h2, _⟩ := hh.obj id _ ho2
          obtain ⟨hv, _⟩ := rep_rs.1 hr
          rw [hv] at h1; cases h1
          rcases h2.2 with ⟨_, hz⟩ | ⟨g, cap, cur, hg, _, _, hn, _⟩
          · simp at hz
          · have hc0 : cap ≠ 0 := by simp only [List.length_cons] at hn; omega
            rw [hg] at hv
            refine OpRes.pure hh (v := .pointer (some ⟨g, 0, none⟩)) ?_ (rep_rptr.2 ⟨g, _, cap, hv, by simp⟩)
            rw [hcs, arr_of hx]
            simp only [List.map_toArray, List.map_cons, List.map_nil, hg, Go.builtin, Sem.run_bind, run_sliceData _ _ _ _ _ hc0]; rfl
        · cases hd
      · cases hd
    · cases hd
  · rename_i hb
    obtain ⟨cs, hcs⟩ := hexec _ hb
    split at hd
    · rename_i x n t t' hx ht
      obtain ⟨dx, hdx, hd⟩ := some_bind hd
      obtain ⟨dn, hdn, hd⟩ := some_bind hd
      obtain ⟨ti, hti, hd⟩ := some_bind hd
      have hr := eval_rep hf hdx
      have hrn := eval_rep hf hdn
      have hu := (hE t ti hti).desc
      split at hd
      · obtain rfl := ret_some hd
        rw [rep_nilp] at hr
        rw [rep_int] at hrn
        refine OpRes.pure hh (v := .string .empty) ?_ (rep_str.2 rfl)
        rw [hcs, arr_of hx, arr_of ht]
        simp [Go.builtin, hr, hrn, Lib.run_unsafeString_none]
      · rename_i id v k e _ _ _
        have hk : ti.k = TK.ptr e := by assumption
        rw [hk] at hu
        obtain ⟨ob, ho2, hd⟩ := some_bind hd
        split at hd
        · rename_i e' es p u
          obtain ⟨hq, hdz⟩ := bif_some hd
          clear hd
          simp only [Bool.and_eq_true] at hq
          obtain ⟨⟨⟨⟨q1, q2⟩, q3⟩, q4⟩, q5⟩ := hq
          obtain rfl := Nat.eq_of_beq_eq_true q1
          obtain rfl := Nat.eq_of_beq_eq_true q2
          have q3 : k = (es.length : Nat) := by simpa using q3
          subst q3
          have q4 : 0 < es.length := Nat.le_of_ble_eq_true q4
          have q5 := Nat.le_of_ble_eq_true q5
          obtain ⟨l, hl, hdz⟩ := some_bind hdz
          cases hdz
          have hes := unbytes_eq hl
          obtain ⟨hdr, vals, h1, h2, h3, h4, h5, h6, h7⟩ := hh.obj id _ ho2
          obtain ⟨b, m, c, hv, he⟩ := rep_rptr.1 hr
          rw [hv] at h1; cases h1
          have hll : es.length = l.length := by rw [hes]; simp
          have hsz : eszOf E e = 1 := by
            rw [← (h4 _ (List.getElem_mem q4)).1]
            simp only [hes, List.getElem_map]; rfl
          have hcell : P.cellsOf e = 1 := by
            unfold eszOf at hsz
            cases hte : E.ty e with
            | none => rw [hte] at hsz; cases hsz
            | some ei =>
              rw [hte] at hsz
              obtain ⟨i, z, k1, k2, _⟩ := (hE e ei hte).info
              simp [Program.cellsOf, k1, k2]; exact hsz
          rcases h2.2 with ⟨hg, _⟩ | ⟨g, cap, cur, hg, _, hgc, hn, _, hcs2, htk⟩
          · cases hg
          · cases hg
            rw [hsz, Nat.mul_one] at htk
            rw [hsz, Nat.mul_one] at hcs2
            have hvals : vals = l.map fun x => Value.int .u8 x.toNat := by
              rw [hes] at h3
              exact bytes_rep l vals h3
            have hcur : ∀ (j : Nat) (x : UInt8), l[j]? = some x → cur[j]? = some (Value.int .u8 x.toNat) := fun j x hj => by
              have : vals[j]? = some (Value.int .u8 x.toNat) := by rw [hvals, List.getElem?_map, hj]; rfl
              rw [← htk, List.getElem?_take] at this
              split at this
              · simpa using this
              · cases this
            have hrun := Lib.run_unsafeString_row (P := P) w t t' o.type e hu hcell b cur.size (by simp [World.shape?, hgc]) l (fun hn => by rw [hn] at hll; rw [hll] at q4; exact absurd q4 (by simp)) (by omega) (by omega) (fun j x hj => by
              rw [addr_add]; simp [World.cell?, hgc, hcur j x hj])
            refine ⟨.value (.string ⟨l.toArray⟩), _, w.freeze ⟨b, 0, none⟩ l.length, β, G, ?_, .inl rfl, fun d hd => by cases hd; exact rep_str.2 rfl, Ext.refl β G, hh.dropRow ho2 ⟨_, _, hv⟩ _, drop_kept ho2⟩
            rw [hcs, arr_of hx, arr_of ht]
            rw [rep_int] at hrn
            rw [hll] at hrn
            have he : a.eval x = .pointer (some ⟨b, 0, none⟩) := by simpa using he
            simp [Go.builtin, he, hrn, hrun]
        · cases hd
      · cases hd
    · cases hd
  · rename_i hb
    obtain ⟨vs, hvs, hd⟩ := some_bind hd
    split at hd
    · rename_i x xs
      obtain ⟨d, hdd, hd⟩ := some_bind hd
      cases hd
      have hr := evals_rep hf hvs
      obtain ⟨v, vs', he, hr1, hr2⟩ := repL_cons.1 hr
      obtain ⟨u, h1, h2⟩ := foldD_sound (P := P) (w := w) (β := β) (G := G) (g := Builtin.min2) min2_sound hdd hr1 hr2
      refine OpRes.pure hh (v := u) ?_ h2
      obtain ⟨cs, hcs⟩ := hexec _ hb
      rw [hcs]
      simp [Go.builtin, Builtin.min_, he, h1]
    · cases hd
  · rename_i hb
    obtain ⟨vs, hvs, hd⟩ := some_bind hd
    split at hd
    · rename_i x xs
      obtain ⟨d, hdd, hd⟩ := some_bind hd
      cases hd
      have hr := evals_rep hf hvs
      obtain ⟨v, vs', he, hr1, hr2⟩ := repL_cons.1 hr
      obtain ⟨u, h1, h2⟩ := foldD_sound (P := P) (w := w) (β := β) (G := G) (g := Builtin.max2) max2_sound hdd hr1 hr2
      refine OpRes.pure hh (v := u) ?_ h2
      obtain ⟨cs, hcs⟩ := hexec _ hb
      rw [hcs]
      simp [Go.builtin, Builtin.max_, he, h1]
    · cases hd
  · cases hd

theorem evOp_sound (hE : ∀ t ti, E.ty t = some ti → TyOk P t ti) (hf : FrM β G ρ a.tmps) (hh : HR E w0 G0 D w β G h) (hfr : Fresh β h nid) {r : Out}
    (hd : evOp E nid ρ h o.op = some r) : OpRes P E w0 G0 D o a w β G h nid r := by
  cases ho : o.op with
  | call c => rw [ho] at hd; exact evOp_call hE hf hh hfr ho hd
  | move x =>
    rw [ho] at hd; simp only [evOp] at hd
    obtain ⟨d, h1, hd⟩ := some_bind hd
    cases hd
    exact OpRes.pure hh (by unfold execOp; rw [ho]; rfl) (eval_rep hf h1)
  | assign x =>
    rw [ho] at hd; simp only [evOp] at hd
    obtain ⟨d, h1, hd⟩ := some_bind hd
    cases hd
    exact OpRes.pure hh (by unfold execOp; rw [ho]; rfl) (eval_rep hf h1)
  | pick c x y =>
    rw [ho] at hd; simp only [evOp] at hd
    obtain ⟨dc, hc, hd⟩ := some_bind hd
    split at hd
    · rename_i b
      have hcv := rep_bool.1 (eval_rep hf hc)
      have hr : (execOp a.eval o).run P w = .ok (.value (if b then a.eval x else a.eval y)) w := by
        unfold execOp; rw [ho]; simp [hcv, asBool]
      cases b
      · obtain ⟨d, h1, hd⟩ := some_bind hd
        cases hd
        exact OpRes.pure hh hr (eval_rep hf h1)
      · obtain ⟨d, h1, hd⟩ := some_bind hd
        cases hd
        exact OpRes.pure hh hr (eval_rep hf h1)
    · cases hd
  | alloc t =>
    rw [ho] at hd; simp only [evOp] at hd
    obtain ⟨ti, hti, hd⟩ := some_bind hd
    cases hd
    exact alloc_sound hh hfr (hE t ti hti) ho
  | box t x =>
    rw [ho] at hd; simp only [evOp] at hd
    obtain ⟨d, h1, hd⟩ := some_bind hd
    obtain ⟨hq, hd⟩ := bif_some hd
    cases hd
    exact box_sound hh hfr ho (eval_rep hf h1) hq
  | build t ps =>
    rw [ho] at hd; simp only [evOp] at hd
    have hrf : ∃ d, r = ⟨some d, []⟩ := by
      obtain ⟨ti, hti, hd⟩ := some_bind hd
      obtain ⟨vs, hvs, hd⟩ := some_bind hd
      split at hd
      · obtain ⟨cs, hcs, hd⟩ := some_bind hd
        cases hd; exact ⟨_, rfl⟩
      · obtain ⟨ei, hei, hd⟩ := some_bind hd
        obtain ⟨cs, hcs, hd⟩ := some_bind hd
        cases hd; exact ⟨_, rfl⟩
      · cases hd
    obtain ⟨d, rfl⟩ := hrf
    obtain ⟨v, h1, h2⟩ := build_sound (P := P) (w := w) (β := β) (G := G) hE hf hd
    exact OpRes.pure hh (run_w (by unfold execOp; rw [ho]) h1) h2
  | buildSlice t n ps =>
    rw [ho] at hd
    obtain ⟨v, w', β', G', h1, h2, h3, h4, h5⟩ := buildSlice_sound (P := P) (a := a) hE hf hh hfr hd
    exact ⟨.value v, v, w', β', G', run_w (by unfold execOp; rw [ho]) h1, .inl rfl, h2, h3, h4, h5⟩
  | load t x =>
    rw [ho] at hd; simp only [evOp] at hd
    obtain ⟨ti, hti, hd⟩ := some_bind hd
    obtain ⟨dx, hx, hd⟩ := some_bind hd
    obtain ⟨d, h1, hd⟩ := some_bind hd
    cases hd
    obtain ⟨v, h2, h3⟩ := load_sound hE hh (hE t ti hti) (hE t ti hti).ko (eval_rep hf hx) h1
    exact OpRes.pure hh (run_w (by unfold execOp; rw [ho]) h2) h3
  | store t x y =>
    rw [ho] at hd; simp only [evOp] at hd
    obtain ⟨ti, hti, hd⟩ := some_bind hd
    obtain ⟨dx, hx, hd⟩ := some_bind hd
    obtain ⟨dy, hy, hd⟩ := some_bind hd
    obtain ⟨us, h1, hd⟩ := some_bind hd
    cases hd
    obtain ⟨w', h2, h3, h4⟩ := store_sound (nid := nid) hh (hE t ti hti) (eval_rep hf hx) (eval_rep hf hy) h1
    exact ⟨.skip, undef, w', β, G, run_u (by unfold execOp; rw [ho]) h2, .inr ⟨rfl, rfl⟩, fun d hd => by cases hd; exact rep_undef, Ext.refl β G, h3, h4⟩
  | nilCheck x =>
    rw [ho] at hd; simp only [evOp] at hd
    obtain ⟨d, h1, hd⟩ := some_bind hd
    have hr := eval_rep hf h1
    have key : ∀ A, a.eval x = .pointer (some A) → (execOp a.eval o).run P w = .ok (.value (a.eval x)) w := fun A hA => by
      unfold execOp; rw [ho]; simp [hA]
    split at hd
    · cases hd
      obtain ⟨b, _, h2⟩ := rep_ptr.1 hr
      exact OpRes.pure hh (key _ h2) hr
    · cases hd
      obtain ⟨b, _, _, _, h2⟩ := rep_rptr.1 hr
      exact OpRes.pure hh (key _ h2) hr
    · cases hd
      obtain ⟨_, b, _, h2, _⟩ := rep_pub.1 hr
      exact OpRes.pure hh (key _ h2) hr
    · cases hd
  | binOp op t x y z =>
    rw [ho] at hd; simp only [evOp] at hd
    obtain ⟨dx, hx, hd⟩ := some_bind hd
    obtain ⟨dy, hy, hd⟩ := some_bind hd
    obtain ⟨d, h1, hd⟩ := some_bind hd
    cases hd
    split at h1
    · have e1 := rep_nilif.1 (eval_rep hf hx)
      have e2 := rep_nilif.1 (eval_rep hf hy)
      obtain ⟨hc, h1⟩ := bif_some h1
      obtain ⟨v, h2, h3⟩ := nilD_sound (P := P) (w := w) (β := β) (G := G) (x := x) (y := y) hE hc h1
      exact OpRes.pure hh (run_w (by unfold execOp; rw [ho]) (by rw [e1, e2]; exact h2)) h3
    · obtain ⟨v, h2, h3⟩ := binD_sound (P := P) (w := w) (x := x) (y := y) hE h1 (eval_rep hf hx) (eval_rep hf hy)
      exact OpRes.pure hh (run_w (by unfold execOp; rw [ho]) h2) h3
  | unOp op t x =>
    rw [ho] at hd; simp only [evOp] at hd
    obtain ⟨dx, hx, hd⟩ := some_bind hd
    obtain ⟨d, h1, hd⟩ := some_bind hd
    cases hd
    obtain ⟨v, h2, h3⟩ := unD_sound (P := P) (w := w) h1 (eval_rep hf hx)
    exact OpRes.pure hh (run_w (by unfold execOp; rw [ho]) h2) h3
  | convert s t x =>
    rw [ho] at hd; simp only [evOp] at hd
    obtain ⟨si, hsi, hd⟩ := some_bind hd
    obtain ⟨ti, hti, hd⟩ := some_bind hd
    obtain ⟨dx, hx, hd⟩ := some_bind hd
    obtain ⟨us, hus⟩ := (hE s si hsi).und
    have hdesc := (hE t ti hti).desc
    have hr := eval_rep hf hx
    cases hk : ti.k with
    | int k =>
      rw [hk] at hd hdesc
      cases dx with
      | int k' n =>
      cases hd
      rw [rep_int] at hr
      refine OpRes.pure hh (run_w (v := .int k (k.wrap n)) (by unfold execOp; rw [ho]) ?_) (rep_int.2 rfl)
      simp [convert, Go.run_underlying hus, Go.run_underlying hdesc, hr, Conv.intToInt]
      | _ => cases hd
    | string =>
      rw [hk] at hd hdesc
      cases dx with
      | str s' =>
      cases hd
      rw [rep_str] at hr
      refine OpRes.pure hh (run_w (v := .string s') (by unfold execOp; rw [ho]) ?_) (rep_str.2 rfl)
      simp [convert, Go.run_underlying hus, Go.run_underlying hdesc, hr]
      | _ => cases hd
    | _ => rw [hk] at hd; cases hd
  | makeInterface t x =>
    rw [ho] at hd; simp only [evOp] at hd
    obtain ⟨ti, hti, hd⟩ := some_bind hd
    obtain ⟨dx, hx, hd⟩ := some_bind hd
    have hk : ti.k ≠ .iface := fun e => by rw [e] at hd; cases hd
    have hd' : ret (.iface t dx) = some r := by
      cases hkk : ti.k <;> rw [hkk] at hd <;> first | exact hd | exact absurd hkk hk
    rw [ret_some hd']
    obtain ⟨h1, h2⟩ := makeIface_sound (P := P) (w := w) (hE t ti hti) hk (eval_rep hf hx)
    exact OpRes.pure hh (run_w (by unfold execOp; rw [ho]) h1) h2
  | typeAssert x xt t ok =>
    rw [ho] at hd; simp only [evOp] at hd
    obtain ⟨ti, hti, hd⟩ := some_bind hd
    obtain ⟨dx, hx, hd⟩ := some_bind hd
    have hk : ti.k ≠ .iface := fun e => by rw [e] at hd; cases dx <;> cases hd
    have : ∃ d, (match dx with
      | .nilif => bif ok then (zeroOf ti).bind fun z => some (.tup [z, .bool false]) else none
      | .iface t' v => bif Nat.beq t' t then some (bif ok then .tup [v, .bool true] else v) else bif ok then (zeroOf ti).bind fun z => some (.tup [z, .bool false]) else none
      | _ => none : Option DV) = some d ∧ r = ⟨some d, []⟩ := by
      cases dx with
      | nilif =>
        have hd' : (bif ok then (zeroOf ti).bind fun z => ret (.tup [z, .bool false]) else none) = some r := by
          cases hkk : ti.k <;> rw [hkk] at hd <;> first | exact hd | exact absurd hkk hk
        cases ok with
        | false => cases hd'
        | true =>
          obtain ⟨z, hz, hd'⟩ := some_bind hd'
          exact ⟨_, by simp [hz], ret_some hd'⟩
      | iface t' v =>
        have hd' : (bif Nat.beq t' t then ret (bif ok then .tup [v, .bool true] else v) else bif ok then (zeroOf ti).bind fun z => ret (.tup [z, .bool false]) else none) = some r := by
          cases hkk : ti.k <;> rw [hkk] at hd <;> first | exact hd | exact absurd hkk hk
        simp only
        cases hq : Nat.beq t' t with
        | true => rw [hq] at hd'; exact ⟨_, rfl, ret_some hd'⟩
        | false =>
          rw [hq] at hd'
          cases ok with
          | false => cases hd'
          | true =>
            obtain ⟨z, hz, hd'⟩ := some_bind hd'
            exact ⟨_, by simp [hz], ret_some hd'⟩
      | _ => cases hkk : ti.k <;> rw [hkk] at hd <;> cases hd
    obtain ⟨d, h1, rfl⟩ := this
    obtain ⟨v, h2, h3⟩ := typeAssert_sound (P := P) (w := w) (xt := xt) (hE t ti hti) hk h1 (eval_rep hf hx)
    exact OpRes.pure hh (run_w (by unfold execOp; rw [ho]) h2) h3
  | makeSlice t l c =>
    rw [ho] at hd; simp only [evOp] at hd
    obtain ⟨ti, hti, hd⟩ := some_bind hd
    obtain ⟨dl, hl, hd⟩ := some_bind hd
    obtain ⟨dc, hc, hd⟩ := some_bind hd
    cases hk : ti.k with
    | slice e =>
     rw [hk] at hd
     obtain ⟨k1, n, rfl⟩ : ∃ k n, dl = .int k n := by cases dl <;> first | exact ⟨_, _, rfl⟩ | cases hd
     obtain ⟨k2, n', rfl⟩ : ∃ k n, dc = .int k n := by cases dc <;> first | exact ⟨_, _, rfl⟩ | cases hd
     simp only at hd
     obtain ⟨ei, hei, hd⟩ := some_bind hd
     obtain ⟨hq, hd⟩ := bif_some hd
     cases hd
     simp only [Bool.and_eq_true, decide_eq_true_eq, beq_iff_eq] at hq
     obtain ⟨⟨⟨⟨q1, q2⟩, q3⟩, q4⟩, q5⟩ := hq
     subst q1
     have e1 := eval_rep hf hl
     have e2 := eval_rep hf hc
     rw [rep_int] at e1 e2
     obtain ⟨v, w', β', h1, h2, h3, h4, h5⟩ := makeSlice_sound (P := P) (k1 := k1) (k2 := k2) hE hh hfr (hE t ti hti) hk hei q2 (Nat.le_of_ble_eq_true q3) (Nat.le_of_ble_eq_true q4) q5
     rw [← e1, ← e2] at h1
     exact ⟨_, v, w', β', G, run_w (by unfold execOp; rw [ho]) h1, .inl rfl, fun d hd => by cases hd; exact h2, h3, h4, h5⟩
    | _ => rw [hk] at hd; cases hd
  | makeFunc f x y =>
    rw [ho] at hd; simp only [evOp] at hd
    obtain ⟨dx, hx, hd⟩ := some_bind hd
    obtain ⟨dy, hy, hd⟩ := some_bind hd
    cases hd
    refine OpRes.pure hh (run_w (v := .func f (x.map a.eval) (y.map a.eval)) (by unfold execOp; rw [ho]) rfl) (rep_fn.2 ⟨_, _, ?_, evals_rep hf hx, evals_rep hf hy⟩)
    congr 1 <;> (apply Array.ext'; simp)
  | makeMap t x =>
    cases x with
    | some x => rw [ho] at hd; simp [evOp] at hd
    | none =>
      rw [ho] at hd; simp only [evOp] at hd
      cases hd
      obtain ⟨β', h1, h2, h3, h4⟩ := map_lay hh hfr
      refine ⟨_, .map (some w.heap.size), _, β', G, run_w (by unfold execOp; rw [ho]) ?_, .inl rfl, fun d hd => by cases hd; exact rep_map.2 ⟨_, h2, rfl⟩, h1, h3, h4⟩
      simp [Instr.makeMap]
  | slice t x lo hi mx =>
    cases mx with
    | some m => rw [ho] at hd; simp [evOp] at hd
    | none =>
      rw [ho] at hd; simp only [evOp] at hd
      obtain ⟨ti, hti, hd⟩ := some_bind hd
      obtain ⟨dx, hx, hd⟩ := some_bind hd
      obtain ⟨dl, hl, hd⟩ := some_bind hd
      obtain ⟨dh, hhi, hd⟩ := some_bind hd
      have hdesc := (hE t ti hti).desc
      have hr := eval_rep hf hx
      have hlo := opt_rep hf hl
      have hhr := opt_rep hf hhi
      cases hk : ti.k with
      | string =>
        rw [hk] at hdesc hd
        cases dx with
        | str s =>
          obtain ⟨d, h1, hd⟩ := some_bind hd
          cases hd
          rw [rep_str] at hr
          unfold subStr at h1
          obtain ⟨m, k1, h1⟩ := some_bind h1
          obtain ⟨l, k2, h1⟩ := some_bind h1
          cases h1
          obtain ⟨k3, _, _⟩ := bounds_sound (P := P) (w := w) (isSlice := false) hlo hhr k1 k2 (Nat.le_refl _)
          refine OpRes.pure hh (run_w (v := .string (s.extract l m)) (by unfold execOp; rw [ho]) ?_) (rep_str.2 rfl)
          simp [Instr.sliceAt, Instr.slice, Go.run_underlying hdesc, hr, k3]
        | _ => cases hd
      | array n e =>
        rw [hk] at hd
        cases dx with
        | ptr id off =>
          simp only at hd
          obtain ⟨ei, hei, hd⟩ := some_bind hd
          obtain ⟨ob, hob, hd⟩ := some_bind hd
          cases ob with
          | cells ct cs =>
            obtain ⟨hq, hd⟩ := bif_some hd
            obtain ⟨d, h1, hd⟩ := some_bind hd
            cases hd
            simp only [Bool.and_eq_true] at hq
            obtain ⟨v, G1, h2, h3, h4, h5⟩ := sliceArr_sound (P := P) hE hh (hE t ti hti) hk hei hr hob (Nat.le_of_ble_eq_true hq.1.1) (Nat.le_of_ble_eq_true hq.1.2) hq.2 hlo hhr h1
            exact ⟨_, v, w, β, G1, run_w (by unfold execOp; rw [ho] <;> rfl) h2, .inl rfl, fun d hd => by cases hd; exact h3, h4, h5, fun i _ hq => ⟨by rw [updF_one]; split; exact rfl; exact hq, rfl, fun _ => rfl⟩⟩
          | _ => cases hd
        | pub cs =>
          simp only at hd
          obtain ⟨ei, hei, hd⟩ := some_bind hd
          obtain ⟨hq, hd⟩ := bif_some hd
          obtain ⟨d, h1, hd⟩ := some_bind hd
          cases hd
          simp only [Bool.and_eq_true] at hq
          obtain ⟨v, h2, h3⟩ := slicePub_sound (P := P) (w := w) hE (hE t ti hti) hk hei hr (Nat.le_of_ble_eq_true hq.1) hq.2 hlo hhr h1
          exact OpRes.pure hh (run_w (by unfold execOp; rw [ho] <;> rfl) h2) h3
        | _ => cases hd
      | slice e =>
        rw [hk] at hd
        simp only at hd
        obtain ⟨ei, hei, hd⟩ := some_bind hd
        obtain ⟨es, hes, hd⟩ := some_bind hd
        obtain ⟨hq, hd⟩ := bif_some hd
        simp only [Bool.and_eq_true, List.all_eq_true] at hq
        have hql : ∀ c ∈ es, c.length = ei.size := fun c hc => Nat.eq_of_beq_eq_true (hq.1 c hc)
        cases hvw : ti.view && hidden h dx with
        | true =>
          rw [hvw] at hd
          simp only [cond_true] at hd
          obtain ⟨d, h1, hd⟩ := some_bind hd
          cases hd
          obtain ⟨v, h2, h3⟩ := view_sound (P := P) (w := w) hh (hE t ti hti) hk (hE e ei hei) hes hr hlo hhr h1
          exact OpRes.pure hh (run_w (by unfold execOp; rw [ho] <;> rfl) h2) h3
        | false =>
        rw [hvw] at hd
        simp only [cond_false] at hd
        obtain ⟨d, h1, hd⟩ := some_bind hd
        cases hd
        obtain ⟨G1, hx1, hh1, hs1⟩ := show_rows hh (rowsOf dx)
        have hsh : ∃ A c, a.eval x = .slice A es.length c ∧ es.length ≤ c ∧ (es = [] ∨ ∃ b off, A = some ⟨b, off, none⟩ ∧ PubE β G1 b ei.size off es) := by
          cases dx with
          | nils => cases hes; exact ⟨none, 0, rep_nils.1 hr, Nat.le_refl _, .inl rfl⟩
          | sl es' =>
            cases hes
            obtain ⟨A, c, ⟨k1, k2⟩, k3⟩ := rep_sl.1 hr
            refine ⟨A, c, k1, k2, ?_⟩
            rcases k3 with k3 | ⟨b, off, e', k3, k4⟩
            · exact .inl k3
            · exact pubE_resize (PubE.mono hx1 _ _ _ _ k4) hql |>.imp (fun z => z) fun k => ⟨b, off, k3, k⟩
          | rs id ver =>
            simp only [elemsOf] at hes
            obtain ⟨ob, hob, hes⟩ := some_bind hes
            split at hes
            · rename_i t' es' p u
              obtain ⟨hu, hes⟩ := bif_some hes
              cases hes
              have hu : u = ver := Nat.eq_of_beq_eq_true hu
              subst hu
              obtain ⟨p', hp'⟩ := show_same h (rowsOf (.rs id u)) _ _ _ _ _ hob
              obtain ⟨hdr, k1, A, c, ⟨k2, k3⟩, k4⟩ := hs1 id (by simp [rowsOf]) _ _ _ _ hp'
              obtain ⟨k5, _⟩ := rep_rs.1 hr
              rw [k1] at k5; cases k5
              refine ⟨A, c, k2, k3, ?_⟩
              rcases k4 with k4 | ⟨b, k4, k6⟩
              · exact .inl k4
              · exact pubE_resize k6 hql |>.imp (fun z => z) fun k => ⟨b, 0, k4, k⟩
            · cases hes
          | rv id ver i n e' =>
            simp only [elemsOf] at hes
            obtain ⟨ob, hob, hes⟩ := some_bind hes
            split at hes
            · rename_i t' es' p u
              obtain ⟨hu, hes⟩ := bif_some hes
              cases hes
              simp only [Bool.and_eq_true, List.all_eq_true] at hu
              obtain ⟨hu, hlen⟩ := hu
              have hu : u = ver := Nat.eq_of_beq_eq_true hu
              subst hu
              obtain ⟨p', hp'⟩ := show_same h (rowsOf (.rv id u i n e')) _ _ _ _ _ hob
              obtain ⟨hdr, k1, A, c, ⟨k2, k3⟩, k4⟩ := hs1 id (by simp [rowsOf]) _ _ _ _ hp'
              obtain ⟨a0, m, c0, a', c', k5, k7, k8, hle, hz⟩ := rep_rv.1 hr
              rw [k1, k2] at k5
              cases k5
              have hnl : ((es'.drop i).take n).length = n := by simp; omega
              refine ⟨_, c', by rw [hnl]; exact k7, by rw [hnl]; exact k8, ?_⟩
              rcases hz with hz | ⟨b, hz1, hz2⟩
              · exact .inl (by rw [hz]; simp)
              rcases k4 with k4 | ⟨b', k4, k6⟩
              · exact .inl (by rw [k4]; simp)
              · rw [hz1] at k4
                cases k4
                rcases pubE_resize (e' := e') k6 (fun c hc => Nat.eq_of_beq_eq_true (hlen c hc)) with k | k
                · exact .inl (by rw [k]; simp)
                · have := pubE_take n (pubE_drop i k)
                  rw [Nat.zero_add] at this
                  exact pubE_resize this hql |>.imp (fun z => z) fun k => ⟨_, i * e', hz2, k⟩
            · cases hes
          | _ => cases hes
        obtain ⟨v, h2, h3⟩ := slice_sound (P := P) (w := w) (hE t ti hti) hk (hE e ei hei) hsh (opt_mono hx1 hlo) (opt_mono hx1 hhr) h1
        exact ⟨_, v, w, β, G1, run_w (by unfold execOp; rw [ho] <;> rfl) h2, .inl rfl, fun d hd => by cases hd; exact h3, hx1, hh1, show_kept _⟩
      | _ => rw [hk] at hd; cases hd
  | fieldAddr s x f =>
    rw [ho] at hd; simp only [evOp] at hd
    obtain ⟨ti, hti, hd⟩ := some_bind hd
    obtain ⟨dx, hx, hd⟩ := some_bind hd
    split at hd
    · rename_i fs hk
      obtain ⟨⟨ft, off⟩, hfs, hd⟩ := some_bind hd
      obtain ⟨fi, hfi, hd⟩ := some_bind hd
      obtain ⟨hq, hd⟩ := bif_some hd
      obtain ⟨d, h1, hd⟩ := some_bind hd
      cases hd
      obtain ⟨v, h2, h3⟩ := fieldAt_sound (P := P) (w := w) hE (hE s ti hti) hk hfs hfi (Nat.le_of_ble_eq_true hq) (eval_rep hf hx) h1
      exact OpRes.pure hh (run_w (by unfold execOp; rw [ho]) h2) h3
    · cases hd
  | field s x f =>
    rw [ho] at hd; simp only [evOp] at hd
    obtain ⟨ti, hti, hd⟩ := some_bind hd
    obtain ⟨dx, hx, hd⟩ := some_bind hd
    have : ∃ d, (match ti.k, dx with
      | .struct fs, .agg cs => (fs[f]?).bind fun (ft, off) => (E.ty ft).bind fun fi => partOf fi cs off
      | _, _ => none) = some d ∧ r = ⟨some d, []⟩ := by
      split at hd
      · rename_i hk2
        obtain ⟨⟨ft, off⟩, hfs, hd⟩ := some_bind hd
        obtain ⟨fi, hfi, hd⟩ := some_bind hd
        obtain ⟨d, h1, hd⟩ := some_bind hd
        cases hd
        exact ⟨d, by (try rw [hk2]); simp only at hfi h1; simp [hfs, hfi, h1], rfl⟩
      · cases hd
    obtain ⟨d, h1, rfl⟩ := this
    obtain ⟨v, h2, h3⟩ := field_sound (P := P) (w := w) hE (hE s ti hti) h1 (eval_rep hf hx)
    exact OpRes.pure hh (run_w (by unfold execOp; rw [ho]) h2) h3
  | indexAddr t x i =>
    rw [ho] at hd; simp only [evOp] at hd
    obtain ⟨ti, hti, hd⟩ := some_bind hd
    obtain ⟨dx, hx, hd⟩ := some_bind hd
    obtain ⟨di, hi, hd⟩ := some_bind hd
    have hrx := eval_rep hf hx
    have hri := eval_rep hf hi
    cases hk : ti.k with
    | array len e =>
      rw [hk] at hd
      obtain ⟨ei, hei, hd⟩ := some_bind hd
      obtain ⟨j, hj, hd⟩ := some_bind hd
      obtain ⟨d, h1, hd⟩ := some_bind hd
      cases hd
      obtain ⟨v, h2, h3⟩ := indexAt_array (P := P) (w := w) (hE t ti hti) hk (hE e ei hei) hrx hri hj h1
      exact OpRes.pure hh (run_w (by unfold execOp; rw [ho]) h2) h3
    | slice e =>
      rw [hk] at hd
      simp only at hd
      obtain ⟨ei, hei, hd⟩ := some_bind hd
      cases dx with
      | sl es =>
        obtain ⟨j, hj, hd⟩ := some_bind hd
        obtain ⟨c, hc, hd⟩ := some_bind hd
        obtain ⟨hq, hd⟩ := bif_some hd
        cases hd
        simp only [Bool.and_eq_true] at hq
        have hcl : c.length = ei.size := Nat.eq_of_beq_eq_true hq.1
        obtain ⟨A, cap, ⟨k1, k2⟩, k3⟩ := rep_sl.1 hrx
        rcases k3 with k3 | ⟨b, off, e', rfl, k4⟩
        · subst k3; simp at hc
        · obtain ⟨m1, m2, m3⟩ := pubE_get k4 hc
          have he : e' = ei.size := by omega
          subst he
          have h2 := indexAt_slice (P := P) (w := w) (c := cap) (A := ⟨b, off, none⟩) (hE t ti hti) hk (hE e ei hei) hri hj
          refine OpRes.pure hh (run_w (v := .pointer (some ((⟨b, off, none⟩ : Addr).add (j * ei.size)))) (by unfold execOp; rw [ho]) ?_) (rep_pub.2 ⟨m1, b, off + j * ei.size, by rw [addr_add], ?_⟩)
          · rw [k1]; exact h2
          · exact m2
      | rs id ver =>
        obtain ⟨ob, hob, hd⟩ := some_bind hd
        split at hd
        · rename_i t' es p u
          obtain ⟨j, hj, hd⟩ := some_bind hd
          obtain ⟨hq, hd⟩ := bif_some hd
          cases hd
          simp only [Bool.and_eq_true] at hq
          have hu : u = ver := Nat.eq_of_beq_eq_true hq.1
          subst hu
          obtain ⟨k5, _⟩ := rep_rs.1 hrx
          obtain ⟨hdr, vals, n1, n2, _⟩ := hh.obj id _ hob
          rw [n1] at k5; cases k5
          obtain ⟨kk, hkk, hlt⟩ := idx_some hj hri
          rcases n2.2 with ⟨n3, n4⟩ | ⟨g, cap, cur, n3, _⟩
          · omega
          · have h2 := indexAt_slice (P := P) (w := w) (c := cap) (A := ⟨g, 0, none⟩) (hE t ti hti) hk (hE e ei hei) hri hj
            refine OpRes.pure hh (run_w (v := .pointer (some ((⟨g, 0, none⟩ : Addr).add (j * ei.size)))) (by unfold execOp; rw [ho]) ?_) (rep_rptr.2 ⟨g, es.length, cap, by rw [n1, n3], by rw [addr_add]; simp⟩)
            rw [n3]; exact h2
        · cases hd
      | _ => cases hd
    | _ => rw [hk] at hd; cases hd
  | index t x i =>
    rw [ho] at hd; simp only [evOp] at hd
    obtain ⟨ti, hti, hd⟩ := some_bind hd
    obtain ⟨dx, hx, hd⟩ := some_bind hd
    obtain ⟨di, hi, hd⟩ := some_bind hd
    have : ∃ d, (match ti.k, dx with
      | .array len e, .agg cs => (E.ty e).bind fun ei => (idxOf len di).bind fun i => partOf ei cs (i * ei.size)
      | .string, .str s => (idxOf s.size di).bind fun i => (s[i]?).bind fun b => some (.int .u8 b.toNat)
      | _, _ => none) = some d ∧ r = ⟨some d, []⟩ := by
      cases hk2 : ti.k with
      | array len e =>
        rw [hk2] at hd
        cases dx with
        | agg cs =>
          obtain ⟨ei, hei, hd⟩ := some_bind hd
          obtain ⟨j, hj, hd⟩ := some_bind hd
          obtain ⟨d, h1, hd⟩ := some_bind hd
          cases hd
          exact ⟨d, by simp [hei, hj, h1], rfl⟩
        | _ => cases hd
      | string =>
        rw [hk2] at hd
        cases dx with
        | str s =>
          obtain ⟨j, hj, hd⟩ := some_bind hd
          obtain ⟨d, h1, hd⟩ := some_bind hd
          cases hd
          exact ⟨_, by simp [hj, h1], rfl⟩
        | _ => cases hd
      | _ => rw [hk2] at hd; cases hd
    obtain ⟨d, h1, rfl⟩ := this
    obtain ⟨v, h2, h3⟩ := index_sound (P := P) (w := w) hE (hE t ti hti) h1 (eval_rep hf hx) (eval_rep hf hi)
    exact OpRes.pure hh (run_w (by unfold execOp; rw [ho]) h2) h3
  | lookup t m k ok =>
    rw [ho] at hd; simp only [evOp] at hd
    obtain ⟨ti, hti, hd⟩ := some_bind hd
    obtain ⟨dm, hm, hd⟩ := some_bind hd
    obtain ⟨dk, hk, hd⟩ := some_bind hd
    split at hd
    · rename_i kt e hkk
      obtain ⟨ei, hei, hd⟩ := some_bind hd
      obtain ⟨ki, hki, hd⟩ := some_bind hd
      obtain ⟨hq, hd⟩ := bif_some hd
      simp only [Bool.and_eq_true, Bool.not_eq_true'] at hq
      obtain ⟨⟨hq1, hq2⟩, hq3⟩ := hq
      obtain ⟨es, hes, hd⟩ := some_bind hd
      obtain ⟨q, hfind, hd⟩ := some_bind hd
      have hz1 : ∃ z, ei.zero = [z] := by
        obtain ⟨i, zv, _, _, _, _, hzs, hzr⟩ := (hE e ei hei).info
        have := repL_len (hzr β G)
        have hsz : ei.size = 1 := Nat.eq_of_beq_eq_true hq2
        have h1 : ei.zero.length = 1 := by simp at this; omega
        exact List.length_eq_one_iff.1 h1
      obtain ⟨z, hz⟩ := hz1
      obtain ⟨v, h2, h3⟩ := lookup_sound (P := P) (w := w) hE hh (hE t ti hti) hkk (hE e ei hei) (hE kt ki hki) (eval_rep hf hk) hq1 hes hfind hz (Nat.eq_of_beq_eq_true hq2) hq3 ok (eval_rep hf hm)
      rw [hz] at hd
      cases q with
      | some d => cases hd; exact OpRes.pure hh (run_w (by unfold execOp; rw [ho]) h2) h3
      | none => cases hd; exact OpRes.pure hh (run_w (by unfold execOp; rw [ho]) h2) h3
    · cases hd
  | mapUpdate t m k x =>
    rw [ho] at hd; simp only [evOp] at hd
    obtain ⟨ti, hti, hd⟩ := some_bind hd
    obtain ⟨dm, hm, hd⟩ := some_bind hd
    obtain ⟨dk, hk, hd⟩ := some_bind hd
    obtain ⟨dx, hx, hd⟩ := some_bind hd
    cases hkk : ti.k with
    | map kt e =>
      rw [hkk] at hd
      cases dm with
      | map id =>
        obtain ⟨ki, hki, hd⟩ := some_bind hd
        obtain ⟨ob, hob, hd⟩ := some_bind hd
        split at hd
        · rename_i es
          obtain ⟨hq, hd⟩ := bif_some hd
          simp only [Bool.and_eq_true] at hq
          obtain ⟨es', hes, hd⟩ := some_bind hd
          cases hd
          obtain ⟨w', h2, h3, h4⟩ := mapUpdate_sound (P := P) (nid := nid) hh (hE t ti hti) hkk (hE kt ki hki) (eval_rep hf hm) (eval_rep hf hk) (eval_rep hf hx) hq.2 hq.1.1 hob hes
          exact ⟨.skip, undef, w', β, G, run_u (by unfold execOp; rw [ho]) h2, .inr ⟨rfl, rfl⟩, fun d hd => by cases hd; exact rep_undef, Ext.refl β G, h3, h4⟩
        · cases hd
      | _ => cases hd
    | _ => rw [hkk] at hd; cases hd
  | range t x =>
    rw [ho] at hd; simp only [evOp] at hd
    obtain ⟨ti, hti, hd⟩ := some_bind hd
    obtain ⟨dx, hx, hd⟩ := some_bind hd
    have hdesc := (hE t ti hti).desc
    have hr := eval_rep hf hx
    cases hk : ti.k with
    | string =>
      rw [hk] at hd hdesc
      cases dx with
      | str s =>
        rw [rep_str] at hr
        cases hd
        obtain ⟨β', h1, h2, h3, h4⟩ := siter_lay hh hfr s
        refine ⟨_, .pointer (some ⟨w.heap.size, 0, none⟩), _, β', G, run_w (by unfold execOp; rw [ho]) ?_, .inl rfl, fun d hd => by cases hd; exact rep_iter.2 ⟨_, h2, rfl⟩, h1, h3, h4⟩
        simp [Instr.range, Go.run_underlying hdesc, hr]
      | _ => cases hd
    | map kt et =>
      rw [hk] at hd hdesc
      cases dx with
      | map id =>
        simp only at hd
        obtain ⟨ob, hob, hd⟩ := some_bind hd
        cases ob with
        | map es =>
          cases hd
          obtain ⟨b, hb, hv⟩ := rep_map.1 hr
          obtain ⟨b', ms, clock, k1, k2, k3, k4, k5⟩ := hh.obj id _ hob
          rw [hb] at k1; cases k1
          have hsz : es.length = clock := by have := mapR_len k3; rw [k5, ← this]; simp
          obtain ⟨β', h1, h2, h3, h4⟩ := mit_lay hh hfr id b es.length hb
          refine ⟨_, .pointer (some ⟨w.heap.size, 0, none⟩), _, β', G, run_w (by unfold execOp; rw [ho]) ?_, .inl rfl, fun d hd => by cases hd; exact rep_iter.2 ⟨_, h2, rfl⟩, h1, h3, h4⟩
          have hget : (getObj b).run P w = .ok (.map ms clock) w := by simp [getObj, Sem.run, k2]
          simp [Instr.range, Go.run_underlying hdesc, hv, hget, hsz]
        | _ => cases hd
      | _ => cases hd
    | _ => rw [hk] at hd; cases hd
  | next it s =>
    cases s with
    | false => rw [ho] at hd; simp [evOp] at hd
    | true =>
      rw [ho] at hd; simp only [evOp] at hd
      obtain ⟨d, h1, hd⟩ := some_bind hd
      split at hd
      · rename_i id
        obtain ⟨ob, hob, hd⟩ := some_bind hd
        split at hd
        · rename_i s pos
          obtain ⟨b, hb, hv⟩ := rep_iter.1 (eval_rep hf h1)
          obtain ⟨b', hb', hw⟩ := hh.obj id _ hob
          rw [hb] at hb'; cases hb'
          by_cases hp : pos < s.size
          · simp only [hp, decide_true, cond_true] at hd
            cases hd
            have hh' := turn_obj (o' := .siter s (pos + (Utf8.decode s pos).2)) (ob' := .stringIter s (pos + (Utf8.decode s pos).2)) hh hob hb hw (by simp) (fun x hx => by simp [Owns] at hx; rw [hb] at hx; cases hx; rfl)
              ⟨b, hb, by simp [World.putObj_heap_same (Array.getElem?_eq_some_iff.1 hw).1]⟩
            refine ⟨_, .tuple #[.bool true, .int .i64 (pos : Nat), .int .i32 (Utf8.decode s pos).1], _, β, G, run_w (by unfold execOp; rw [ho]) ?_, .inl rfl, fun d hd => ?_, Ext.refl β G, hh', kept_same hob⟩
            · simp [Instr.next, hv, run_getObj_siter hw, hp, goInt, run_setObj_any (P := P) hw (by simp), Result.andThen]
            · cases hd
              exact rep_tup.2 ⟨[.bool true, .int .i64 (pos : Nat), .int .i32 (Utf8.decode s pos).1], rfl, repL_cons.2 ⟨_, _, rfl, rep_bool.2 rfl, repL_cons.2 ⟨_, _, rfl, rep_int.2 rfl, repL_cons.2 ⟨_, _, rfl, rep_int.2 rfl, repL_nil.2 rfl⟩⟩⟩⟩
          · simp only [hp, decide_false, cond_false] at hd
            cases hd
            refine OpRes.pure hh (run_w (v := .tuple #[.bool false]) (by unfold execOp; rw [ho]) ?_) (rep_tup.2 ⟨[.bool false], rfl, repL_cons.2 ⟨_, _, rfl, rep_bool.2 rfl, repL_nil.2 rfl⟩⟩)
            simp [Instr.next, hv, run_getObj_siter hw, hp, Result.andThen]
        · cases hd
      · cases hd
  | extract t i =>
    rw [ho] at hd; simp only [evOp] at hd
    obtain ⟨dx, hx, hd⟩ := some_bind hd
    split at hd
    · rename_i vs
      obtain ⟨d, h1, hd⟩ := some_bind hd
      cases hd
      obtain ⟨us, he, hr⟩ := rep_tup.1 (eval_rep hf hx)
      obtain ⟨v, h2, h3⟩ := repL_get hr h1
      refine OpRes.pure hh (run_w (v := v) (by unfold execOp; rw [ho]) ?_) h3
      simp [Instr.extract, he, h2]
    · cases hd
  | _ => rw [ho] at hd; simp [evOp] at hd

end
end Go.Ab
namespace Go.Ab
namespace Tr
variable {α : Type}

theorem beq_dec (a b : Nat) : Nat.beq a b = decide (a = b) := by
  by_cases h : a = b
  · subst h; simp
  · have : Nat.beq a b = false := by
      cases hq : Nat.beq a b with
      | false => rfl
      | true => exact absurd (Nat.eq_of_beq_eq_true hq) h
    simp [this, h]

theorem blt_dec (a b : Nat) : Nat.blt a b = decide (a < b) := by
  by_cases h : a < b
  · have h1 : Nat.blt a b = true := Nat.ble_eq_true_of_le h
    rw [h1]; simp [h]
  · have : Nat.blt a b = false := by
      cases hq : Nat.blt a b with
      | false => rfl
      | true => exact absurd (Nat.le_of_ble_eq_true hq) h
    simp [this, h]

theorem get_leaf (k : Nat) : (leaf : Tr α).get k = none := rfl
theorem get_node (l r : Tr α) (v : Option α) (k : Nat) : (node l v r).get k = if k = 0 then v else if k % 2 = 1 then l.get (k / 2) else r.get (k / 2 - 1) := by
  rw [get, beq_dec, beq_dec]
  by_cases h : k = 0
  · simp [h]
  · by_cases h2 : k % 2 = 1 <;> simp [h, h2]

theorem get_setAux : ∀ (n : Nat) (t : Tr α) (k : Nat) (v : Option α) (k' : Nat), k < n → (setAux n t k v).get k' = if k' = k then v else t.get k'
  | 0, _, _, _, _, h => by omega
  | n + 1, .leaf, k, v, k', h => by
    rw [setAux, beq_dec, beq_dec]
    by_cases h0 : k = 0
    · subst h0
      simp only [decide_true, cond_true, get_node, get_leaf]
      by_cases e : k' = 0 <;> simp [e]
    · by_cases h1 : k % 2 = 1
      · simp only [h0, h1, decide_true, decide_false, cond_true, cond_false, get_node, get_leaf]
        by_cases e0 : k' = 0
        · have : k' ≠ k := by omega
          simp [e0]; omega
        · by_cases e1 : k' % 2 = 1
          · rw [if_neg e0, if_pos e1, get_setAux n .leaf (k / 2) v (k' / 2) (by omega), get_leaf]
            by_cases e : k' = k
            · subst e; simp
            · rw [if_neg e, if_neg (by omega)]
          · rw [if_neg e0, if_neg e1]
            have : k' ≠ k := by omega
            simp [this]
      · simp only [h0, h1, decide_false, cond_false, get_node, get_leaf]
        by_cases e0 : k' = 0
        · have : k' ≠ k := by omega
          simp [e0]; omega
        · by_cases e1 : k' % 2 = 1
          · rw [if_neg e0, if_pos e1]
            have : k' ≠ k := by omega
            simp [this]
          · rw [if_neg e0, if_neg e1, get_setAux n .leaf (k / 2 - 1) v (k' / 2 - 1) (by omega), get_leaf]
            by_cases e : k' = k
            · subst e; simp
            · rw [if_neg e, if_neg (by omega)]
  | n + 1, .node l x r, k, v, k', h => by
    rw [setAux, beq_dec, beq_dec]
    by_cases h0 : k = 0
    · subst h0
      simp only [decide_true, cond_true, get_node]
      by_cases e : k' = 0 <;> simp [e]
    · by_cases h1 : k % 2 = 1
      · simp only [h0, h1, decide_true, decide_false, cond_true, cond_false, get_node]
        by_cases e0 : k' = 0
        · have : ¬ (0 = k) := by omega
          simp [e0, this]
        · by_cases e1 : k' % 2 = 1
          · simp only [if_neg e0, if_pos e1, get_setAux n l (k / 2) v (k' / 2) (by omega)]
            by_cases e : k' = k
            · subst e; simp
            · rw [if_neg e, if_neg (by omega)]
          · have : k' ≠ k := by omega
            simp [e0, e1, this]
      · simp only [h0, h1, decide_false, cond_false, get_node]
        by_cases e0 : k' = 0
        · have : ¬ (0 = k) := by omega
          simp [e0, this]
        · by_cases e1 : k' % 2 = 1
          · have : k' ≠ k := by omega
            simp [e0, e1, this]
          · simp only [if_neg e0, if_neg e1, get_setAux n r (k / 2 - 1) v (k' / 2 - 1) (by omega)]
            by_cases e : k' = k
            · subst e; simp
            · rw [if_neg e, if_neg (by omega)]

theorem get_set (t : Tr α) (k : Nat) (v : Option α) (k' : Nat) : (t.set k v).get k' = if k' = k then v else t.get k' := get_setAux _ t k v k' (by omega)

theorem mkn_get (l : Tr α) (v : Option α) (r : Tr α) (k : Nat) : (mkn l v r).get k = (Tr.node l v r).get k := by
  unfold mkn
  split
  · simp [get]
  · rfl

theorem tm_get (f : Nat → α → Option (Option α)) : ∀ (t t' : Tr α) (a b : Nat), tm f t a b = some t' →
    ∀ k, (t.get k = none ∧ t'.get k = none) ∨ ∃ x y, t.get k = some x ∧ f (a * k + b) x = some y ∧ t'.get k = y
  | .leaf, t', a, b, h, k => by
    simp only [tm, Option.some.injEq] at h; subst h
    exact .inl ⟨rfl, rfl⟩
  | .node l v r, t', a, b, h, k => by
    simp only [tm] at h
    obtain ⟨l', hl, h⟩ := some_bind h
    obtain ⟨v', hv, h⟩ := some_bind h
    obtain ⟨r', hr, h⟩ := some_bind h
    cases h
    rw [mkn_get, get_node, get_node]
    by_cases e0 : k = 0
    · subst e0
      simp only [if_true, Nat.mul_zero, Nat.zero_add]
      cases v with
      | none => cases hv; exact .inl ⟨rfl, rfl⟩
      | some x => exact .inr ⟨x, v', rfl, hv, rfl⟩
    · by_cases e1 : k % 2 = 1
      · simp only [if_neg e0, if_pos e1]
        have := tm_get f l l' _ _ hl (k / 2)
        rwa [show 2 * a * (k / 2) + (a + b) = a * k + b by
          have : k = 2 * (k / 2) + 1 := by omega
          generalize k / 2 = m at this; subst this
          rw [Nat.mul_add, ← Nat.mul_assoc, Nat.mul_comm a 2]; omega] at this
      · simp only [if_neg e0, if_neg e1]
        have := tm_get f r r' _ _ hr (k / 2 - 1)
        rwa [show 2 * a * (k / 2 - 1) + (2 * a + b) = a * k + b by
          have : k = 2 * (k / 2 - 1) + 2 := by omega
          generalize k / 2 - 1 = m at this; subst this
          rw [Nat.mul_add, ← Nat.mul_assoc, Nat.mul_comm a 2]; omega] at this

theorem filt_get (m : Nat) : ∀ (t : Tr α) (a b k : Nat), (t.filt m a b).get k = bif Nat.testBit m (a * k + b) then t.get k else none
  | .leaf, a, b, k => by cases Nat.testBit m (a * k + b) <;> rfl
  | .node l v r, a, b, k => by
    simp only [filt]
    rw [mkn_get, get_node, get_node]
    by_cases e0 : k = 0
    · subst e0
      simp only [if_true, Nat.mul_zero, Nat.zero_add]
    · by_cases e1 : k % 2 = 1
      · simp only [if_neg e0, if_pos e1]
        rw [filt_get m l, show 2 * a * (k / 2) + (a + b) = a * k + b by
          have : k = 2 * (k / 2) + 1 := by omega
          generalize k / 2 = m at this; subst this
          rw [Nat.mul_add, ← Nat.mul_assoc, Nat.mul_comm a 2]; omega]
      · simp only [if_neg e0, if_neg e1]
        rw [filt_get m r, show 2 * a * (k / 2 - 1) + (2 * a + b) = a * k + b by
          have : k = 2 * (k / 2 - 1) + 2 := by omega
          generalize k / 2 - 1 = m at this; subst this
          rw [Nat.mul_add, ← Nat.mul_assoc, Nat.mul_comm a 2]; omega]

theorem filt_sub {m : Nat} {t : Tr α} {k : Nat} {x : α} (h : (t.filt m 1 0).get k = some x) : t.get k = some x := by
  rw [filt_get] at h
  cases hm : Nat.testBit m (1 * k + 0) with
  | true => rw [hm] at h; exact h
  | false => rw [hm] at h; cases h

theorem tm_get1 {f : Nat → α → Option (Option α)} {t t' : Tr α} (h : tm f t 1 0 = some t') (k : Nat) : (t.get k = none ∧ t'.get k = none) ∨ ∃ x y, t.get k = some x ∧ f k x = some y ∧ t'.get k = y := by
  have := tm_get f t t' 1 0 h k
  simpa using this

end Tr

theorem updObjs_get (o : Tr AObj) : ∀ (us : List (Nat × Option AObj)) (i : Nat), (updObjs o us).get i = updF o.get us i := by
  intro us
  induction us generalizing o with
  | nil => intro i; rfl
  | cons u us ih =>
    intro i
    obtain ⟨j, x⟩ := u
    rw [updObjs, ih, ]
    unfold updF
    simp only [updFind]
    cases hq : updFind i us with
    | some y => rfl
    | none =>
      rw [Tr.get_set, Tr.beq_dec]
      by_cases e : i = j
      · subst e; simp
      · have : ¬ j = i := fun h => e h.symm
        simp [e, this]

end Go.Ab
namespace Go.Ab
open Go.RowKit

def fw (ro : Option Nat) : Fence := { Fence.wide with round := ro }

def markOf (d : Nat) : Deferred := { target := .collected d, args := #[] }

def DefOk (P : Program) (g : FuncId) : Prop := ∀ (n : Nat) (cap : Array Value) (w : World), (invoke (.fn (.func g) cap) #[]).run P w = .ok (.enter g cap) w ∧
  CallsDIn Fence.wide n P g cap .returning w fun e u' w' => (∃ v, e = .returned v) ∧ u' = .returning ∧ w' = w

inductive DefL (E : Env) : List Nat → List Deferred → Prop where
  | nil : DefL E [] []
  | mark {own : List Nat} {ds : List Deferred} (d : Nat) : DefL E own ds → DefL E (d :: own) (markOf d :: ds)
  | fn {own : List Nat} {ds : List Deferred} {g : Nat} (cap : Array Value) : E.dfr g = true → DefL E own ds → DefL E own ({ target := .fn (.func g) cap, args := #[] } :: ds)

structure Go2 (nx : Nat) (β : Bi) (G : Gh) (β' : Bi) (G' : Gh) (h h' : Nat → Option AObj) : Prop where
  ext : Ext β G β' G'
  keep : ∀ id, id < nx → Keep1 β β' h h' id

theorem Go2.refl (nx : Nat) (β : Bi) (G : Gh) (h : Nat → Option AObj) : Go2 nx β G β G h h := ⟨Ext.refl β G, fun id _ => Keep1.refl β h id⟩
theorem Go2.trans {nx : Nat} {β β' β'' : Bi} {G G' G'' : Gh} {h h' h'' : Nat → Option AObj} (x : Go2 nx β G β' G' h h') (y : Go2 nx β' G' β'' G'' h' h'') : Go2 nx β G β'' G'' h h'' :=
  ⟨x.ext.trans y.ext, fun id hi => (x.keep id hi).trans (y.keep id hi)⟩
theorem Go2.less {nx nx' : Nat} {β β' : Bi} {G G' : Gh} {h h' : Nat → Option AObj} (x : Go2 nx β G β' G' h h') (hl : nx' ≤ nx) : Go2 nx' β G β' G' h h' := ⟨x.ext, fun id hi => x.keep id (Nat.lt_of_lt_of_le hi hl)⟩
theorem Go2.stay {nx : Nat} {β β' : Bi} {G G' : Gh} {h h' : Nat → Option AObj} (x : Go2 nx β G β' G' h h') (id : Nat) (hi : id < nx) (hf : Fresh β h id) : Fresh β' h' id := (x.keep id hi).fresh hf

structure MI (E : Env) (w0 : World) (G0 : Gh) (outer : DD) (V nt : Nat) (own : List Nat) (ρ : Nat → Option DV) (base : Tr DV) (h : Nat → Option AObj) (nx : Nat) (a : Act) (w : World) (β : Bi) (G : Gh) : Prop where
  fr : FrM β G ρ a.tmps
  dom : ∀ t d, base.get t = some d → Nat.testBit V t = true
  sz : a.tmps.size = nt
  hr : HR E w0 G0 (pushD own outer) w β G h
  fresh : ∀ id, nx ≤ id → Fresh β h id
  df : DefL E own a.defers ∧ ApartD own outer

def Enters (P : Program) (g : FuncId) : Prop := ∀ args w, (callFunc g args).run P w = .ok (.enter g args) w

def PureOk (P : Program) (E : Env) (call : Nat → List DV → Option DV) : Prop := ∀ g as d, call g as = some d → Enters P g ∧
  ∀ (w : World) (β : Bi) (G : Gh) (vs : Array Value), E.inv w → (∀ b o v, G b o = some v → w.cell? ⟨b, o, none⟩ = some v) → RepL β G as vs.toList → idfrees as = true →
    Calls P g vs w fun e w' => ∃ v G', e = .returned v ∧ Below w.heap.size w w' ∧ (∀ b, b < w.heap.size → G' b = G b) ∧ (∀ b o v, G' b o = some v → w'.cell? ⟨b, o, none⟩ = some v) ∧ idfree d = true ∧ Rep β G' d v

def HeapPost (E : Env) (w0 : World) (G0 : Gh) (D : DD) (β : Bi) (G : Gh) (objs : Tr AObj) (nx : Nat) (r : DV) (objs' : Tr AObj) (nx' : Nat) (e : Ending) (w' : World) : Prop :=
  ∃ v β' G', e = .returned v ∧ nx ≤ nx' ∧ Go2 nx β G β' G' objs.get objs'.get ∧ HR E w0 G0 D w' β' G' objs'.get ∧ (∀ id, nx' ≤ id → Fresh β' objs'.get id) ∧ Rep β' G' r v

def HeapOk (P : Program) (E : Env) (callH : CallH) : Prop := ∀ g as objs nx r objs' nx', callH g as objs nx = some (r, objs', nx') → Enters P g ∧
  ∀ (w0 : World) (G0 : Gh) (D : DD) (w : World) (β : Bi) (G : Gh) (vs : Array Value), HR E w0 G0 D w β G objs.get → (∀ id, nx ≤ id → Fresh β objs.get id) → RepL β G as vs.toList →
    Calls P g vs w (HeapPost E w0 G0 D β G objs nx r objs' nx')

def YieldOk (P : Program) (E : Env) (callY : CallH) : Prop := ∀ l as objs nx r objs' nx', callY l as objs nx = some (r, objs', nx') →
  ∀ (w0 : World) (G0 : Gh) (D : DD) (w : World) (β : Bi) (G : Gh) (vs : Array Value) (b : Nat), β.blk l = some b → HR E w0 G0 D w β G objs.get → (∀ id, nx ≤ id → Fresh β objs.get id) → RepL β G as vs.toList →
    ∃ lf tm as' bo, (Instr.yield b vs).run P w = .ok (.round b lf tm as' bo) w ∧ ∀ n, RoundIn Fence.wide n P b lf tm as' bo w (HeapPost E w0 G0 D β G objs nx r objs' nx')

section
variable {P : Program} {E : Env} {w0 : World} {G0 : Gh} {D : DD} {o : Oper} {a : Act} {w : World} {β : Bi} {G : Gh} {h : Nat → Option AObj} {nid : Nat} {ρ : Nat → Option DV} {ro : Option Nat} {n : Nat}

theorem calls_fw {g : FuncId} {args : Array Value} {R : Ending → World → Prop} (h : Calls P g args w R) : CallsIn (fw ro) n P g args w R := by
  have := (callsIn_wide (n := n)).2 h
  exact this

theorem round_fw {l : Nat} {f : FuncId} {tm : Array Value} {as bo : Code} {R : Ending → World → Prop} (h : RoundIn Fence.wide n P l f tm as bo w R) : RoundIn (fw ro) n P l f tm as bo w R := h

theorem HR.grow {w' : World} {G' : Gh} (hh : HR E w0 G0 D w β G h) (hb : Below w.heap.size w w') (hg : ∀ b, b < w.heap.size → G' b = G b) (hag : ∀ b o v, G' b o = some v → w'.cell? ⟨b, o, none⟩ = some v) :
    HR E w0 G0 D w' β G' h ∧ Ext β G β G' := by
  have hx : Ext β G β G' := ⟨fun b o v hq => by
    have hlt : b < w.heap.size := by
      rcases Nat.lt_or_ge b w.heap.size with h1 | h1
      · exact h1
      · rw [glt hh h1 o] at hq; cases hq
    rw [hg b hlt]; exact hq, fun _ _ h => h, fun _ _ _ h => h⟩
  refine ⟨⟨?_, ?_, hag, ?_, ?_, hh.inj, ?_, hh.inv0⟩, hx⟩
  · exact hh.below.trans ⟨hb.os, hb.tape, hb.output, hb.size, fun k hk => hb.block k (by have := hh.below.size; omega)⟩
  · intro b hlt
    rw [← hh.g0 b hlt]; exact hg b (by have := hh.below.size; omega)
  · intro id ob ho
    refine ObjR.keep hx (fun _ => rfl) (fun b hown => ?_) (hh.obj id ob ho)
    have hlt := (hh.own id ob b ho hown).2.1
    exact ⟨hb.block b hlt, fun off => by rw [hg b hlt]⟩
  · intro id ob b ho hown
    obtain ⟨k1, k2, k3⟩ := hh.own id ob b ho hown
    exact ⟨k1, Nat.lt_of_lt_of_le k2 hb.size, k3⟩
  · intro d x hd
    obtain ⟨k1, k2, k3⟩ := hh.marks d x hd
    have hlt := (Array.getElem?_eq_some_iff.1 k2).1
    exact ⟨k1, (hb.block d hlt).trans k2, fun o => by rw [hg d hlt]; exact k3 o⟩

theorem evOp_not_defer {nid : Nat} {op : Op} {r : Out} (hd : evOp E nid ρ h op = some r) : ∀ c, op ≠ .defer c := fun c hc => by
  subst hc; simp [evOp] at hd

def StepOk (P : Program) (E : Env) (w0 : World) (G0 : Gh) (D : DD) (ro : Option Nat) (n : Nat) (o : Oper) (a : Act) (w : World) (β : Bi) (G : Gh) (h : Nat → Option AObj) (nid : Nat) (r : Out) : Prop :=
  ∀ (K : Act → World → Prop) (Q : Exit → Act → World → Prop), (∀ v w' β' G', (∀ d, r.val = some d → Rep β' G' d v) → Ext β G β' G' → HR E w0 G0 D w' β' G' (updF h r.upd) → Kept β β' h (updF h r.upd) nid → K (a.put o.dst v) w') → o.wpIn (fw ro) n P a w K Q

theorem OpRes.step {r : Out} (hnd : ∀ c, o.op ≠ .defer c) (hr : OpRes P E w0 G0 D o a w β G h nid r) : StepOk P E w0 G0 D ro n o a w β G h nid r := fun K Q hk => by
  obtain ⟨nx, v, w', β', G', h1, h2, h3, h4, h5, h6⟩ := hr
  refine ⟨fun f _ => trivial, ?_⟩
  rw [Oper.semAt_eq _ _ _ hnd, h1]
  rcases h2 with rfl | ⟨rfl, rfl⟩
  · rw [Oper.uponIn_value]; exact hk v w' β' G' h3 h4 h5 h6
  · rw [Oper.uponIn_skip]; exact hk undef w' β' G' h3 h4 h5 h6

theorem repL_append' {ds es : List DV} {as bs : List Value} (h1 : RepL β G ds as) (h2 : RepL β G es bs) : RepL β G (ds ++ es) (as ++ bs) := repL_append.2 ⟨as, bs, rfl, h1, h2⟩

theorem target_fn (hE : ∀ t ti, E.ty t = some ti → TyOk P t ti) (hf : FrM β G ρ a.tmps) {c : Call} {g : FuncId} {x y : List DV} {as : List DV} (ho : o.op = .call c) (ht : target E ρ c = some (.fn (.func g) x y, as)) (he : Enters P g) :
    ∃ vs : Array Value, (execOp a.eval o).run P w = .ok (.enter g vs) w ∧ RepL β G as vs.toList := by
  unfold target at ht
  split at ht
  · rename_i f hc
    obtain ⟨df, h1, ht⟩ := some_bind ht
    split at ht
    · rename_i g' first caps
      obtain ⟨as', h2, ht⟩ := some_bind ht
      cases ht
      obtain ⟨vf, vc, hv, hr1, hr2⟩ := rep_fn.1 (eval_rep hf h1)
      refine ⟨vf.toArray ++ c.args.map a.eval ++ vc.toArray, ?_, ?_⟩
      · unfold execOp; rw [ho]
        have h9 := he (vf.toArray ++ c.args.map a.eval ++ vc.toArray) w
        simpa [resolve, hc, hv, Deferred.ofValue, invoke] using h9
      · have := repL_append' (repL_append' hr1 (evals_rep hf h2)) hr2
        simpa using this
    · obtain ⟨as', h2, ht⟩ := some_bind ht
      cases ht
    · cases ht
  · rename_i rv m hc
    obtain ⟨df, h1, ht⟩ := some_bind ht
    split at ht
    · rename_i t v
      obtain ⟨ti, hti, ht⟩ := some_bind ht
      obtain ⟨g', hg, ht⟩ := some_bind ht
      obtain ⟨as', h2, ht⟩ := some_bind ht
      cases ht
      obtain ⟨u, hu, hr⟩ := rep_iface.1 (eval_rep hf h1)
      refine ⟨#[u] ++ c.args.map a.eval, ?_, ?_⟩
      · unfold execOp; rw [ho]
        have h8 := (hE t ti hti).meth m g hg u (c.args.map a.eval) w
        have h9 := he (#[u] ++ c.args.map a.eval) w
        rw [h9] at h8
        have h10 : (#[Value.iface t u] ++ c.args.map a.eval).extract 1 (#[Value.iface t u] ++ c.args.map a.eval).size = c.args.map a.eval := by
          rw [Array.extract_append]
          simp
        have h11 : (#[Value.iface t u] ++ c.args.map a.eval)[0]? = some (.iface t u) := by
          rw [Array.getElem?_append_left (by simp)]; rfl
        simp only [resolve, hc, hu]
        show ((Pure.pure ({ target := .fn (.method m) #[], args := #[Value.iface t u] ++ c.args.map a.eval } : Deferred) : Sem Deferred) >>= fun d => invoke d.target d.args).run P w = _
        simp only [pure_bind]
        unfold invoke
        simp only [h11, h10]
        exact h8
      · have := repL_cons.2 ⟨u, _, rfl, hr, evals_rep hf h2⟩
        simpa using this
    · cases ht
  · cases ht

theorem target_yld (hf : FrM β G ρ a.tmps) {c : Call} {l : Nat} {as : List DV} (ho : o.op = .call c) (ht : target E ρ c = some (.yld l, as)) :
    ∃ (vs : Array Value) (b : Nat), β.blk l = some b ∧ execOp a.eval o = Instr.yield b vs ∧ RepL β G as vs.toList := by
  unfold target at ht
  split at ht
  · rename_i f hc
    obtain ⟨df, h1, ht⟩ := some_bind ht
    split at ht
    · obtain ⟨as', h2, ht⟩ := some_bind ht
      cases ht
    · rename_i id
      obtain ⟨as', h2, ht⟩ := some_bind ht
      cases ht
      obtain ⟨b, hb, hv⟩ := rep_yld.1 (eval_rep hf h1)
      refine ⟨c.args.map a.eval, b, hb, ?_, by simpa using evals_rep hf h2⟩
      unfold execOp; rw [ho]
      simp [resolve, hc, hv, Deferred.ofValue, invoke]
    · cases ht
  · obtain ⟨df, h1, ht⟩ := some_bind ht
    split at ht
    · obtain ⟨ti, hti, ht⟩ := some_bind ht
      obtain ⟨g', hg, ht⟩ := some_bind ht
      obtain ⟨as', h2, ht⟩ := some_bind ht
      cases ht
    · cases ht
  · cases ht

theorem isCall_some {op : Op} {c : Call} (h : isCall op = some c) : op = .call c := by
  unfold isCall at h
  split at h
  · split at h
    · cases h; rfl
    · cases h; rfl
    · cases h
  · cases h

mutual
theorem weakD_rep {β β' : Bi} {G G' : Gh} : ∀ {d d' : DV} {v : Value}, weakD d = some d' → Rep β' G' d v → Rep β G d' v
  | .bool _, _, _, h, hr => by simp only [weakD, Option.some.injEq] at h; subst h; unfold Rep at hr ⊢; exact hr
  | .int _ _, _, _, h, hr => by simp only [weakD, Option.some.injEq] at h; subst h; unfold Rep at hr ⊢; exact hr
  | .str _, _, _, h, hr => by simp only [weakD, Option.some.injEq] at h; subst h; unfold Rep at hr ⊢; exact hr
  | .sl _, _, _, h, hr => by
    simp only [weakD, Option.some.injEq] at h; subst h
    obtain ⟨a, c, ⟨h1, h2⟩, _⟩ := rep_sl.1 hr
    exact rep_slen.2 ⟨a, c, h1, h2⟩
  | .tup vs, _, _, h, hr => by
    simp only [weakD] at h
    obtain ⟨vs', h1, h⟩ := some_bind h
    cases h
    obtain ⟨us, rfl, h2⟩ := rep_tup.1 hr
    exact rep_tup.2 ⟨us, rfl, weakDs_rep h1 h2⟩
  | .nilp, _, _, h, _ => by simp [weakD] at h
  | .ptr _ _, _, _, h, _ => by simp [weakD] at h
  | .rptr _ _ _ _ _, _, _, h, _ => by simp [weakD] at h
  | .pub _, _, _, h, _ => by simp [weakD] at h
  | .nils, _, _, h, _ => by simp [weakD] at h
  | .rs _ _, _, _, h, _ => by simp [weakD] at h
  | .rv _ _ _ _ _, _, _, h, _ => by simp [weakD] at h
  | .slen _, _, _, h, _ => by simp [weakD] at h
  | .agg _, _, _, h, _ => by simp [weakD] at h
  | .fn _ _ _, _, _, h, _ => by simp [weakD] at h
  | .nilfn, _, _, h, _ => by simp [weakD] at h
  | .map _, _, _, h, _ => by simp [weakD] at h
  | .nilmap, _, _, h, _ => by simp [weakD] at h
  | .iface _ _, _, _, h, _ => by simp [weakD] at h
  | .nilif, _, _, h, _ => by simp [weakD] at h
  | .iter _, _, _, h, _ => by simp [weakD] at h
  | .yld _, _, _, h, _ => by simp [weakD] at h
theorem weakDs_rep {β β' : Bi} {G G' : Gh} : ∀ {ds ds' : List DV} {vs : List Value}, weakDs ds = some ds' → RepL β' G' ds vs → RepL β G ds' vs
  | [], _, _, h, hr => by simp only [weakDs, Option.some.injEq] at h; subst h; rw [repL_nil] at hr ⊢; exact hr
  | d :: ds, _, _, h, hr => by
    simp only [weakDs] at h
    obtain ⟨d', h1, h⟩ := some_bind h
    obtain ⟨ds', h2, h⟩ := some_bind h
    cases h
    obtain ⟨v, vs, rfl, k1, k2⟩ := repL_cons.1 hr
    exact repL_cons.2 ⟨v, vs, rfl, weakD_rep h1 k1, weakDs_rep h2 k2⟩
end

theorem evCall_sound (hE : ∀ t ti, E.ty t = some ti → TyOk P t ti) {call : Nat → List DV → Option DV} (hp : PureOk P E call) (hf : FrM β G ρ a.tmps) (hh : HR E w0 G0 D w β G h) {c : Call} (ho : o.op = .call c) {r : Out} (hd : evCall E call ρ h c = some r) :
    StepOk P E w0 G0 D ro n o a w β G h nid r := fun K Q hk => by
  unfold evCall at hd
  obtain ⟨tg, ht, hd⟩ := some_bind hd
  split at hd
  · rename_i g x y as
    obtain ⟨fs, hfs, hd⟩ := some_bind hd
    obtain ⟨d, hcall, hd⟩ := some_bind hd
    obtain ⟨hent, hcs⟩ := hp g fs d hcall
    cases hrv : as.any isRv with
    | true =>
      rw [hrv] at hd
      simp only [cond_true] at hd
      obtain ⟨d', hwk, hd⟩ := some_bind hd
      cases hd
      obtain ⟨vs, hrun, hrep⟩ := target_fn (w := w) hE hf ho ht hent
      obtain ⟨G1, hx1, hh1, hs1⟩ := show_rows hh (rowsOfs as)
      obtain ⟨hr1, hid⟩ := frzsV_rep hx1 (show_same h _) (fun i t es p u hi c hc => by obtain ⟨_, _, _, _, _, k, _⟩ := hh.obj _ _ hi; exact (k c hc).1) hfs hs1 hrep
      have hC := hcs w β G1 vs hh.inv hh1.agree hr1 hid
      refine ⟨fun f _ => trivial, ?_⟩
      rw [Oper.semAt_eq _ _ _ (by rw [ho]; simp), hrun, Oper.uponIn_enter]
      refine ⟨fun hq => by simp [fw, Fence.wide] at hq, calls_fw (Calls.mono hC fun e w' he => ?_)⟩
      obtain ⟨v, G', rfl, hb, hg, hag, _, hrv⟩ := he
      have hagG : ∀ b o v, G b o = some v → w'.cell? ⟨b, o, none⟩ = some v := fun b o v hq => by
        have hlt : b < w.heap.size := by
          rcases Nat.lt_or_ge b w.heap.size with h1 | h1
          · exact h1
          · rw [glt hh h1 o] at hq; cases hq
        exact hag b o v (by rw [hg b hlt]; exact hx1.g b o v hq)
      obtain ⟨hh2, hx2⟩ := hh.grow hb (fun _ _ => rfl) hagG
      exact hk v w' β G (fun d'' hd' => by cases hd'; exact weakD_rep hwk hrv) hx2 hh2 (Kept.refl _ _ _)
    | false =>
    rw [hrv] at hd
    simp only [cond_false] at hd
    cases hd
    obtain ⟨vs, hrun, hrep⟩ := target_fn (w := w) hE hf ho ht hent
    obtain ⟨G1, hx1, hh1, hs1⟩ := show_rows hh (rowsOfs as)
    obtain ⟨hr1, hid⟩ := frzsV_rep hx1 (show_same h _) (fun i t es p u hi c hc => by obtain ⟨_, _, _, _, _, k, _⟩ := hh.obj _ _ hi; exact (k c hc).1) hfs hs1 hrep
    have hC := hcs w β G1 vs hh.inv hh1.agree hr1 hid
    refine ⟨fun f _ => trivial, ?_⟩
    rw [Oper.semAt_eq _ _ _ (by rw [ho]; simp), hrun, Oper.uponIn_enter]
    refine ⟨fun hq => by simp [fw, Fence.wide] at hq, calls_fw (Calls.mono hC fun e w' he => ?_)⟩
    obtain ⟨v, G', rfl, hb, hg, hag, _, hrv⟩ := he
    obtain ⟨hh2, hx2⟩ := hh1.grow hb hg hag
    refine hk v w' β G' (fun d' hd' => by cases hd'; exact hrv) (hx1.trans hx2) hh2 (show_kept _)
  · cases hd

theorem evAny_sound (hE : ∀ t ti, E.ty t = some ti → TyOk P t ti) {call : Nat → List DV → Option DV} (hp : PureOk P E call) (hf : FrM β G ρ a.tmps) (hh : HR E w0 G0 D w β G h) (hfr : Fresh β h nid) {r : Out}
    (hd : evAny E call nid ρ h o.op = some r) : StepOk P E w0 G0 D ro n o a w β G h nid r := by
  unfold evAny at hd
  split at hd
  · rename_i c hc
    exact evCall_sound hE hp hf hh (isCall_some hc) hd
  · exact (evOp_sound hE hf hh hfr hd).step (evOp_not_defer hd)

end
end Go.Ab
namespace Go.Ab
open Go.RowKit

section
variable {P : Program} {E : Env} {w0 : World} {G0 : Gh} {D : DD} {w : World} {β : Bi} {G : Gh} {h : Nat → Option AObj}

def isShown (h : Nat → Option AObj) (i : Nat) : Bool := match h i with | some (.row _ _ p _) => Nat.beq p 1 | _ => false

theorem shown_nil (h : Nat → Option AObj) (is : List Nat) : showRows h (is.filter (isShown h)) = [] := by
  induction is with
  | nil => rfl
  | cons i is ih =>
    rw [List.filter_cons]
    cases hq : isShown h i with
    | false => simpa using ih
    | true =>
      simp only [if_true, showRows, ih, List.append_nil]
      unfold isShown at hq
      split at hq
      · rename_i p _ hi
        rw [hi]; simp only [hq, cond_true]
      · cases hq

theorem frzC_rep {G' : Gh} (hx : Ext β G β G') {is : List Nat} (hs : ∀ i ∈ is.filter (isShown h), Shown E β G' h i) {hv : Nat → Option AObj} (hvw : ∀ i ∈ is, ∀ x, hv i = some x → h i = some x) {d : DV} {v : Value} (hm : ∀ i ∈ rowsOf d, i ∈ is) (hr : Rep β G d v) : Rep β G' (frzC hv d) v := by
  unfold frzC
  split
  · rename_i id ver
    split
    · rename_i es p u ho'
      have ho := hvw id (hm id (by simp [rowsOf])) _ ho'
      cases hq : Nat.beq p 1 && Nat.beq u ver with
      | false => exact Rep.mono hx _ _ hr
      | true =>
        simp only [Bool.and_eq_true] at hq
        have hf : frz h (.rs id ver) = some (.sl es) := by simp [frz, ho, hq.2]
        refine (frz_rep hx (fun i t es p u hi => ⟨p, hi⟩) hf (fun i hi => hs i (List.mem_filter.2 ⟨hm i hi, ?_⟩)) hr).1
        have : i = id := by simpa [rowsOf] using hi
        subst this
        unfold isShown
        rw [ho]; exact hq.1
    · exact Rep.mono hx _ _ hr
  · exact Rep.mono hx _ _ hr

theorem frzCs_rep {G' : Gh} (hx : Ext β G β G') {is : List Nat} (hs : ∀ i ∈ is.filter (isShown h), Shown E β G' h i) {hv : Nat → Option AObj} (hvw : ∀ i ∈ is, ∀ x, hv i = some x → h i = some x) : ∀ {ds : List DV} {vs : List Value}, (∀ i ∈ rowsOfs ds, i ∈ is) → RepL β G ds vs → RepL β G' (ds.map (frzC hv)) vs
  | [], vs, _, hr => by
    rw [repL_nil] at hr
    exact repL_nil.2 hr
  | d :: ds, vs, hm, hr => by
    obtain ⟨v, vs', rfl, h1, h2⟩ := repL_cons.1 hr
    exact repL_cons.2 ⟨v, vs', rfl, frzC_rep hx hs hvw (fun i hi => hm i (by simp [rowsOfs, hi])) h1, frzCs_rep hx hs hvw (fun i hi => hm i (by simp [rowsOfs, hi])) h2⟩

theorem frzS_rep {G' : Gh} (hx : Ext β G β G') {is : List Nat} (hs : ∀ i ∈ is.filter (isShown h), Shown E β G' h i) {hv : Nat → Option AObj} (hvw : ∀ i ∈ is, ∀ x, hv i = some x → h i = some x) {d : DV} {v : Value} (hm : ∀ i ∈ rowsOf d, i ∈ is) (hr : Rep β G d v) : Rep β G' (frzS hv d) v := by
  unfold frzS
  split
  · rename_i cs
    obtain ⟨vs, rfl, hr2⟩ := rep_agg.1 hr
    exact rep_agg.2 ⟨vs, rfl, frzCs_rep hx hs hvw (by simpa [rowsOf] using hm) hr2⟩
  · exact frzC_rep hx hs hvw hm hr

theorem frzSs_rep {G' : Gh} (hx : Ext β G β G') {is : List Nat} (hs : ∀ i ∈ is.filter (isShown h), Shown E β G' h i) {hv : Nat → Option AObj} (hvw : ∀ i ∈ is, ∀ x, hv i = some x → h i = some x) : ∀ {ds : List DV} {vs : List Value}, (∀ i ∈ rowsOfs ds, i ∈ is) → RepL β G ds vs → RepL β G' (ds.map (frzS hv)) vs
  | [], vs, _, hr => by
    rw [repL_nil] at hr
    exact repL_nil.2 hr
  | d :: ds, vs, hm, hr => by
    obtain ⟨v, vs', rfl, h1, h2⟩ := repL_cons.1 hr
    exact repL_cons.2 ⟨v, vs', rfl, frzS_rep hx hs hvw (fun i hi => hm i (by simp [rowsOfs, hi])) h1, frzSs_rep hx hs hvw (fun i hi => hm i (by simp [rowsOfs, hi])) h2⟩

theorem frz_args (hh : HR E w0 G0 D w β G h) {as : List DV} {vs : List Value} (hr : RepL β G as vs) {hv : Nat → Option AObj} (hvw : ∀ i ∈ rowsOfs as, ∀ x, hv i = some x → h i = some x) :
    ∃ G', Ext β G β G' ∧ HR E w0 G0 D w β G' h ∧ RepL β G' (as.map (frzS hv)) vs := by
  obtain ⟨G', h1, h2, h3⟩ := show_rows hh ((rowsOfs as).filter (isShown h))
  rw [shown_nil] at h2 h3
  exact ⟨G', h1, h2, frzSs_rep h1 h3 hvw (fun i hi => hi) hr⟩

open Classical in
noncomputable def cutD (D : DD) (w : World) (β : Bi) (G : Gh) (h s : Nat → Option AObj) : DD := fun b => match D b with
  | some x => some x
  | none => if ∃ i x, h i = some x ∧ s i = none ∧ Owns β i x b then (w.heap[b]?).map fun ob => (ob, G b) else none

theorem cut_other {s : Nat → Option AObj} (hh : HR E w0 G0 D w β G h) {i b : Nat} {x : AObj} (hi : h i = some x) (hs : s i = none) (ho : Owns β i x b) :
    ∃ ob, w.heap[b]? = some ob ∧ cutD D w β G h s b = some (ob, G b) := by
  obtain ⟨_, hb, hd⟩ := hh.own i x b hi ho
  refine ⟨w.heap[b], by simp [hb], ?_⟩
  unfold cutD
  rw [hd]
  simp only
  rw [if_pos ⟨i, x, hi, hs, ho⟩]
  simp [hb]

theorem cut_none {s : Nat → Option AObj} {b : Nat} (hn : cutD D w β G h s b = none) : D b = none := by
  unfold cutD at hn
  cases hd : D b with
  | none => rfl
  | some x => rw [hd] at hn; cases hn

theorem cut_old {s : Nat → Option AObj} {b : Nat} {x : Obj × (Nat → Option Value)} (hd : D b = some x) : cutD D w β G h s b = some x := by
  unfold cutD
  rw [hd]

theorem cut_in {s : Nat → Option AObj} (hh : HR E w0 G0 D w β G h) (hs : ∀ i x, s i = some x → h i = some x) : HR E w0 G0 (cutD D w β G h s) w β G s := by
  refine ⟨hh.below, hh.g0, hh.agree, fun i o hi => hh.obj i o (hs i o hi), fun i o b hi ho => ?_, fun i j o p b hi hj => hh.inj i j o p b (hs i o hi) (hs j p hj), fun d x hd => ?_, hh.inv0⟩
  · obtain ⟨k1, k2, k3⟩ := hh.own i o b (hs i o hi) ho
    refine ⟨k1, k2, ?_⟩
    unfold cutD
    rw [k3]
    simp only
    rw [if_neg]
    rintro ⟨j, y, h1, h2, h3⟩
    have := hh.inj i j o y b (hs i o hi) h1 ho h3
    subst this
    rw [hi] at h2; cases h2
  · unfold cutD at hd
    cases hq : D d with
    | some y =>
      rw [hq] at hd
      simp only [Option.some.injEq] at hd
      subst hd
      exact hh.marks d y hq
    | none =>
      rw [hq] at hd
      simp only at hd
      split at hd
      · rename_i he
        obtain ⟨i, y, h1, h2, h3⟩ := he
        obtain ⟨k1, k2, k3⟩ := hh.own i y d h1 h3
        simp only [k2, getElem?_pos, Option.map_some, Option.some.injEq] at hd
        subst hd
        exact ⟨k1, by simp [k2], fun _ => rfl⟩
      · cases hd

theorem updFind_map (f : Nat → Option AObj) : ∀ (L : List Nat) (id : Nat), updFind id (L.map fun i => (i, f i)) = if id ∈ L then some (f id) else none
  | [], _ => rfl
  | i :: L, id => by
    simp only [List.map_cons, updFind, updFind_map f L id]
    by_cases e : id ∈ L
    · simp [e]
    · simp only [e, if_false, List.mem_cons, or_false, Tr.beq_dec]
      by_cases e2 : i = id
      · subst e2; simp
      · have : ¬ id = i := fun q => e2 q.symm
        simp [e2, this]

def cutL (o : Tr AObj) (R : List Nat) (nx : Nat) : List Nat := R ++ ((o.ents 1 0).map (·.1)).filter (Nat.ble nx)

theorem cutL_mem {o : Tr AObj} {R : List Nat} {nx i : Nat} (hi : i ∈ cutL o R nx) : i ∈ R ∨ nx ≤ i := by
  unfold cutL at hi
  rcases List.mem_append.1 hi with h | h
  · exact .inl h
  · exact .inr (Nat.le_of_ble_eq_true (List.mem_filter.1 h).2)

theorem updF_cut (h : Nat → Option AObj) (o : Tr AObj) (R : List Nat) (nx id : Nat) : updF h (cutUpd o R nx) id = if id ∈ cutL o R nx then o.get id else h id := by
  unfold updF cutUpd
  rw [updFind_map o.get]
  unfold cutL
  split <;> rename_i q
  · split at q
    · rename_i e; cases q; rw [if_pos e]
    · cases q
  · split at q
    · cases q
    · rename_i e; rw [if_neg e]

def CutPost (E : Env) (w0 : World) (G0 : Gh) (D : DD) (β : Bi) (G : Gh) (h : Nat → Option AObj) (nx : Nat) (r : DV) (upd : List (Nat × Option AObj)) (nx' : Nat) (e : Ending) (w' : World) : Prop :=
  ∃ v β' G', e = .returned v ∧ nx ≤ nx' ∧ Ext β G β' G' ∧ (∀ id, id < nx → Keep1 β β' h (updF h upd) id) ∧ HR E w0 G0 D w' β' G' (updF h upd) ∧ (∀ id, nx' ≤ id → Fresh β' (updF h upd) id) ∧ Rep β' G' r v

theorem cut_out {s : Tr AObj} {R : List Nat} {nx : Nat} (hh : HR E w0 G0 D w β G h) (hs : ∀ i x, s.get i = some x → h i = some x) (hsR : ∀ i x, s.get i = some x → i ∈ R) (hfr : ∀ id, nx ≤ id → Fresh β h id) {r : DV} {o' : Tr AObj} {nx' : Nat} {e : Ending} {w' : World}
    (hp : HeapPost E w0 G0 (cutD D w β G h s.get) β G s nx r o' nx' e w') : CutPost E w0 G0 D β G h nx r (cutUpd o' R nx) nx' e w' := by
  obtain ⟨v, β', G', rfl, hle, hgo, hhr, hf', hv⟩ := hp
  have hget : ∀ i x, updF h (cutUpd o' R nx) i = some x → (i ∈ cutL o' R nx ∧ o'.get i = some x) ∨ (h i = some x ∧ s.get i = none ∧ i < nx) := fun i x hi => by
    rw [updF_cut] at hi
    by_cases e : i ∈ cutL o' R nx
    · rw [if_pos e] at hi; exact .inl ⟨e, hi⟩
    · rw [if_neg e] at hi
      refine .inr ⟨hi, ?_, ?_⟩
      · cases hq : s.get i with
        | none => rfl
        | some y => exact absurd (List.mem_append_left _ (hsR i y hq)) e
      · rcases Nat.lt_or_ge i nx with q | q
        · exact q
        · rw [(hfr i q).h] at hi; cases hi
  have hkeep : ∀ i, s.get i = none → i < nx → o'.get i = none ∧ β'.blk i = β.blk i ∧ ∀ u, β'.hdr i u = β.hdr i u := fun i hi hlt => hgo.keep i hlt hi
  have hoth : ∀ i x b, h i = some x → s.get i = none → i < nx → Owns β' i x b → ∃ ob, w.heap[b]? = some ob ∧ cutD D w β G h s.get b = some (ob, G b) := fun i x b hi hn hlt hb => by
    obtain ⟨_, k2, k3⟩ := hkeep i hn hlt
    exact cut_other hh hi hn ((owns_eq k2 k3 x b).1 hb)
  refine ⟨v, β', G', rfl, hle, hgo.ext, fun id hid hn => ?_, ⟨hhr.below, hhr.g0, hhr.agree, fun i x hi => ?_, fun i x b hi hb => ?_, fun i j x y b hi hj hb hc => ?_, fun d x hd => hhr.marks d x (cut_old hd), hh.inv0⟩, fun id hid => ?_, hv⟩
  · have hsn : s.get id = none := by
      cases hq : s.get id with
      | none => rfl
      | some y => rw [hs id y hq] at hn; cases hn
    obtain ⟨k1, k2, k3⟩ := hkeep id hsn hid
    refine ⟨?_, k2, k3⟩
    rw [updF_cut]
    split
    · exact k1
    · exact hn
  · rcases hget i x hi with ⟨_, h1⟩ | ⟨h1, h2, h3⟩
    · exact hhr.obj i x h1
    · obtain ⟨_, k2, k3⟩ := hkeep i h2 h3
      refine ObjR.keep hgo.ext k3 (fun b hb => ?_) (hh.obj i x h1)
      obtain ⟨ob, m1, m2⟩ := cut_other (D := D) hh h1 h2 hb
      obtain ⟨_, m3, m4⟩ := hhr.marks b _ m2
      exact ⟨m3.trans m1.symm, m4⟩
  · rcases hget i x hi with ⟨_, h1⟩ | ⟨h1, h2, h3⟩
    · obtain ⟨k1, k2, k3⟩ := hhr.own i x b h1 hb
      exact ⟨k1, k2, cut_none k3⟩
    · obtain ⟨_, k2, k3⟩ := hkeep i h2 h3
      obtain ⟨m1, _, m3⟩ := hh.own i x b h1 ((owns_eq k2 k3 x b).1 hb)
      obtain ⟨ob, _, m5⟩ := hoth i x b h1 h2 h3 hb
      exact ⟨m1, (Array.getElem?_eq_some_iff.1 (hhr.marks b _ m5).2.1).1, m3⟩
  · rcases hget i x hi with ⟨_, h1⟩ | ⟨h1, h2, h3⟩ <;> rcases hget j y hj with ⟨_, g1⟩ | ⟨g1, g2, g3⟩
    · exact hhr.inj i j x y b h1 g1 hb hc
    · obtain ⟨ob, _, m2⟩ := hoth j y b g1 g2 g3 hc
      rw [(hhr.own i x b h1 hb).2.2] at m2; cases m2
    · obtain ⟨ob, _, m2⟩ := hoth i x b h1 h2 h3 hb
      rw [(hhr.own j y b g1 hc).2.2] at m2; cases m2
    · obtain ⟨_, k2, k3⟩ := hkeep i h2 h3
      obtain ⟨_, k4, k5⟩ := hkeep j g2 g3
      exact hh.inj i j x y b h1 g1 ((owns_eq k2 k3 x b).1 hb) ((owns_eq k4 k5 y b).1 hc)
  · have hf := hf' id hid
    refine ⟨hf.blk, hf.hdr, ?_⟩
    rw [updF_cut]
    split
    · exact hf.h
    · exact (hfr id (by omega)).h

theorem subTr_get (h : Nat → Option AObj) : ∀ (R : List Nat) (i : Nat), (subTr h R).get i = if i ∈ R then h i else none
  | [], _ => rfl
  | j :: R, i => by
    simp only [subTr, Tr.get_set, subTr_get h R]
    by_cases e : i = j
    · subst e; simp
    · simp [e]

theorem callCut_le {callH callY : CallH} (hv : Nat → Option AObj) (nx : Nat) (tgt : DV × List DV) (out : Out) (T : List Nat) (nx2 : Nat) (hd : callCut callH callY hv nx tgt = some (out, T, nx2)) : nx ≤ nx2 := by
  unfold callCut at hd
  split at hd
  · unfold cutRun at hd
    obtain ⟨x, _, hd⟩ := some_bind hd
    obtain ⟨hq, hd⟩ := bif_some hd
    cases hd
    exact Nat.le_of_ble_eq_true hq
  · unfold cutRun at hd
    obtain ⟨x, _, hd⟩ := some_bind hd
    obtain ⟨hq, hd⟩ := bif_some hd
    cases hd
    exact Nat.le_of_ble_eq_true hq
  · cases hd

theorem callCut_sound (hE : ∀ t ti, E.ty t = some ti → TyOk P t ti) {callH callY : CallH} (hH : HeapOk P E callH) (hY : YieldOk P E callY) {o : Oper} {a : Act} {ro : Option Nat} {n : Nat} {ρ : Nat → Option DV} (hf : FrM β G ρ a.tmps) {c : Call} (ho : isCall o.op = some c) {tgt : DV × List DV}
    (ht : target E ρ c = some tgt) (hh : HR E w0 G0 D w β G h) {hv : Nat → Option AObj} {nx nx' : Nat} {out : Out} {T : List Nat} (hd : callCut callH callY hv nx tgt = some (out, T, nx')) (hvw : ∀ i ∈ T, ∀ x, hv i = some x → h i = some x) (hfr : ∀ id, nx ≤ id → Fresh β h id)
    {K : Act → World → Prop} {Q : Exit → Act → World → Prop}
    (hk : ∀ v w' β' G', (∀ d, out.val = some d → Rep β' G' d v) → nx ≤ nx' → Ext β G β' G' → (∀ id, id < nx → Keep1 β β' h (updF h out.upd) id) → HR E w0 G0 D w' β' G' (updF h out.upd) → (∀ id, nx' ≤ id → Fresh β' (updF h out.upd) id) → K (a.put o.dst v) w') : o.wpIn (fw ro) n P a w K Q := by
  have hop := isCall_some ho
  have hsub : ∀ {R : List Nat}, (∀ i ∈ R, i ∈ T) → (∀ i x, (subTr hv R).get i = some x → h i = some x) ∧ (∀ i x, (subTr hv R).get i = some x → i ∈ R) := fun {R} hRT => by
    refine ⟨fun i x hi => ?_, fun i x hi => ?_⟩
    · rw [subTr_get] at hi
      split at hi
      · rename_i hm; exact hvw i (hRT i hm) x hi
      · cases hi
    · rw [subTr_get] at hi
      split at hi
      · rename_i hm; exact hm
      · cases hi
  unfold callCut at hd
  split at hd
  · rename_i g x y as
    unfold cutRun at hd
    obtain ⟨⟨r, o', nx2⟩, hc, hd⟩ := some_bind hd
    obtain ⟨_, hd⟩ := bif_some hd
    cases hd
    obtain ⟨hent, hcs⟩ := hH _ _ _ _ _ _ _ hc
    obtain ⟨vs, hrun, hrep⟩ := target_fn (w := w) hE hf hop ht hent
    obtain ⟨G1, hx1, hh1, hrep1⟩ := frz_args hh hrep (hv := hv) (fun i hi x hx => hvw i (List.mem_append_left _ hi) x hx)
    obtain ⟨hs, hsR⟩ := hsub (R := reach hv 4096 (rids (as.map (frzS hv))) []) (fun i hi => List.mem_append_right _ hi)
    refine ⟨fun f _ => trivial, ?_⟩
    rw [Oper.semAt_eq _ _ _ (by rw [hop]; simp), hrun, Oper.uponIn_enter]
    have hfr1 : ∀ id, nx ≤ id → Fresh β (subTr hv (reach hv 4096 (rids (as.map (frzS hv))) [])).get id := fun id hid => ⟨(hfr id hid).blk, (hfr id hid).hdr, by
      cases hq : (subTr hv (reach hv 4096 (rids (as.map (frzS hv))) [])).get id with
      | none => rfl
      | some y => have := hs id y hq; rw [(hfr id hid).h] at this; cases this⟩
    refine ⟨fun hq => by simp [fw, Fence.wide] at hq, calls_fw (Calls.mono (hcs w0 G0 _ w β G1 vs (cut_in hh1 hs) hfr1 hrep1) fun e w' he => ?_)⟩
    obtain ⟨v, β', G', rfl, hle, hx, hkp, hh2, hf2, hv2⟩ := cut_out hh1 hs hsR hfr he
    exact hk v w' β' G' (fun d hd => by cases hd; exact hv2) hle (hx1.trans hx) hkp hh2 hf2
  · rename_i l as
    unfold cutRun at hd
    obtain ⟨⟨r, o', nx2⟩, hc, hd⟩ := some_bind hd
    obtain ⟨_, hd⟩ := bif_some hd
    cases hd
    obtain ⟨vs, b, hb, hrun, hrep⟩ := target_yld hf hop ht
    obtain ⟨G1, hx1, hh1, hrep1⟩ := frz_args hh hrep (hv := hv) (fun i hi x hx => hvw i (List.mem_append_left _ hi) x hx)
    obtain ⟨hs, hsR⟩ := hsub (R := reach hv 4096 (l :: rids (as.map (frzS hv))) []) (fun i hi => List.mem_append_right _ hi)
    have hfr1 : ∀ id, nx ≤ id → Fresh β (subTr hv (reach hv 4096 (l :: rids (as.map (frzS hv))) [])).get id := fun id hid => ⟨(hfr id hid).blk, (hfr id hid).hdr, by
      cases hq : (subTr hv (reach hv 4096 (l :: rids (as.map (frzS hv))) [])).get id with
      | none => rfl
      | some y => have := hs id y hq; rw [(hfr id hid).h] at this; cases this⟩
    obtain ⟨lf, tm, as', bo, hy, hround⟩ := hY _ _ _ _ _ _ _ hc w0 G0 _ w β G1 vs b hb (cut_in hh1 hs) hfr1 hrep1
    refine ⟨fun f _ => trivial, ?_⟩
    rw [Oper.semAt_eq _ _ _ (by rw [hop]; simp), hrun, hy, Oper.uponIn_round]
    refine ⟨fun hq => by simp [fw, Fence.wide] at hq, round_fw (RoundIn.mono (hround _) fun e w' he => ?_)⟩
    obtain ⟨v, β', G', rfl, hle, hx, hkp, hh2, hf2, hv2⟩ := cut_out hh1 hs hsR hfr he
    exact hk v w' β' G' (fun d hd => by cases hd; exact hv2) hle (hx1.trans hx) hkp hh2 hf2
  · cases hd

end
end Go.Ab
namespace Go.Ab
open Go.RowKit

section
variable {P : Program} {E : Env} {w0 : World} {G0 : Gh} {outer : DD} {own : List Nat} {V nt : Nat} {o : Oper} {a : Act} {w : World} {β : Bi} {G : Gh} {ro : Option Nat} {n : Nat}

theorem put_objs (V nt : Nat) (m : Mid) (dst : Option Tmp) (v : Option DV) : (m.put V nt dst v).objs = m.objs ∧ (m.put V nt dst v).next = m.next := by
  unfold Mid.put
  cases dst with
  | none => exact ⟨rfl, rfl⟩
  | some d =>
    simp only
    cases (!Nat.blt d nt) with
    | true => exact ⟨rfl, rfl⟩
    | false => cases Nat.testBit V d <;> exact ⟨rfl, rfl⟩

theorem slot_put (V nt : Nat) (m : Mid) (dst : Option Tmp) (v : Option DV) (t : Nat) :
    slotOf V (m.put V nt dst v).base (m.put V nt dst v).loc t = if dst = some t ∧ t < nt then v else slotOf V m.base m.loc t := by
  unfold Mid.put
  cases dst with
  | none => simp
  | some d =>
    simp only [Tr.blt_dec]
    by_cases hl : d < nt
    · simp only [hl, decide_true, Bool.not_true, cond_false]
      cases hv : Nat.testBit V d with
      | true =>
        simp only [cond_true]
        unfold slotOf
        by_cases e : d = t
        · subst e; simp [hv, hl, Tr.get_set]
        · have : ¬ t = d := fun h => e h.symm
          simp [e, Tr.get_set, this]
      | false =>
        simp only [cond_false]
        unfold slotOf
        by_cases e : d = t
        · subst e; simp [hv, hl, Loc.find]
        · simp [e, Loc.find, Tr.beq_dec]
    · simp only [hl, decide_false, Bool.not_false, cond_true]
      by_cases e : d = t
      · subst e; simp [hl]
      · simp [e]

theorem put_dom (V nt : Nat) (m : Mid) (dst : Option Tmp) (v : Option DV) (h : ∀ t d, m.base.get t = some d → Nat.testBit V t = true) :
    ∀ t d, (m.put V nt dst v).base.get t = some d → Nat.testBit V t = true := by
  unfold Mid.put
  cases dst with
  | none => exact h
  | some d =>
    simp only
    cases (!Nat.blt d nt) with
    | true => exact h
    | false =>
      cases hv : Nat.testBit V d with
      | true =>
        intro t d' ht
        simp only [cond_false, cond_true, Tr.get_set] at ht
        by_cases e : t = d
        · rw [e]; exact hv
        · rw [if_neg e] at ht; exact h t d' ht
      | false => exact h

abbrev MM (E : Env) (w0 : World) (G0 : Gh) (outer : DD) (V nt : Nat) (own : List Nat) (m : Mid) (a : Act) (w : World) (β : Bi) (G : Gh) : Prop :=
  MI E w0 G0 outer V nt own (slotOf V m.base m.loc) m.base m.objs.get m.next a w β G

theorem frm_put {ρ ρ' : Nat → Option DV} {β' : Bi} {G' : Gh} (hx : Ext β G β' G') (hsz : a.tmps.size = nt) (hf : FrM β G ρ a.tmps) {dst : Option Tmp} {val : Option DV} {v : Value} (hv : ∀ d, val = some d → Rep β' G' d v)
    (hs : ∀ t d, ρ' t = some d → (dst = some t ∧ t < nt ∧ val = some d) ∨ (¬ (dst = some t ∧ t < nt) ∧ ρ t = some d)) : FrM β' G' ρ' (a.put dst v).tmps := fun t d ht => by
  rcases hs t d ht with ⟨rfl, hl, hd⟩ | ⟨hn, hd⟩
  · refine ⟨v, ?_, hv d hd⟩
    simp [Act.put, hsz, hl]
  · obtain ⟨u, hu, hr⟩ := hf t d hd
    refine ⟨u, ?_, Rep.mono hx d u hr⟩
    cases dst with
    | none => exact hu
    | some e =>
      have hlt : t < nt := by rw [← hsz]; exact (Array.getElem?_eq_some_iff.1 hu).1
      have hne : e ≠ t := fun h => hn ⟨by rw [h], hlt⟩
      simp only [Act.put]
      rw [Array.getElem?_setIfInBounds_ne hne]
      exact hu

theorem put_size (dst : Option Tmp) (v : Value) : (a.put dst v).tmps.size = a.tmps.size ∧ (a.put dst v).defers = a.defers := by
  cases dst <;> simp [Act.put]

theorem MM.put {m : Mid} (hm : MM E w0 G0 outer V nt own m a w β G) {objs : Tr AObj} {nx : Nat} {dst : Option Tmp} {val : Option DV} {v : Value} {w' : World} {β' : Bi} {G' : Gh} (hx : Ext β G β' G')
    (hv : ∀ d, val = some d → Rep β' G' d v) (hh : HR E w0 G0 (pushD own outer) w' β' G' objs.get) (hf : ∀ id, nx ≤ id → Fresh β' objs.get id) :
    MM E w0 G0 outer V nt own (({ m with objs := objs, next := nx } : Mid).put V nt dst val) (a.put dst v) w' β' G' := by
  obtain ⟨h1, h2⟩ := put_objs V nt ({ m with objs := objs, next := nx } : Mid) dst val
  obtain ⟨h3, h4⟩ := put_size (a := a) dst v
  refine ⟨frm_put hx hm.sz hm.fr hv fun t d ht => ?_, put_dom V nt _ dst val hm.dom, h3.trans hm.sz, by rw [h1]; exact hh, fun id hid => ?_, ⟨by rw [h4]; exact hm.df.1, hm.df.2⟩⟩
  · rw [slot_put] at ht
    by_cases e : dst = some t ∧ t < nt
    · rw [if_pos e] at ht; exact .inl ⟨e.1, e.2, ht⟩
    · rw [if_neg e] at ht; exact .inr ⟨e, ht⟩
  · rw [h1]; rw [h2] at hid; exact hf id hid

theorem wanted_sound {ops : Array Oper} {ρ : Nat → Option DV} (hf : FrM β G ρ a.tmps) {want : Bool} (h : wantedD ops ρ o = some want) : Region.wanted o (yielded ops a.tmps) = want := by
  unfold wantedD at h
  unfold Region.wanted
  cases hg : o.guard with
  | none => rw [hg] at h; simp only [Option.some.injEq] at h; exact h
  | some g =>
    obtain ⟨j, wt⟩ := g
    rw [hg] at h
    simp only at h ⊢
    unfold yielded
    cases hd : (ops[j]?).bind (·.dst) with
    | none => rw [hd] at h; cases h
    | some t =>
      rw [hd] at h
      simp only at h
      cases hr : ρ t with
      | none => rw [hr] at h; cases h
      | some d =>
        rw [hr] at h
        obtain ⟨v, h1, h2⟩ := hf t d hr
        simp only [Option.bind_some, h1]
        cases d with
        | bool b =>
          rw [rep_bool] at h2; subst h2
          simp only [Option.some.injEq] at h
          rw [← h]
          cases b <;> cases wt <;> rfl
        | _ =>
          have hw : want = false := by simpa using h.symm
          subst hw
          unfold Rep at h2
          first
          | (subst h2; rfl)
          | (obtain ⟨b, _, rfl⟩ := h2; rfl)
          | (obtain ⟨b, n, c, _, rfl⟩ := h2; rfl)
          | (obtain ⟨_, b, o, rfl, _⟩ := h2; rfl)
          | (obtain ⟨a, c, ⟨rfl, _⟩, _⟩ := h2; rfl)
          | (obtain ⟨_, a, n, c, rfl⟩ := h2; rfl)
          | (obtain ⟨_, _, rfl, _, _⟩ := h2; rfl)
          | (obtain ⟨_, _, _, _, _, _, rfl, _⟩ := h2; rfl)
          | (obtain ⟨_, _, rfl, _⟩ := h2; rfl)
          | (obtain ⟨_, rfl, _⟩ := h2; rfl)

theorem stepD_any {call : Nat → List DV → Option DV} {nid : Nat} {ρ : Nat → Option DV} {h : Nat → Option AObj} {op : Op} {r : Out} (hd : stepD E call nid ρ h op = some (some r)) : evAny E call nid ρ h op = some r := by
  unfold stepD at hd
  unfold evAny
  split at hd
  · rename_i hc
    obtain ⟨r', h1, h2⟩ := some_bind hd
    cases h2
    rw [hc]; exact h1
  · rename_i c hc
    obtain ⟨tgt, h1, h2⟩ := some_bind hd
    rw [hc]
    cases hp : purT E tgt with
    | true =>
      rw [hp] at h2
      obtain ⟨r', h3, h4⟩ := some_bind h2
      cases h4
      exact h3
    | false => rw [hp] at h2; cases h2

theorem isDefer_some {df : Bool} {ρ : Nat → Option DV} {op : Op} (hd : isDefer E df ρ op = true) : ∃ c f g caps, op = .defer c ∧ df = true ∧ c.args = #[] ∧ c.callee = .value f ∧ opnd ρ f = some (.fn (.func g) [] caps) ∧ E.dfr g = true := by
  unfold isDefer at hd
  split at hd
  · rename_i c
    simp only [Bool.and_eq_true] at hd
    obtain ⟨⟨h1, h2⟩, h3⟩ := hd
    split at h3
    · rename_i f hf
      split at h3
      · rename_i g caps hg
        exact ⟨c, f, g, caps, rfl, h1, by simpa using h2, hf, hg, h3⟩
      · cases h3
    · cases h3
  · cases hd

theorem seq_sound (hE : ∀ t ti, E.ty t = some ti → TyOk P t ti) {df : Bool} (hdf : df = true → ro = none) {call : Nat → List DV → Option DV} (hp : PureOk P E call) {callH callY : CallH} (hH : HeapOk P E callH) (hY : YieldOk P E callY) {ops : Array Oper} {b : Nat} {Q : Exit → Act → World → Prop} :
    ∀ (os : List Oper) (k : Nat) (m mf : Mid) (a : Act) (w : World) (β : Bi) (G : Gh), evSeq E df call callH callY V nt ops b k os m = some mf → b + k + os.length ≤ m.next →
      (∀ j, k ≤ j → j < k + os.length → Fresh β m.objs.get (b + j)) → MM E w0 G0 outer V nt own m a w β G →
      (∀ a' w' β' G', m.next ≤ mf.next → MM E w0 G0 outer V nt own mf a' w' β' G' → Go2 b β G β' G' m.objs.get mf.objs.get → Q .normal a' w') → wpListIn (fw ro) n P ops Q os a w
  | [], k, m, mf, a, w, β, G, hd, _, _, hm, hq => by
    simp only [evSeq, Option.some.injEq] at hd; subst hd
    exact hq a w β G (Nat.le_refl _) hm (Go2.refl _ _ _ _)
  | o :: os, k, m, mf, a, w, β, G, hd, hle, hfr, hm, hq => by
    simp only [evSeq] at hd
    obtain ⟨want, hw, hd⟩ := some_bind hd
    have hwt := wanted_sound hm.fr hw
    simp only [List.length_cons] at hle hfr
    simp only [wpListIn]
    rw [hwt]
    cases want with
    | false =>
      simp only [cond_false] at hd
      simp only [Bool.false_eq_true, if_false]
      obtain ⟨h1, h2⟩ := put_objs V nt m o.dst (some (.tup []))
      have hm' : MM E w0 G0 outer V nt own (m.put V nt o.dst (some (.tup []))) (a.put o.dst undef) w β G :=
        MM.put (objs := m.objs) (nx := m.next) hm (Ext.refl β G) (fun d hd => by cases hd; exact rep_undef) hm.hr hm.fresh
      refine ⟨fun f _ => trivial, seq_sound hE hdf hp hH hY os (k + 1) _ mf _ w β G hd (by rw [h2]; omega) (fun j hj hl => by rw [h1]; exact hfr j (by omega) (by omega)) hm' fun a' w' β' G' hn hm2 hgo => ?_⟩
      exact hq a' w' β' G' (by rw [h2] at hn; exact hn) hm2 (by rw [h1] at hgo; exact hgo)
    | true =>
      simp only [cond_true] at hd
      simp only [if_true]
      cases hdd : isDefer E df (slotOf V m.base m.loc) o.op with
      | true =>
        rw [hdd] at hd
        simp only [cond_true] at hd
        obtain ⟨c, f, g, caps, ho, hdt, hargs, hcal, hop, hg⟩ := isDefer_some hdd
        have hro : (fw ro).round = none := hdf hdt
        obtain ⟨as, cs, hev, has, _⟩ := rep_fn.1 (eval_rep hm.fr hop)
        rw [repL_nil] at has
        subst has
        have hrun : (o.semAt (fw ro).round a.eval).run P w = .ok (.defer { target := .fn (.func g) cs.toArray, args := #[] }) w := by
          rw [hro, Oper.semAt_none]; unfold execOp; rw [ho]
          simp [resolve, hcal, hargs, hev, Deferred.ofValue]
        refine ⟨fun f _ => trivial, ?_⟩
        rw [hrun, Oper.uponIn_defer]
        obtain ⟨h1, h2⟩ := put_objs V nt m o.dst (some (.tup []))
        have hm0 : MM E w0 G0 outer V nt own m { a with defers := { target := .fn (.func g) cs.toArray, args := #[] } :: a.defers } w β G := ⟨hm.fr, hm.dom, hm.sz, hm.hr, hm.fresh, ⟨.fn _ hg hm.df.1, hm.df.2⟩⟩
        have hm' : MM E w0 G0 outer V nt own (m.put V nt o.dst (some (.tup []))) (({ a with defers := { target := .fn (.func g) cs.toArray, args := #[] } :: a.defers } : Act).put o.dst undef) w β G :=
          MM.put (objs := m.objs) (nx := m.next) hm0 (Ext.refl β G) (fun d hd => by cases hd; exact rep_undef) hm.hr hm.fresh
        refine seq_sound hE hdf hp hH hY os (k + 1) _ mf _ w β G hd (by rw [h2]; omega) (fun j hj hl => by rw [h1]; exact hfr j (by omega) (by omega)) hm' fun a' w' β' G' hn hm2 hgo => ?_
        exact hq a' w' β' G' (by rw [h2] at hn; exact hn) hm2 (by rw [h1] at hgo; exact hgo)
      | false =>
      rw [hdd] at hd
      simp only [cond_false] at hd
      obtain ⟨so, hso, hd⟩ := some_bind hd
      cases so with
      | some r =>
        have hr := stepD_any hso
        refine evAny_sound hE hp hm.fr hm.hr (hfr k (Nat.le_refl _) (by omega)) hr _ _ fun v w' β' G' hv hx hh hkp => ?_
        obtain ⟨h1, h2⟩ := put_objs V nt ({ m with objs := updObjs m.objs r.upd } : Mid) o.dst r.val
        have hget : ∀ id, (updObjs m.objs r.upd).get id = updF m.objs.get r.upd id := updObjs_get _ _
        have hfr' : ∀ id, id ≠ b + k → Keep1 β β' m.objs.get (updObjs m.objs r.upd).get id := fun id hid hf => by
          obtain ⟨q1, q2, q3⟩ := hkp id hid hf
          exact ⟨by rw [hget]; exact q1, q2, q3⟩
        have hm' : MM E w0 G0 outer V nt own (({ m with objs := updObjs m.objs r.upd } : Mid).put V nt o.dst r.val) (a.put o.dst v) w' β' G' :=
          MM.put (objs := updObjs m.objs r.upd) (nx := m.next) hm hx hv (hh.eq hget) (fun id hid => (hfr' id (by omega)).fresh (hm.fresh id hid))
        refine seq_sound hE hdf hp hH hY os (k + 1) _ mf _ w' β' G' hd (by rw [h2]; show b + (k + 1) + os.length ≤ m.next; omega) (fun j hj hl => by rw [h1]; exact (hfr' _ (by omega)).fresh (hfr j (by omega) (by omega))) hm' fun a' w'' β'' G'' hn hm2 hgo => ?_
        refine hq a' w'' β'' G'' (by rw [h2] at hn; exact hn) hm2 (Go2.trans ⟨hx, fun id hi => ?_⟩ hgo)
        rw [h1]; exact hfr' id (by omega)
      | none =>
        obtain ⟨cl, hcl, hd⟩ := some_bind hd
        obtain ⟨tgt, htg, hd⟩ := some_bind hd
        obtain ⟨⟨out, T, nx'⟩, hx1, hd⟩ := some_bind hd
        refine callCut_sound hE hH hY hm.fr hcl htg hm.hr hx1 (fun _ _ _ h => h) hm.fresh fun v w' β' G' hv hle' hx hkp hh hff => ?_
        obtain ⟨h1, h2⟩ := put_objs V nt ({ m with objs := updObjs m.objs out.upd, next := nx' } : Mid) o.dst out.val
        have hget : ∀ id, (updObjs m.objs out.upd).get id = updF m.objs.get out.upd id := updObjs_get _ _
        have hkp' : ∀ id, id < m.next → Keep1 β β' m.objs.get (updObjs m.objs out.upd).get id := fun id hid hf => by
          obtain ⟨q1, q2, q3⟩ := hkp id hid hf
          exact ⟨by rw [hget]; exact q1, q2, q3⟩
        have hm' : MM E w0 G0 outer V nt own (({ m with objs := updObjs m.objs out.upd, next := nx' } : Mid).put V nt o.dst out.val) (a.put o.dst v) w' β' G' :=
          MM.put (objs := updObjs m.objs out.upd) (nx := nx') hm hx hv (hh.eq hget) (fun id hid => by
            have := hff id hid
            exact ⟨this.blk, this.hdr, by rw [hget]; exact this.h⟩)
        refine seq_sound hE hdf hp hH hY os (k + 1) _ mf _ w' β' G' hd (by rw [h2]; show b + (k + 1) + os.length ≤ nx'; omega) (fun j hj hl => by rw [h1]; exact (hkp' _ (by omega)).fresh (hfr j (by omega) (by omega))) hm' fun a'' w'' β'' G'' hn hm2 hgo2 => ?_
        refine hq a'' w'' β'' G'' (by rw [h2] at hn; exact Nat.le_trans hle' hn) hm2 (Go2.trans ⟨hx, fun id hi => ?_⟩ hgo2)
        rw [h1]; exact hkp' id (by omega)

end
end Go.Ab
namespace Go.Ab
open Go.RowKit

structure Agree (n0 : Nat) (β β' : Bi) : Prop where
  blk : ∀ id, id < n0 → β'.blk id = β.blk id
  hdr : ∀ id, id < n0 → ∀ u, β'.hdr id u = β.hdr id u

section bddm
variable {n0 : Nat} {β β' : Bi} {G : Gh}
mutual
theorem Rep.bd (hx : Agree n0 β β') : ∀ (d : DV) (v : Value), bdd n0 d = true → Rep β G d v → Rep β' G d v
  | .bool _, _, _, h => by unfold Rep at h ⊢; exact h
  | .int _ _, _, _, h => by unfold Rep at h ⊢; exact h
  | .str _, _, _, h => by unfold Rep at h ⊢; exact h
  | .nilp, _, _, h => by unfold Rep at h ⊢; exact h
  | .ptr i _, _, hb, h => by
    simp only [bdd, Tr.blt_dec, decide_eq_true_eq] at hb
    unfold Rep at h ⊢; rw [hx.blk i hb]; exact h
  | .rptr i _ _ _ _, _, hb, h => by
    simp only [bdd, Tr.blt_dec, decide_eq_true_eq] at hb
    unfold Rep at h ⊢; rw [hx.hdr i hb]; exact h
  | .pub cs, _, _, h => by
    unfold Rep at h ⊢
    obtain ⟨h0, b, o, h1, h2⟩ := h
    exact ⟨h0, b, o, h1, Pub.free cs b o h0 h2⟩
  | .nils, _, _, h => by unfold Rep at h ⊢; exact h
  | .sl es, v, _, h => Rep.free _ v rfl h
  | .rs i _, _, hb, h => by
    simp only [bdd, Tr.blt_dec, decide_eq_true_eq] at hb
    unfold Rep at h ⊢; rw [hx.hdr i hb]; exact h
  | .rv i _ _ _ _, _, hb, h => by
    simp only [bdd, Tr.blt_dec, decide_eq_true_eq] at hb
    unfold Rep at h ⊢; rw [hx.hdr i hb]; exact h
  | .slen _, _, _, h => by unfold Rep at h ⊢; exact h
  | .agg cs, _, hb, h => by unfold Rep at h ⊢; obtain ⟨vs, h1, h2⟩ := h; exact ⟨vs, h1, RepL.bd hx cs vs (by simpa [bdd] using hb) h2⟩
  | .tup cs, _, hb, h => by unfold Rep at h ⊢; obtain ⟨vs, h1, h2⟩ := h; exact ⟨vs, h1, RepL.bd hx cs vs (by simpa [bdd] using hb) h2⟩
  | .fn _ a c, _, hb, h => by
    unfold Rep at h ⊢
    obtain ⟨as, cs, h1, h2, h3⟩ := h
    have hb' : bdds n0 a = true ∧ bdds n0 c = true := by simpa [bdd] using hb
    exact ⟨as, cs, h1, RepL.bd hx a as hb'.1 h2, RepL.bd hx c cs hb'.2 h3⟩
  | .nilfn, _, _, h => by unfold Rep at h ⊢; exact h
  | .map i, _, hb, h => by
    simp only [bdd, Tr.blt_dec, decide_eq_true_eq] at hb
    unfold Rep at h ⊢; rw [hx.blk i hb]; exact h
  | .nilmap, _, _, h => by unfold Rep at h ⊢; exact h
  | .iface _ d, _, hb, h => by unfold Rep at h ⊢; obtain ⟨u, h1, h2⟩ := h; exact ⟨u, h1, Rep.bd hx d u (by simpa [bdd] using hb) h2⟩
  | .nilif, _, _, h => by unfold Rep at h ⊢; exact h
  | .iter i, _, hb, h => by
    simp only [bdd, Tr.blt_dec, decide_eq_true_eq] at hb
    unfold Rep at h ⊢; rw [hx.blk i hb]; exact h
  | .yld i, _, hb, h => by
    simp only [bdd, Tr.blt_dec, decide_eq_true_eq] at hb
    unfold Rep at h ⊢; rw [hx.blk i hb]; exact h
theorem RepL.bd (hx : Agree n0 β β') : ∀ (ds : List DV) (vs : List Value), bdds n0 ds = true → RepL β G ds vs → RepL β' G ds vs
  | [], _, _, h => by unfold RepL at h ⊢; exact h
  | d :: ds, _, hb, h => by
    unfold RepL at h ⊢
    have hb' : bdd n0 d = true ∧ bdds n0 ds = true := by simpa [bdds] using hb
    obtain ⟨v, vs', h1, h2, h3⟩ := h
    exact ⟨v, vs', h1, Rep.bd hx d v hb'.1 h2, RepL.bd hx ds vs' hb'.2 h3⟩
end
end bddm

theorem findJ_spec {id v : Nat} : ∀ {L : List (Option (Nat × Nat))} {j0 j : Nat}, findJ id v j0 L = some j → j0 ≤ j ∧ L[j - j0]? = some (some (id, v))
  | [], _, _, h => by cases h
  | none :: L, j0, j, h => by
    simp only [findJ] at h
    obtain ⟨h1, h2⟩ := findJ_spec h
    refine ⟨by omega, ?_⟩
    rw [show j - j0 = (j - (j0 + 1)) + 1 by omega]; simpa using h2
  | some (i, u) :: L, j0, j, h => by
    simp only [findJ] at h
    by_cases e : (Nat.beq i id && Nat.beq u v) = true
    · rw [e] at h
      cases h
      simp only [Bool.and_eq_true] at e
      have e1 : i = id := Nat.eq_of_beq_eq_true e.1
      have e2 : u = v := Nat.eq_of_beq_eq_true e.2
      subst e1 e2
      exact ⟨Nat.le_refl _, by simp⟩
    · have e' : (Nat.beq i id && Nat.beq u v) = false := Bool.eq_false_iff.2 e
      rw [e'] at h
      obtain ⟨h1, h2⟩ := findJ_spec h
      refine ⟨by omega, ?_⟩
      rw [show j - j0 = (j - (j0 + 1)) + 1 by omega]; simpa using h2

def renBi (n0 : Nat) (L : List (Option (Nat × Nat))) (β : Bi) : Bi where
  blk i := if i < n0 then β.blk i else none
  hdr i u := if i < n0 then β.hdr i u else if u = 0 then (match L[i - n0]? with | some (some (id, v)) => β.hdr id v | _ => none) else none

theorem renBi_agree (n0 : Nat) (L : List (Option (Nat × Nat))) (β : Bi) : Agree n0 β (renBi n0 L β) := ⟨fun id h => by simp [renBi, h], fun id h u => by simp [renBi, h]⟩

section
variable {n0 : Nat} {L : List (Option (Nat × Nat))} {β : Bi} {G : Gh}

theorem renBi_new {j id v : Nat} (h : L[j]? = some (some (id, v))) : (renBi n0 L β).hdr (n0 + j) 0 = β.hdr id v := by
  have : ¬ n0 + j < n0 := by omega
  simp [renBi, h, this]

theorem keepR {d d' : DV} {v : Value} (h : (bif bdd n0 d then some d else none) = some d') (hr : Rep β G d v) : Rep (renBi n0 L β) G d' v ∧ isCell d' = isCell d := by
  obtain ⟨hb, h⟩ := bif_some h
  cases h
  exact ⟨Rep.bd (renBi_agree n0 L β) _ v hb hr, rfl⟩

mutual
theorem ren_rep : ∀ {d d' : DV} {v : Value}, ren n0 L d = some d' → Rep β G d v → Rep (renBi n0 L β) G d' v ∧ isCell d' = isCell d
  | .rs id ver, d', v, h, hr => by
    simp only [ren] at h
    cases hj : findJ id ver 0 L with
    | none =>
      rw [hj] at h
      obtain ⟨hl, h⟩ := bif_some h
      cases h
      simp only [Bool.and_eq_true, Tr.blt_dec] at hl
      exact ⟨Rep.bd (renBi_agree n0 L β) _ v (by simp only [bdd, Tr.blt_dec]; exact hl.1) hr, rfl⟩
    | some j =>
      rw [hj] at h
      cases h
      obtain ⟨_, h2⟩ := findJ_spec hj
      rw [rep_rs] at hr ⊢
      exact ⟨⟨(renBi_new (by simpa using h2)).trans hr.1, hr.2⟩, rfl⟩
  | .agg cs, d', v, h, hr => by
    simp only [ren] at h
    obtain ⟨cs', h1, h⟩ := some_bind h
    cases h
    obtain ⟨vs, rfl, h2⟩ := rep_agg.1 hr
    exact ⟨rep_agg.2 ⟨vs, rfl, (rens_rep h1 h2).1⟩, rfl⟩
  | .tup cs, d', v, h, hr => by
    simp only [ren] at h
    obtain ⟨cs', h1, h⟩ := some_bind h
    cases h
    obtain ⟨vs, rfl, h2⟩ := rep_tup.1 hr
    exact ⟨rep_tup.2 ⟨vs, rfl, (rens_rep h1 h2).1⟩, rfl⟩
  | .bool _, d', v, h, hr => keepR (d := .bool _) h hr
  | .int _ _, d', v, h, hr => keepR (d := .int _ _) h hr
  | .str _, d', v, h, hr => keepR (d := .str _) h hr
  | .nilp, d', v, h, hr => keepR (d := .nilp) h hr
  | .ptr _ _, d', v, h, hr => keepR (d := .ptr _ _) h hr
  | .rptr _ _ _ _ _, d', v, h, hr => keepR (d := .rptr _ _ _ _ _) h hr
  | .pub _, d', v, h, hr => keepR (d := .pub _) h hr
  | .nils, d', v, h, hr => keepR (d := .nils) h hr
  | .sl _, d', v, h, hr => keepR (d := .sl _) h hr
  | .rv _ _ _ _ _, d', v, h, hr => keepR (d := .rv _ _ _ _ _) h hr
  | .slen _, d', v, h, hr => keepR (d := .slen _) h hr
  | .fn _ _ _, d', v, h, hr => keepR (d := .fn _ _ _) h hr
  | .nilfn, d', v, h, hr => keepR (d := .nilfn) h hr
  | .map _, d', v, h, hr => keepR (d := .map _) h hr
  | .nilmap, d', v, h, hr => keepR (d := .nilmap) h hr
  | .iface _ _, d', v, h, hr => keepR (d := .iface _ _) h hr
  | .nilif, d', v, h, hr => keepR (d := .nilif) h hr
  | .iter _, d', v, h, hr => keepR (d := .iter _) h hr
  | .yld _, d', v, h, hr => keepR (d := .yld _) h hr
theorem rens_rep : ∀ {ds ds' : List DV} {vs : List Value}, rens n0 L ds = some ds' → RepL β G ds vs → RepL (renBi n0 L β) G ds' vs ∧ ds'.all isCell = ds.all isCell
  | [], ds', vs, h, hr => by simp only [rens, Option.some.injEq] at h; subst h; rw [repL_nil] at hr; subst hr; exact ⟨repL_nil.2 rfl, rfl⟩
  | d :: ds, ds', vs, h, hr => by
    simp only [rens] at h
    obtain ⟨c, h1, h⟩ := some_bind h
    obtain ⟨cs, h2, h⟩ := some_bind h
    cases h
    obtain ⟨v, vs', rfl, hr1, hr2⟩ := repL_cons.1 hr
    obtain ⟨k1, k2⟩ := ren_rep h1 hr1
    obtain ⟨k3, k4⟩ := rens_rep h2 hr2
    exact ⟨repL_cons.2 ⟨v, vs', rfl, k1, k3⟩, by simp [k2, k4]⟩
end

theorem addRows_spec {o : Tr AObj} : ∀ {L : List (Option (Nat × Nat))} {j0 : Nat} {no no' : Tr AObj}, addRows o n0 j0 L no = some no' → ∀ i,
    (no'.get i = no.get i ∧ ∀ j id v, i = n0 + j0 + j → L[j]? ≠ some (some (id, v))) ∨ ∃ j id v e es p, i = n0 + j0 + j ∧ L[j]? = some (some (id, v)) ∧ o.get id = some (.row e es p v) ∧ no'.get i = some (.row e es p 0)
  | [], j0, no, no', h, i => by simp only [addRows, Option.some.injEq] at h; subst h; exact .inl ⟨rfl, fun j id v _ => by simp⟩
  | none :: L, j0, no, no', h, i => by
    simp only [addRows] at h
    rcases addRows_spec h i with ⟨h1, h2⟩ | ⟨j, id, v, e, es, p, h1, h2, h3, h4⟩
    · refine .inl ⟨h1, fun j id v hi => ?_⟩
      cases j with
      | zero => simp
      | succ j => simpa using h2 j id v (by omega)
    · exact .inr ⟨j + 1, id, v, e, es, p, by omega, by simpa using h2, h3, h4⟩
  | some (id, v) :: L, j0, no, no', h, i => by
    simp only [addRows] at h
    split at h
    · rename_i e es p u hg
      have hu := (bif_some h).1
      replace h := (bif_some h).2
      have hu : u = v := Nat.eq_of_beq_eq_true hu
      subst hu
      rcases addRows_spec h i with ⟨h1, h2⟩ | ⟨j, id', v', e', es', p', h1, h2, h3, h4⟩
      · rw [Tr.get_set] at h1
        by_cases hi : i = n0 + j0
        · rw [if_pos hi] at h1
          exact .inr ⟨0, id, u, e, es, p, by omega, by simp, hg, h1⟩
        · rw [if_neg hi] at h1
          refine .inl ⟨h1, fun j id' v' hj => ?_⟩
          cases j with
          | zero => omega
          | succ j => simpa using h2 j id' v' (by omega)
      · exact .inr ⟨j + 1, id', v', e', es', p', by omega, by simpa using h2, h3, h4⟩
    · cases h

theorem uniq_spec : ∀ {L : List (Option (Nat × Nat))} {j k id v w : Nat}, uniq L = true → L[j]? = some (some (id, v)) → L[k]? = some (some (id, w)) → j = k
  | [], _, _, _, _, _, _, h, _ => by simp at h
  | none :: L, j, k, id, v, w, hu, h1, h2 => by
    cases j with
    | zero => simp at h1
    | succ j => cases k with
      | zero => simp at h2
      | succ k => exact congrArg (· + 1) (uniq_spec (L := L) (j := j) (k := k) (id := id) (v := v) (w := w) (by simpa [uniq] using hu) (by simpa using h1) (by simpa using h2))
  | some (i, u) :: L, j, k, id, v, w, hu, h1, h2 => by
    simp only [uniq, Bool.and_eq_true, List.all_eq_true] at hu
    have hne : ∀ {k x : Nat}, L[k]? = some (some (i, x)) → False := fun {k x} hk => by
      have := hu.1 _ (List.mem_of_getElem? hk)
      simp at this
    cases j with
    | zero =>
      have e1 : i = id := by
        have : i = id ∧ u = v := by simpa using h1
        exact this.1
      subst e1
      cases k with
      | zero => rfl
      | succ k => exact (hne (by simpa using h2)).elim
    | succ j =>
      replace h1 : L[j]? = some (some (id, v)) := by simpa using h1
      cases k with
      | zero =>
        have e1 : i = id := by
          have : i = id ∧ u = w := by simpa using h2
          exact this.1
        subst e1; exact (hne h1).elim
      | succ k => rw [uniq_spec hu.2 h1 (by simpa using h2)]

end

section
variable {P : Program} {E : Env} {w0 : World} {G0 : Gh} {D : DD} {w : World} {β : Bi} {G : Gh} {n0 : Nat} {L : List (Option (Nat × Nat))} {base : Nat} {h : Nat → Option AObj}

theorem idfrees_flatten : ∀ {es : List (List DV)}, (∀ c ∈ es, idfrees c = true) → idfrees es.flatten = true
  | [], _ => rfl
  | c :: es, h => by
    have happ : ∀ (xs ys : List DV), idfrees xs = true → idfrees ys = true → idfrees (xs ++ ys) = true := fun xs => by
      induction xs with
      | nil => intro ys _ h; exact h
      | cons x xs ih =>
        intro ys h1 h2
        simp only [idfrees, Bool.and_eq_true, List.cons_append] at h1 ⊢
        exact ⟨h1.1, ih ys h1.2 h2⟩
    rw [List.flatten_cons]
    exact happ _ _ (h c (by simp)) (idfrees_flatten fun x hx => h x (by simp [hx]))

theorem keyOk_free {k : DV} (h : keyOk k = true) : idfree k = true := by
  cases k with
  | agg cs =>
    simp only [keyOk, List.all_eq_true] at h
    simp only [idfree]
    exact idfrees_iff.2 fun c hc => by have := h c hc; cases c <;> first | rfl | cases this
  | _ => first | rfl | cases h
theorem mapR_free {β' : Bi} : ∀ {es : List (DV × DV)} {ms : List MapEntry}, MapR β G es ms → MapR β' G es ms
  | [], _, h => h
  | (k, v) :: es, _, ⟨m, ms', h1, h2, h3, h4, h5, h6⟩ => ⟨m, ms', h1, Rep.free k m.key (keyOk_free h4) h2, Rep.free v m.val h5 h3, h4, h5, mapR_free h6⟩

theorem renObj_sound {id : Nat} {x x' : AObj} (hid : id < n0) (h : renObj n0 L x = some x') (ho : ObjR E base w β G id x) : ObjR E base w (renBi n0 L β) G id x' ∧ ∀ b, Owns (renBi n0 L β) id x' b ↔ Owns β id x b := by
  have hb : (renBi n0 L β).blk id = β.blk id := by simp [renBi, hid]
  have hh : ∀ u, (renBi n0 L β).hdr id u = β.hdr id u := fun u => by simp [renBi, hid]
  cases x with
  | cells t cs =>
    simp only [renObj] at h
    obtain ⟨cs', h1, h⟩ := some_bind h
    cases h
    obtain ⟨b, vs, k1, k2, k3, k4, k5⟩ := ho
    obtain ⟨m1, m2⟩ := rens_rep (β := β) h1 k3
    exact ⟨⟨b, vs, by rw [hb]; exact k1, k2, m1, by rw [m2]; exact k4, k5⟩, fun b => by simp [Owns, hb]⟩
  | row t es p u =>
    cases h
    obtain ⟨hdr, vals, k1, k2, k3, k4, k5, k6, k7⟩ := ho
    refine ⟨⟨hdr, vals, by rw [hh]; exact k1, k2, RepL.free _ _ ?_ k3, k4, k5, k6, fun u' hu => by rw [hh]; exact k7 u' hu⟩, fun b => by simp [Owns, hh]⟩
    exact idfrees_flatten fun c hc => (k4 c hc).2.1
  | map es =>
    cases h
    obtain ⟨b, ms, clock, k1, k2, k3, k4⟩ := ho
    exact ⟨⟨b, ms, clock, by rw [hb]; exact k1, k2, mapR_free k3, k4⟩, fun b => by simp [Owns, hb]⟩
  | mit m n se =>
    simp only [renObj] at h
    obtain ⟨hm, h⟩ := bif_some h
    cases h
    have hm : m < n0 := Nat.le_of_ble_eq_true hm
    obtain ⟨b, bm, c0, k1, k2, k3⟩ := ho
    exact ⟨⟨b, bm, c0, by rw [hb]; exact k1, by simp [renBi, hm]; exact k2, k3⟩, fun b => by simp [Owns, hb]⟩
  | bag t es u =>
    cases h
    obtain ⟨fs, hp, hdr, vals, k1, k2, k3, k4, k5, k6, k7⟩ := ho
    refine ⟨⟨fs, hp, hdr, vals, by rw [hh]; exact k1, k2, RepL.free _ _ ?_ k3, k4, k5, k6, fun u' hu => by rw [hh]; exact k7 u' hu⟩, fun b => by simp [Owns, hh]⟩
    exact idfrees_flatten fun c hc => (k4 c hc).2.1
  | siter s pos =>
    cases h
    obtain ⟨b, k1, k2⟩ := ho
    exact ⟨⟨b, by rw [hb]; exact k1, k2⟩, fun b => by simp [Owns, hb]⟩
  | loop fid bs ps as bo bid ex =>
    simp only [renObj] at h
    obtain ⟨bs', h1, h⟩ := some_bind h
    cases h
    obtain ⟨b, tmps, df, fn, F, k1, k2, k3, k4, k5, k6⟩ := ho
    refine ⟨⟨b, tmps, df, fn, F, by rw [hb]; exact k1, k2, fun t d ht => ?_, k4, k5, fun t d ht => ?_⟩, fun b => by simp [Owns, hb]⟩
    · rcases Tr.tm_get1 h1 t with ⟨_, h3⟩ | ⟨x, y, h3, h4, h5⟩
      · rw [h3] at ht; cases ht
      · obtain ⟨d', h6, h7⟩ := some_bind h4
        cases h7
        rw [h5] at ht; cases ht
        obtain ⟨v, h8, h9⟩ := k3 t x h3
        exact ⟨v, h8, (ren_rep h6 h9).1⟩
    · rcases Tr.tm_get1 h1 t with ⟨_, h3⟩ | ⟨x, y, h3, h4, h5⟩
      · rw [h3] at ht; cases ht
      · exact k6 t x h3

theorem moved_spec {id : Nat} : ∀ {L : List (Option (Nat × Nat))}, moved id L = false → ∀ (j v : Nat), L[j]? ≠ some (some (id, v))
  | [], _, j, v => by simp
  | none :: L, h, j, v => by
    cases j with
    | zero => simp
    | succ j => simpa using moved_spec (L := L) (by simpa [moved] using h) j v
  | some (i, w) :: L, h, j, v => by
    simp only [moved, Bool.or_eq_false_iff] at h
    cases j with
    | zero =>
      intro e
      simp only [List.getElem?_cons_zero, Option.some.injEq, Prod.mk.injEq] at e
      rw [e.1, Tr.beq_dec] at h
      simp at h
    | succ j => simpa using moved_spec (L := L) h.2 j v

theorem ren_heap (hh : HR E w0 G0 D w β G h) (hu : uniq L = true) {h' : Nat → Option AObj}
    (hs : ∀ i x', h' i = some x' → ((i < n0 ∧ ∀ (j v : Nat), L[j]? ≠ some (some (i, v))) ∧ ∃ x, h i = some x ∧ renObj n0 L x = some x') ∨ (∃ j id v e es p, i = n0 + j ∧ L[j]? = some (some (id, v)) ∧ h id = some (.row e es p v) ∧ x' = .row e es p 0)) :
    HR E w0 G0 D w (renBi n0 L β) G h' := by
  have horig : ∀ i x', h' i = some x' → ∃ k x, h k = some x ∧ ObjR E w0.heap.size w (renBi n0 L β) G i x' ∧ (∀ b, Owns (renBi n0 L β) i x' b → Owns β k x b) ∧ (((i < n0 ∧ ∀ (j v : Nat), L[j]? ≠ some (some (i, v))) ∧ k = i) ∨ ∃ j v, i = n0 + j ∧ L[j]? = some (some (k, v))) := fun i x' hi => by
    rcases hs i x' hi with ⟨hlt, x, hx, hr⟩ | ⟨j, id, v, e, es, p, rfl, hj, hx, rfl⟩
    · obtain ⟨k1, k2⟩ := renObj_sound hlt.1 hr (hh.obj i x hx)
      exact ⟨i, x, hx, k1, fun b hb => (k2 b).1 hb, .inl ⟨hlt, rfl⟩⟩
    · obtain ⟨hdr, vals, k1, k2, k3, k4, k5, k6, k7⟩ := hh.obj id _ hx
      have hnew := renBi_new (n0 := n0) (β := β) hj
      refine ⟨id, _, hx, ⟨hdr, vals, by rw [hnew]; exact k1, k2, RepL.free _ _ (idfrees_flatten fun c hc => (k4 c hc).2.1) k3, k4, k5, k6, fun u' hu' => ?_⟩, fun b hb => ?_, .inr ⟨j, v, rfl, hj⟩⟩
      · have h1 : ¬ n0 + j < n0 := by omega
        have h2 : u' ≠ 0 := by omega
        simp [renBi, h1, h2]
      · obtain ⟨m, c, hb⟩ := hb
        exact ⟨m, c, by rw [← hnew]; exact hb⟩
  refine ⟨hh.below, hh.g0, hh.agree, fun i x' hi => ?_, fun i x' b hi hb => ?_, fun i i' x y b hi hi' hb hb' => ?_, hh.marks, hh.inv0⟩
  · obtain ⟨k, x, _, h2, _⟩ := horig i x' hi; exact h2
  · obtain ⟨k, x, h1, _, h3, _⟩ := horig i x' hi
    exact hh.own k x b h1 (h3 b hb)
  · obtain ⟨k, z, h1, _, h3, h4⟩ := horig i x hi
    obtain ⟨k', z', h1', _, h3', h4'⟩ := horig i' y hi'
    have hk : k = k' := hh.inj k k' z z' b h1 h1' (h3 b hb) (h3' b hb')
    subst hk
    rcases h4 with ⟨hlt, rfl⟩ | ⟨j, v, rfl, hj⟩ <;> rcases h4' with ⟨hlt', e'⟩ | ⟨j', v', rfl, hj'⟩
    · exact e'
    · exact absurd hj' (hlt.2 _ _)
    · subst e'; exact absurd hj (hlt'.2 _ _)
    · rw [uniq_spec hu hj hj']

theorem HR.rebi (hh : HR E w0 G0 D w β G h) {β' : Bi} (hx : Ext β G β' G) (hs : ∀ i o, h i = some o → β'.blk i = β.blk i ∧ ∀ u, β'.hdr i u = β.hdr i u) : HR E w0 G0 D w β' G h := by
  refine ⟨hh.below, hh.g0, hh.agree, fun i o hi => ?_, fun i o b hi hb => ?_, fun i k o p b hi hk hb hc => ?_, hh.marks, hh.inv0⟩
  · exact ObjR.keep hx (hs i o hi).2 (fun _ _ => ⟨rfl, fun _ => rfl⟩) (hh.obj i o hi)
  · exact hh.own i o b hi ((owns_eq (hs i o hi).1 (hs i o hi).2 o b).1 hb)
  · exact hh.inj i k o p b hi hk ((owns_eq (hs i o hi).1 (hs i o hi).2 o b).1 hb) ((owns_eq (hs k p hk).1 (hs k p hk).2 p b).1 hc)

theorem repL_set : ∀ {cs : List DV} {vs : List Value} {off : Nat} {d : DV} {v : Value}, RepL β G cs vs → vs[off]? = some v → Rep β G d v → RepL β G (cs.set off d) vs
  | [], _, _, _, _, h, _, _ => h
  | c :: cs, _, off, d, v, h, hv, hr => by
    obtain ⟨u, vs', rfl, h1, h2⟩ := repL_cons.1 h
    cases off with
    | zero => simp at hv; subst hv; exact repL_cons.2 ⟨u, vs', rfl, hr, h2⟩
    | succ off => exact repL_cons.2 ⟨u, vs', rfl, h1, repL_set h2 (by simpa using hv) hr⟩
theorem all_set : ∀ {cs : List DV} {off : Nat} {d : DV}, cs.all isCell = true → isCell d = true → (cs.set off d).all isCell = true
  | [], _, _, h, _ => h
  | c :: cs, off, d, h, hd => by
    simp only [List.all_cons, Bool.and_eq_true] at h
    cases off with
    | zero => simp [hd]; simpa using h.2
    | succ off => simp [h.1]; simpa using all_set (off := off) h.2 hd

theorem nilRows_sound (tm : Array Value) (V : Nat) : ∀ (as : List Acc) (j : Nat) (b : Tr DV) (no : Tr AObj) (β : Bi) (r : Tr DV × Tr AObj), nilRows E n0 j as (b, no) = some r →
    HR E w0 G0 D w β G no.get → FrM β G b.get tm → (∀ t d, b.get t = some d → Nat.testBit V t = true) → (∀ i, n0 ≤ i → no.get i = none → Fresh β no.get i) → (∀ i, n0 + j + as.length ≤ i → no.get i = none) →
    ∃ β', Ext β G β' G ∧ Agree n0 β β' ∧ HR E w0 G0 D w β' G r.2.get ∧ FrM β' G r.1.get tm ∧ (∀ t d, r.1.get t = some d → Nat.testBit V t = true) ∧ (∀ i, n0 + j + as.length ≤ i → Fresh β' r.2.get i) ∧
      ∀ i, i < n0 → no.get i = none → r.2.get i = none
  | [], j, b, no, β, r, h, hh, hf, hd, hfr, hn => by
    simp only [nilRows, Option.some.injEq] at h; subst h
    exact ⟨β, Ext.refl β G, ⟨fun _ _ => rfl, fun _ _ _ => rfl⟩, hh, hf, hd, fun i hi => hfr i (by simp at hi; omega) (hn i hi), fun _ _ h => h⟩
  | ac :: as, j, b, no, β, r, h, hh, hf, hd, hfr, hn => by
    simp only [List.length_cons] at hn ⊢
    have skip : nilRows E n0 (j + 1) as (b, no) = some r → ∃ β', Ext β G β' G ∧ Agree n0 β β' ∧ HR E w0 G0 D w β' G r.2.get ∧ FrM β' G r.1.get tm ∧ (∀ t d, r.1.get t = some d → Nat.testBit V t = true) ∧ (∀ i, n0 + j + (as.length + 1) ≤ i → Fresh β' r.2.get i) ∧
      ∀ i, i < n0 → no.get i = none → r.2.get i = none := fun h => by
      obtain ⟨β', k1, k2, k3, k4, k5, k6, k7⟩ := nilRows_sound tm V as (j + 1) b no β r h hh hf hd hfr (fun i hi => hn i (by omega))
      exact ⟨β', k1, k2, k3, k4, k5, fun i hi => k6 i (by omega), k7⟩
    have add : ∀ (b1 : Tr DV) (no1 : Tr AObj) (e : TypeId) (ei : TI), E.ty e = some ei → 0 < ei.size → no.get (n0 + j) = none → nilRows E n0 (j + 1) as (b1, no1.set (n0 + j) (some (.row e [] 0 0))) = some r →
        (∀ i, i ≠ n0 + j → (no1.get i = none ↔ no.get i = none)) →
        (∀ β1, Ext β G β1 G → Agree n0 β β1 → (∀ i, i ≠ n0 + j → β1.blk i = β.blk i ∧ ∀ u, β1.hdr i u = β.hdr i u) → β1.hdr (n0 + j) 0 = some (.slice none 0 0) → FrM β1 G b1.get tm ∧ (∀ t d, b1.get t = some d → Nat.testBit V t = true) ∧ HR E w0 G0 D w β1 G (fun i => if i = n0 + j then none else no1.get i)) →
        ∃ β', Ext β G β' G ∧ Agree n0 β β' ∧ HR E w0 G0 D w β' G r.2.get ∧ FrM β' G r.1.get tm ∧ (∀ t d, r.1.get t = some d → Nat.testBit V t = true) ∧ (∀ i, n0 + j + (as.length + 1) ≤ i → Fresh β' r.2.get i) ∧
          ∀ i, i < n0 → no.get i = none → r.2.get i = none := fun b1 no1 e ei hei hpos hnone hrec hno1 hb1 => by
      have hfresh := hfr (n0 + j) (by omega) hnone
      let β1 : Bi := { β with hdr := fun i u => if i = n0 + j ∧ u = 0 then some (.slice none 0 0) else β.hdr i u }
      have hx1 : Ext β G β1 G := ⟨fun _ _ _ h => h, fun _ _ h => h, fun i u v hv => by
        by_cases e1 : i = n0 + j ∧ u = 0
        · rw [e1.1, hfresh.hdr] at hv; cases hv
        · simp only [β1, if_neg e1]; exact hv⟩
      have hag1 : Agree n0 β β1 := ⟨fun _ _ => rfl, fun i hi u => by
        have : ¬ (i = n0 + j ∧ u = 0) := by omega
        simp only [β1, if_neg this]⟩
      have hoth : ∀ i, i ≠ n0 + j → β1.blk i = β.blk i ∧ ∀ u, β1.hdr i u = β.hdr i u := fun i hi => ⟨rfl, fun u => by simp [β1, hi]⟩
      obtain ⟨hf1, hd1, hh1⟩ := hb1 β1 hx1 hag1 hoth (by simp [β1])
      have hh2 : HR E w0 G0 D w β1 G (no1.set (n0 + j) (some (.row e [] 0 0))).get := by
        refine (hh1.move (fun _ => False) (n0 + j) (.row e [] 0 0) (Ext.refl _ _) hh1.below (fun _ _ _ => rfl) (fun _ _ => rfl) (Nat.le_refl _) (fun _ hf => hf.elim) (fun _ _ _ hf => hf.elim) (fun _ hf => hf.elim) ?_ ?_ ?_ (fun _ _ => ⟨rfl, fun _ => rfl⟩)).eq fun i => ?_
        · refine ⟨.slice none 0 0, [], by simp [β1], ⟨by simp, .inl ⟨rfl, rfl⟩⟩, repL_nil.2 rfl, by simp, ⟨by rw [eszOf_eq hei]; exact hpos, Nat.le_refl _⟩, fun b hb => by simp [Value.ownBlock] at hb, fun u' hu' => ?_⟩
          have : ¬ (u' = 0) := by omega
          simp [β1, this, hfresh.hdr]
        · rintro x ⟨m, c, hb⟩; simp [β1] at hb
        · rintro x ⟨m, c, hb⟩; simp [β1] at hb
        · rw [updF_one, Tr.get_set]
          by_cases e1 : i = n0 + j <;> simp [e1]
      have hs1 : ∀ i, n0 ≤ i → (no1.set (n0 + j) (some (.row e [] 0 0))).get i = none → Fresh β1 (no1.set (n0 + j) (some (.row e [] 0 0))).get i := fun i hi hq => by
        have hq0 := hq
        rw [Tr.get_set] at hq
        by_cases e1 : i = n0 + j
        · rw [if_pos e1] at hq; cases hq
        · rw [if_neg e1] at hq
          have := hfr i hi ((hno1 i e1).1 hq)
          exact ⟨(hoth i e1).1.trans this.blk, fun u => ((hoth i e1).2 u).trans (this.hdr u), hq0⟩
      have hs2 : ∀ i, n0 + (j + 1) + as.length ≤ i → (no1.set (n0 + j) (some (.row e [] 0 0))).get i = none := fun i hi => by
        rw [Tr.get_set, if_neg (by omega)]
        exact (hno1 i (by omega)).2 (hn i (by omega))
      obtain ⟨β', k1, k2, k3, k4, k5, k6, k7⟩ := nilRows_sound tm V as (j + 1) b1 _ β1 r hrec hh2 hf1 hd1 hs1 hs2
      refine ⟨β', hx1.trans k1, ⟨fun i hi => (k2.blk i hi).trans (hag1.blk i hi), fun i hi u => (k2.hdr i hi u).trans (hag1.hdr i hi u)⟩, k3, k4, k5, fun i hi => k6 i (by omega), fun i hi hq => k7 i hi ?_⟩
      rw [Tr.get_set, if_neg (by omega)]; exact (hno1 i (by omega)).2 hq
    cases ac with
    | slot t e =>
      simp only [nilRows] at h
      split at h
      · rename_i hbt
        obtain ⟨ei, hei, h⟩ := some_bind h
        obtain ⟨hq, h⟩ := bif_some h
        simp only [Bool.and_eq_true, Option.isNone_iff_eq_none] at hq
        refine add _ no e ei hei (Nat.le_of_ble_eq_true hq.1) hq.2 h (fun _ _ => Iff.rfl) fun β1 hx1 hag1 hoth hn1 => ⟨fun t' d ht => ?_, fun t' d ht => ?_, ?_⟩
        · rw [Tr.get_set] at ht
          by_cases e1 : t' = t
          · subst e1
            rw [if_pos rfl] at ht; cases ht
            obtain ⟨v, h1, h2⟩ := hf t' _ hbt
            rw [rep_nils] at h2
            exact ⟨v, h1, rep_rs.2 ⟨by rw [hn1, h2], _, _, _, h2⟩⟩
          · rw [if_neg e1] at ht
            obtain ⟨v, h1, h2⟩ := hf t' d ht
            exact ⟨v, h1, Rep.mono hx1 d v h2⟩
        · rw [Tr.get_set] at ht
          by_cases e1 : t' = t
          · subst e1; exact hd t' _ hbt
          · rw [if_neg e1] at ht; exact hd t' d ht
        · exact HR.rebi (hh.less fun i o hi => by
            by_cases e1 : i = n0 + j
            · rw [if_pos e1] at hi; cases hi
            · rw [if_neg e1] at hi; exact hi) hx1 fun i o hi => by
            by_cases e1 : i = n0 + j
            · rw [if_pos e1] at hi; cases hi
            · exact hoth i e1
      · exact skip h
    | cell t off e =>
      simp only [nilRows] at h
      split at h
      · split at h
        · split at h
          · rename_i q hbt _ ct cs hnq _ hcs
            obtain ⟨ei, hei, h⟩ := some_bind h
            obtain ⟨hq, h⟩ := bif_some h
            simp only [Bool.and_eq_true, Option.isNone_iff_eq_none] at hq
            have hqn : q ≠ n0 + j := fun e1 => by rw [e1, hq.2] at hnq; cases hnq
            refine add b _ e ei hei (Nat.le_of_ble_eq_true hq.1) hq.2 h (fun i hi => ?_) fun β1 hx1 hag1 hoth hn1 => ⟨hf.mono hx1, hd, ?_⟩
            · rw [Tr.get_set]
              by_cases e1 : i = q
              · subst e1; simp [hnq]
              · rw [if_neg e1]
            · have hh1 : HR E w0 G0 D w β1 G (fun i => if i = n0 + j then none else no.get i) := HR.rebi (hh.less fun i o hi => by
                by_cases e1 : i = n0 + j
                · rw [if_pos e1] at hi; cases hi
                · rw [if_neg e1] at hi; exact hi) hx1 fun i o hi => by
                by_cases e1 : i = n0 + j
                · rw [if_pos e1] at hi; cases hi
                · exact hoth i e1
              obtain ⟨bk, vs, m1, m2, m3, m4, m5⟩ := hh1.obj q (.cells ct cs) (by rw [if_neg hqn]; exact hnq)
              obtain ⟨v, m6, m7⟩ := repL_get m3 hcs
              rw [rep_nils] at m7; subst m7
              refine (hh1.move (fun _ => False) q (.cells ct (cs.set off (.rs (n0 + j) 0))) (Ext.refl _ _) hh1.below (fun _ _ _ => rfl) (fun _ _ => rfl) (Nat.le_refl _) (fun _ hf => hf.elim) (fun _ _ _ hf => hf.elim) (fun _ hf => hf.elim) ?_ ?_ ?_ (fun _ _ => ⟨rfl, fun _ => rfl⟩)).eq fun i => ?_
              · exact ⟨bk, vs, m1, m2, repL_set m3 m6 (rep_rs.2 ⟨hn1, _, _, _, rfl⟩), all_set m4 rfl, m5⟩
              · intro x hx
                exact .inr ⟨.cells ct cs, by rw [if_neg hqn]; exact hnq, hx⟩
              · intro x hx
                exact (hh1.own q (.cells ct cs) x (by rw [if_neg hqn]; exact hnq) hx).2.1
              · rw [updF_one, Tr.get_set]
                by_cases e1 : i = q
                · subst e1; simp [hqn]
                · simp [e1]
          · exact skip h
        · exact skip h
      · exact skip h

end
end Go.Ab
namespace Go.Ab
open Go.RowKit

section
variable {P : Program} {E : Env} {w0 : World} {G0 : Gh} {outer : DD} {own : List Nat} {V nt : Nat} {a : Act} {w : World} {β : Bi} {G : Gh} {n0 : Nat}

abbrev SS (E : Env) (w0 : World) (G0 : Gh) (outer : DD) (V nt : Nat) (own : List Nat) (s : St) (a : Act) (w : World) (β : Bi) (G : Gh) : Prop :=
  MI E w0 G0 outer V nt own s.base.get s.base s.objs.get s.next a w β G

theorem lift_obj {id : Nat} {x : AObj} (h : ObjR E w0.heap.size w β G id x) : ObjR E w0.heap.size w β G id (liftO x) := by
  cases x with
  | row t es p u =>
    obtain ⟨hdr, vals, k1, k2, k3, k4, k5, k6, k7⟩ := h
    exact ⟨hdr, vals, k1, k2, k3, k4, ⟨k5.1, pn_le _ _⟩, fun b hb o ho => k6 b hb o (Nat.le_trans (Nat.mul_le_mul_right _ (pn_le _ _)) ho), k7⟩
  | _ => exact h

theorem lift_owns {id : Nat} {x : AObj} {b : Nat} : Owns β id (liftO x) b ↔ Owns β id x b := by cases x <;> exact Iff.rfl

theorem Tr.mapv_get1 {α γ : Type} (f : α → γ) : ∀ (t : Tr α) (k : Nat), (t.mapv f).get k = (t.get k).map f
  | .leaf, _ => rfl
  | .node l v r, k => by
    simp only [Tr.mapv, Tr.get]
    cases Nat.beq k 0 with
    | true => rfl
    | false =>
      simp only [cond_false]
      cases Nat.beq (k % 2) 1 with
      | true => exact mapv_get1 f l _
      | false => exact mapv_get1 f r _

theorem HR.lift {h : Nat → Option AObj} {D : DD} (hh : HR E w0 G0 D w β G h) {h' : Nat → Option AObj} (hl : ∀ i, h' i = (h i).map liftO) : HR E w0 G0 D w β G h' := by
  have key : ∀ i x', h' i = some x' → ∃ x, h i = some x ∧ x' = liftO x := fun i x' hi => by
    rw [hl i] at hi
    cases hq : h i with
    | none => rw [hq] at hi; cases hi
    | some x => rw [hq] at hi; cases hi; exact ⟨x, rfl, rfl⟩
  refine ⟨hh.below, hh.g0, hh.agree, fun i x' hi => ?_, fun i x' b hi hb => ?_, fun i j x y b hi hj hb hc => ?_, hh.marks, hh.inv0⟩
  · obtain ⟨x, h1, rfl⟩ := key i x' hi
    exact lift_obj (hh.obj i x h1)
  · obtain ⟨x, h1, rfl⟩ := key i x' hi
    exact hh.own i x b h1 (lift_owns.1 hb)
  · obtain ⟨x', h1, rfl⟩ := key i x hi
    obtain ⟨y', h2, rfl⟩ := key j y hj
    exact hh.inj i j x' y' b h1 h2 (lift_owns.1 hb) (lift_owns.1 hc)

theorem norm0_sound {hint : Hint} {s s' : St} (hn : norm0 E hint n0 s = some s') (hm : SS E w0 G0 outer V nt own s a w β G) :
    ∃ β', SS E w0 G0 outer V nt own s' a w β' G ∧ Agree n0 β β' ∧ (∀ i, i < n0 → s.objs.get i = none → s'.objs.get i = none) ∧ n0 ≤ s'.next := by
  unfold norm0 at hn
  simp only at hn
  obtain ⟨hu, hn⟩ := bif_some hn
  obtain ⟨b, hb, hn⟩ := some_bind hn
  obtain ⟨o1, ho1, hn⟩ := some_bind hn
  obtain ⟨o2, ho2, hn⟩ := some_bind hn
  obtain ⟨r, hr, hn⟩ := some_bind hn
  cases hn
  generalize extraL s.objs s.base n0 hint.keep (hint.accs.map (accSrc s.objs s.base)) = XL at hu hb ho1 ho2 hr
  generalize hLdef : XL.map some ++ hint.accs.map (accSrc s.objs s.base) = L at hu hb ho1 ho2
  have hLlen : L.length = XL.length + hint.accs.length := by rw [← hLdef, List.length_append, List.length_map, List.length_map]
  have hspec : ∀ i x', o2.get i = some x' → ((i < n0 ∧ ∀ (j v : Nat), L[j]? ≠ some (some (i, v))) ∧ ∃ x, s.objs.get i = some x ∧ renObj n0 L x = some x') ∨ (∃ j id v e es p, i = n0 + j ∧ L[j]? = some (some (id, v)) ∧ s.objs.get id = some (.row e es p v) ∧ x' = .row e es p 0) := fun i x' hi => by
    rcases addRows_spec ho2 i with ⟨h1, h2⟩ | ⟨j, id, v, e, es, p, h1, h2, h3, h4⟩
    · rw [h1] at hi
      rcases Tr.tm_get1 ho1 i with ⟨_, h4⟩ | ⟨x, y, h3, h4, h5⟩
      · rw [h4] at hi; cases hi
      · rw [h5] at hi
        cases hl : (Nat.blt i n0 && !moved i L) with
        | true =>
          rw [hl] at h4
          simp only [cond_true] at h4
          obtain ⟨z, h6, h7⟩ := some_bind h4
          cases h7
          cases hi
          simp only [Bool.and_eq_true, Bool.not_eq_true', Tr.blt_dec, decide_eq_true_eq] at hl
          exact .inl ⟨⟨hl.1, moved_spec hl.2⟩, x, h3, h6⟩
        | false =>
          rw [hl] at h4
          simp only [cond_false] at h4
          cases h4
          cases hi
    · rw [h4] at hi; cases hi
      exact .inr ⟨j, id, v, e, es, p, by omega, h2, h3, rfl⟩
  have hh1 := ren_heap hm.hr hu hspec
  have hbase : ∀ t d', b.get t = some d' → ∃ d, s.base.get t = some d ∧ ren n0 L d = some d' := fun t d' ht => by
    rcases Tr.tm_get1 hb t with ⟨_, h4⟩ | ⟨x, y, h3, h4, h5⟩
    · rw [h4] at ht; cases ht
    · rw [h5] at ht
      subst ht
      cases hk : Nat.testBit hint.keep t with
      | true =>
        rw [hk] at h4
        simp only [cond_true] at h4
        obtain ⟨z, h6, h7⟩ := some_bind h4
        cases h7
        exact ⟨x, h3, h6⟩
      | false =>
        rw [hk] at h4
        simp only [cond_false] at h4
        cases h4
  have hf1 : FrM (renBi n0 L β) G b.get a.tmps := fun t d' ht => by
    obtain ⟨d, h1, h2⟩ := hbase t d' ht
    obtain ⟨v, h3, h4⟩ := hm.fr t d h1
    exact ⟨v, h3, (ren_rep h2 h4).1⟩
  have hd1 : ∀ t d, b.get t = some d → Nat.testBit V t = true := fun t d' ht => by
    obtain ⟨d, h1, _⟩ := hbase t d' ht
    exact hm.dom t d h1
  have hfr1 : ∀ i, n0 ≤ i → o2.get i = none → Fresh (renBi n0 L β) o2.get i := fun i hi hq => by
    have h1 : ¬ i < n0 := by omega
    refine ⟨by simp [renBi, h1], fun u => ?_, hq⟩
    simp only [renBi, h1, if_false]
    by_cases hu0 : u = 0
    · rw [if_pos hu0]
      split
      · rename_i id v hj
        rcases addRows_spec ho2 i with ⟨h2, h3⟩ | ⟨j, id', v', e, es, p, h2, h3, h4, h5⟩
        · exact absurd hj (h3 (i - n0) id v (by omega))
        · rw [h5] at hq; cases hq
      · rfl
    · rw [if_neg hu0]
  have hn1 : ∀ i, n0 + XL.length + hint.accs.length ≤ i → o2.get i = none := fun i hi => by
    cases hq : o2.get i with
    | none => rfl
    | some x =>
      rcases hspec i x hq with ⟨h1, _⟩ | ⟨j, id, v, e, es, p, h1, h2, _⟩
      · have := h1.1; omega
      · have := (List.getElem?_eq_some_iff.1 h2).1
        omega
  obtain ⟨β', k1, k2, k3, k4, k5, k6, k7⟩ := nilRows_sound a.tmps V hint.accs XL.length b o2 _ r hr hh1 hf1 hd1 hfr1 hn1
  have hag := renBi_agree n0 L β
  refine ⟨β', ⟨k4, k5, hm.sz, k3, fun i hi => k6 i hi, hm.df⟩, ⟨fun i hi => (k2.blk i hi).trans (hag.blk i hi), fun i hi u => (k2.hdr i hi u).trans (hag.hdr i hi u)⟩, fun i hi hq => k7 i hi ?_, by show n0 ≤ n0 + XL.length + hint.accs.length; omega⟩
  cases hz : o2.get i with
  | none => rfl
  | some x =>
    rcases hspec i x hz with ⟨_, x', h2, _⟩ | ⟨j, id, v, e, es, p, h1, _⟩
    · rw [hq] at h2; cases h2
    · omega

theorem norm_sound {hint : Hint} {s s' : St} (hn : norm E hint n0 s = some s') (hm : SS E w0 G0 outer V nt own s a w β G) :
    ∃ β', SS E w0 G0 outer V nt own s' a w β' G ∧ Agree n0 β β' ∧ (∀ i, i < n0 → s.objs.get i = none → s'.objs.get i = none) ∧ n0 ≤ s'.next := by
  unfold norm at hn
  obtain ⟨s1, h1, hn⟩ := some_bind hn
  cases hn
  obtain ⟨β', k1, k2, k3, k4⟩ := norm0_sound h1 hm
  cases hint.raw with
  | true => exact ⟨β', k1, k2, k3, k4⟩
  | false =>
    simp only [cond_false]
    have hg : ∀ i, (s1.objs.mapv liftO).get i = (s1.objs.get i).map liftO := Tr.mapv_get1 liftO _
    refine ⟨β', ⟨k1.fr, k1.dom, k1.sz, k1.hr.lift hg, fun i hi => ?_, k1.df⟩, k2, fun i hi hq => ?_, k4⟩
    · have hf := k1.fresh i hi
      exact ⟨hf.blk, hf.hdr, by show (s1.objs.mapv liftO).get i = none; rw [hg, hf.h]; rfl⟩
    · show (s1.objs.mapv liftO).get i = none
      rw [hg, k3 i hi hq]; rfl

end
end Go.Ab
namespace Go.Ab
open Go.RowKit

theorem memN_iff {i : Nat} : ∀ {l : List Nat}, memN i l = true ↔ i ∈ l
  | [] => by simp [memN]
  | j :: l => by
    simp only [memN, Tr.beq_dec, List.mem_cons]
    by_cases e : i = j
    · simp [e]
    · simp [e, memN_iff (l := l)]
theorem lenN_eq : ∀ (l : List Nat), lenN l = l.length
  | [] => rfl
  | _ :: l => by simp [lenN, lenN_eq l]
theorem idxN_lt {i : Nat} : ∀ {l : List Nat}, i ∈ l → idxN i l < lenN l
  | j :: l, h => by
    simp only [idxN, lenN, Tr.beq_dec]
    by_cases e : i = j
    · simp [e]
    · have := idxN_lt (l := l) (by simpa [e] using h)
      simp [e, this]
theorem nth_idx {d i : Nat} : ∀ {l : List Nat}, i ∈ l → nthN d (idxN i l) l = i
  | j :: l, h => by
    simp only [idxN, Tr.beq_dec]
    by_cases e : i = j
    · simp [e, nthN]
    · have := nth_idx (d := d) (l := l) (by simpa [e] using h)
      simp [e, nthN, this]
theorem nth_mem {d : Nat} : ∀ {l : List Nat} {j : Nat}, j < lenN l → nthN d j l ∈ l
  | [], j, h => by simp [lenN] at h
  | i :: l, 0, _ => by simp [nthN]
  | i :: l, j + 1, h => by
    simp only [lenN] at h
    simp only [nthN, List.mem_cons]
    exact .inr (nth_mem (by omega))
theorem idx_nth {d : Nat} : ∀ {l : List Nat} {j : Nat}, uniqN l = true → j < lenN l → idxN (nthN d j l) l = j
  | [], j, _, h => by simp [lenN] at h
  | i :: l, 0, _, _ => by simp [nthN, idxN]
  | i :: l, j + 1, hu, h => by
    simp only [lenN] at h
    simp only [uniqN, Bool.and_eq_true, Bool.not_eq_true'] at hu
    have hm := nth_mem (d := d) (l := l) (j := j) (by omega)
    have hne : ¬ nthN d j l = i := fun e => by
      have := memN_iff.2 hm
      rw [e, hu.1] at this; cases this
    simp only [nthN, idxN, Tr.beq_dec, hne, decide_false, cond_false, idx_nth hu.2 (by omega : j < lenN l)]
theorem mem_upN {j : Nat} : ∀ {n i : Nat}, j ∈ upN i n ↔ i ≤ j ∧ j < i + n
  | 0, i => by simp [upN]
  | n + 1, i => by
    simp only [upN, List.mem_cons, mem_upN]
    omega
theorem mem_geN {k i : Nat} : ∀ {l : List Nat}, i ∈ geN k l ↔ i ∈ l ∧ k ≤ i
  | [] => by simp [geN]
  | j :: l => by
    simp only [geN]
    cases hb : Nat.ble k j with
    | true =>
      have := Nat.le_of_ble_eq_true hb
      simp only [cond_true, List.mem_cons, mem_geN (l := l)]
      constructor
      · rintro (e | ⟨h1, h2⟩)
        · subst e; exact ⟨.inl rfl, this⟩
        · exact ⟨.inr h1, h2⟩
      · rintro ⟨e | e, h2⟩
        · exact .inl e
        · exact .inr ⟨e, h2⟩
    | false =>
      have : ¬ k ≤ j := fun h => by rw [Nat.ble_eq_true_of_le h] at hb; cases hb
      simp only [cond_false, List.mem_cons, mem_geN (l := l)]
      constructor
      · rintro ⟨h1, h2⟩; exact ⟨.inr h1, h2⟩
      · rintro ⟨e | e, h2⟩
        · subst e; exact absurd h2 this
        · exact ⟨e, h2⟩

theorem Tr.allV_get {α : Type} {p : α → Bool} : ∀ {t : Tr α}, t.allV p = true → ∀ {k : Nat} {x : α}, t.get k = some x → p x = true
  | .leaf, _, k, x, h => by cases h
  | .node l v r, ha, k, x, h => by
    simp only [Tr.allV, Bool.and_eq_true] at ha
    rw [Tr.get_node] at h
    by_cases e0 : k = 0
    · rw [if_pos e0] at h
      subst h
      exact ha.2.1
    · rw [if_neg e0] at h
      by_cases e1 : k % 2 = 1
      · rw [if_pos e1] at h; exact Tr.allV_get ha.1 h
      · rw [if_neg e1] at h; exact Tr.allV_get ha.2.2 h

theorem Tr.mapv_get' {α β : Type} (f : α → β) : ∀ (t : Tr α) (k : Nat), (t.mapv f).get k = (t.get k).map f
  | .leaf, _ => rfl
  | .node l v r, k => by
    simp only [Tr.mapv]
    rw [Tr.get_node, Tr.get_node]
    by_cases e0 : k = 0
    · rw [if_pos e0, if_pos e0]
    · rw [if_neg e0, if_neg e0]
      by_cases e1 : k % 2 = 1
      · rw [if_pos e1, if_pos e1]; exact Tr.mapv_get' f l _
      · rw [if_neg e1, if_neg e1]; exact Tr.mapv_get' f r _

theorem Tr.ents_get {α : Type} : ∀ (t : Tr α) (a b k : Nat) (x : α), t.get k = some x → (a * k + b, x) ∈ t.ents a b
  | .leaf, _, _, _, _, h => by cases h
  | .node l v r, a, b, k, x, h => by
    rw [Tr.get_node] at h
    simp only [Tr.ents, List.mem_append]
    by_cases e0 : k = 0
    · rw [if_pos e0] at h
      subst h
      subst e0
      exact .inr (.inl (by simp))
    · rw [if_neg e0] at h
      by_cases e1 : k % 2 = 1
      · rw [if_pos e1] at h
        have := Tr.ents_get l (2 * a) (a + b) _ _ h
        rw [show 2 * a * (k / 2) + (a + b) = a * k + b by
          have : k = 2 * (k / 2) + 1 := by omega
          generalize k / 2 = m at this; subst this
          rw [Nat.mul_add, ← Nat.mul_assoc, Nat.mul_comm a 2]; omega] at this
        exact .inl this
      · rw [if_neg e1] at h
        have := Tr.ents_get r (2 * a) (2 * a + b) _ _ h
        rw [show 2 * a * (k / 2 - 1) + (2 * a + b) = a * k + b by
          have : k = 2 * (k / 2 - 1) + 2 := by omega
          generalize k / 2 - 1 = m at this; subst this
          rw [Nat.mul_add, ← Nat.mul_assoc, Nat.mul_comm a 2]; omega] at this
        exact .inr (.inr this)

theorem reach_some (h : Nat → Option AObj) : ∀ (n : Nat) (todo acc : List Nat) (i : Nat), i ∈ reach h n todo acc → (∀ j ∈ acc, ∃ x, h j = some x) → ∃ x, h i = some x
  | 0, _, acc, i, hi, ha => ha i hi
  | n + 1, [], acc, i, hi, ha => ha i hi
  | n + 1, j :: todo, acc, i, hi, ha => by
    simp only [reach] at hi
    cases hq : acc.any (Nat.beq j) with
    | true => rw [hq] at hi; exact reach_some h n _ _ i hi ha
    | false =>
      rw [hq] at hi
      simp only [cond_false] at hi
      cases hj : h j with
      | none => rw [hj] at hi; exact reach_some h n _ _ i hi ha
      | some o =>
        rw [hj] at hi
        refine reach_some h n _ _ i hi fun k hk => ?_
        rcases List.mem_cons.1 hk with e | e
        · exact e ▸ ⟨o, hj⟩
        · exact ha k e

theorem okH_mem {p : Nat → Bool} {h : Nat → Option AObj} : ∀ {is : List Nat}, okH p h is = true → ∀ i ∈ is, ∀ o, h i = some o → okO p o = true
  | [], _, i, hi, _, _ => by cases hi
  | j :: is, hb, i, hi, o, ho => by
    simp only [okH, Bool.and_eq_true] at hb
    rcases List.mem_cons.1 hi with e | e
    · subst e; rw [ho] at hb; exact hb.1
    · exact okH_mem hb.2 i e o ho

mutual
theorem okD_true : ∀ d : DV, okD (fun _ => true) d = true
  | .ptr _ _ | .rptr _ _ _ _ _ | .rs _ _ | .rv _ _ _ _ _ | .map _ | .iter _ | .yld _ => by simp [okD]
  | .agg cs => by simp only [okD]; exact okDs_true cs
  | .tup cs => by simp only [okD]; exact okDs_true cs
  | .fn _ a b => by simp only [okD, okDs_true a, okDs_true b, Bool.and_self]
  | .iface _ v => by simp only [okD]; exact okD_true v
  | .bool _ | .int _ _ | .str _ | .nilp | .pub _ | .nils | .sl _ | .slen _ | .nilfn | .nilmap | .nilif => by simp [okD]
theorem okDs_true : ∀ ds : List DV, okDs (fun _ => true) ds = true
  | [] => by simp [okDs]
  | d :: ds => by simp only [okDs, okD_true d, okDs_true ds, Bool.and_self]
end
theorem allV_true {α : Type} {p : α → Bool} (hp : ∀ x, p x = true) : ∀ t : Tr α, t.allV p = true
  | .leaf => rfl
  | .node l v r => by
    simp only [Tr.allV, allV_true hp l, allV_true hp r, Bool.true_and, Bool.and_true]
    cases v with
    | none => rfl
    | some x => exact hp x
theorem okO_true (o : AObj) : okO (fun _ => true) o = true := by
  cases o <;> simp only [okO]
  · exact okDs_true _
  · exact allV_true okD_true _

def RnRel (p : Nat → Bool) (f : Nat → Nat) (β β' : Bi) : Prop := ∀ i, p i = true → β'.blk (f i) = β.blk i ∧ ∀ u, β'.hdr (f i) u = β.hdr i u

section
variable {P : Program} {E : Env} {w0 : World} {G0 : Gh} {D : DD} {w : World} {β β' : Bi} {G : Gh} {h : Nat → Option AObj} {p : Nat → Bool} {f : Nat → Nat}

mutual
theorem Rep.rn (hx : RnRel p f β β') : ∀ (d : DV) (v : Value), okD p d = true → Rep β G d v → Rep β' G (rn f d) v
  | .bool _, _, _, h => by unfold Ab.rn; unfold Rep at h ⊢; exact h
  | .int _ _, _, _, h => by unfold Ab.rn; unfold Rep at h ⊢; exact h
  | .str _, _, _, h => by unfold Ab.rn; unfold Rep at h ⊢; exact h
  | .nilp, _, _, h => by unfold Ab.rn; unfold Rep at h ⊢; exact h
  | .ptr i _, _, hb, h => by
    unfold Ab.rn; unfold Rep at h ⊢; rw [(hx i hb).1]; exact h
  | .rptr i _ _ _ _, _, hb, h => by
    unfold Ab.rn; unfold Rep at h ⊢; simp only [(hx i hb).2]; exact h
  | .pub cs, _, _, h => by
    unfold Ab.rn
    unfold Rep at h ⊢
    obtain ⟨h0, b, o, h1, h2⟩ := h
    exact ⟨h0, b, o, h1, Pub.free cs b o h0 h2⟩
  | .nils, _, _, h => by unfold Ab.rn; unfold Rep at h ⊢; exact h
  | .sl es, v, _, h => by unfold Ab.rn; exact Rep.free _ v rfl h
  | .rs i _, _, hb, h => by
    unfold Ab.rn; unfold Rep at h ⊢; rw [(hx i hb).2]; exact h
  | .rv i _ _ _ _, _, hb, h => by
    unfold Ab.rn; unfold Rep at h ⊢; rw [(hx i hb).2]; exact h
  | .slen _, _, _, h => by unfold Ab.rn; unfold Rep at h ⊢; exact h
  | .agg cs, _, hb, h => by unfold Ab.rn; unfold Rep at h ⊢; obtain ⟨vs, h1, h2⟩ := h; exact ⟨vs, h1, RepL.rn hx cs vs (by simpa [okD] using hb) h2⟩
  | .tup cs, _, hb, h => by unfold Ab.rn; unfold Rep at h ⊢; obtain ⟨vs, h1, h2⟩ := h; exact ⟨vs, h1, RepL.rn hx cs vs (by simpa [okD] using hb) h2⟩
  | .fn _ a c, _, hb, h => by
    unfold Ab.rn
    unfold Rep at h ⊢
    obtain ⟨as, cs, h1, h2, h3⟩ := h
    have hb' : okDs p a = true ∧ okDs p c = true := by simpa [okD] using hb
    exact ⟨as, cs, h1, RepL.rn hx a as hb'.1 h2, RepL.rn hx c cs hb'.2 h3⟩
  | .nilfn, _, _, h => by unfold Ab.rn; unfold Rep at h ⊢; exact h
  | .map i, _, hb, h => by
    unfold Ab.rn; unfold Rep at h ⊢; rw [(hx i hb).1]; exact h
  | .nilmap, _, _, h => by unfold Ab.rn; unfold Rep at h ⊢; exact h
  | .iface _ d, _, hb, h => by unfold Ab.rn; unfold Rep at h ⊢; obtain ⟨u, h1, h2⟩ := h; exact ⟨u, h1, Rep.rn hx d u (by simpa [okD] using hb) h2⟩
  | .nilif, _, _, h => by unfold Ab.rn; unfold Rep at h ⊢; exact h
  | .iter i, _, hb, h => by
    unfold Ab.rn; unfold Rep at h ⊢; rw [(hx i hb).1]; exact h
  | .yld i, _, hb, h => by
    unfold Ab.rn; unfold Rep at h ⊢; rw [(hx i hb).1]; exact h
theorem RepL.rn (hx : RnRel p f β β') : ∀ (ds : List DV) (vs : List Value), okDs p ds = true → RepL β G ds vs → RepL β' G (rns f ds) vs
  | [], _, _, h => by unfold rns; unfold RepL at h ⊢; exact h
  | d :: ds, _, hb, h => by
    unfold rns
    unfold RepL at h ⊢
    have hb' : okD p d = true ∧ okDs p ds = true := by simpa [okDs] using hb
    obtain ⟨v, vs', h1, h2, h3⟩ := h
    exact ⟨v, vs', h1, Rep.rn hx d v hb'.1 h2, RepL.rn hx ds vs' hb'.2 h3⟩
end

theorem rn_cell (f : Nat → Nat) (d : DV) : isCell (rn f d) = isCell d := by cases d <;> simp [rn, isCell]
theorem rns_cell (f : Nat → Nat) : ∀ ds : List DV, (rns f ds).all isCell = ds.all isCell
  | [] => by simp [rns]
  | d :: ds => by simp only [rns, List.all_cons, rn_cell, rns_cell f ds]

theorem idfrees_flat : ∀ {es : List (List DV)}, (∀ c ∈ es, idfrees c = true) → idfrees es.flatten = true
  | [], _ => rfl
  | c :: es, h => by
    have happ : ∀ (a b : List DV), idfrees a = true → idfrees b = true → idfrees (a ++ b) = true := fun a b ha hb => by
      induction a with
      | nil => exact hb
      | cons x a ih =>
        simp only [idfrees, Bool.and_eq_true, List.cons_append] at ha ⊢
        exact ⟨ha.1, ih ha.2⟩
    rw [List.flatten_cons]
    exact happ _ _ (h c (by simp)) (idfrees_flat fun c hc => h c (by simp [hc]))

theorem ObjR.rn (hx : RnRel p f β β') {id base : Nat} (hid : p id = true) : ∀ {o : AObj}, okO p o = true → ObjR E base w β G id o → ObjR E base w β' G (f id) (rnO f o)
  | .cells t cs, hb, hr => by
    obtain ⟨b, vs, h1, h2, h3, h4, h5⟩ := hr
    exact ⟨b, vs, by rw [(hx id hid).1]; exact h1, h2, RepL.rn hx cs _ hb h3, by rw [rns_cell]; exact h4, h5⟩
  | .row t es q u, _, hr => by
    obtain ⟨hdr, vals, h1, h2, h3, h4, h5, h6, h7⟩ := hr
    exact ⟨hdr, vals, by rw [(hx id hid).2]; exact h1, h2, RepL.free _ _ (idfrees_flat fun c hc => (h4 c hc).2.1) h3, h4, h5, h6, fun u' hu => by rw [(hx id hid).2]; exact h7 u' hu⟩
  | .map es, _, hr => by
    obtain ⟨b, ms, clock, h1, h2, h3, h4⟩ := hr
    exact ⟨b, ms, clock, by rw [(hx id hid).1]; exact h1, h2, mapR_free h3, h4⟩
  | .mit m n se, hb, hr => by
    obtain ⟨b, bm, c0, h1, h2, h3⟩ := hr
    exact ⟨b, bm, c0, by rw [(hx id hid).1]; exact h1, by rw [(hx m hb).1]; exact h2, h3⟩
  | .bag t es u, _, hr => by
    obtain ⟨fs, hp, hdr, vals, h1, h2, h3, h4, h5, h6, h7⟩ := hr
    exact ⟨fs, hp, hdr, vals, by rw [(hx id hid).2]; exact h1, h2, RepL.free _ _ (idfrees_flat fun c hc => (h4 c hc).2.1) h3, h4, h5, h6, fun u' hu => by rw [(hx id hid).2]; exact h7 u' hu⟩
  | .siter s pos, _, hr => by
    obtain ⟨b, h1, h2⟩ := hr
    exact ⟨b, by rw [(hx id hid).1]; exact h1, h2⟩
  | .loop fid bs ps as bo bid ex, hb, hr => by
    obtain ⟨b, tmps, df, fn, F, h1, h2, h3, h4, h5, h6⟩ := hr
    refine ⟨b, tmps, df, fn, F, by rw [(hx id hid).1]; exact h1, h2, fun t d ht => ?_, h4, h5, fun t d ht => ?_⟩
    · rw [Tr.mapv_get'] at ht
      cases hq : bs.get t with
      | none => rw [hq] at ht; cases ht
      | some d0 =>
        rw [hq] at ht; cases ht
        obtain ⟨v, h7, h8⟩ := h3 t d0 hq
        exact ⟨v, h7, Rep.rn hx d0 v (Tr.allV_get hb hq) h8⟩
    · rw [Tr.mapv_get'] at ht
      cases hq : bs.get t with
      | none => rw [hq] at ht; cases ht
      | some d0 => exact h6 t d0 hq

theorem owns_rn (hx : RnRel p f β β') {id : Nat} (hid : p id = true) (o : AObj) (b : Nat) : Owns β' (f id) (rnO f o) b ↔ Owns β id o b := by
  cases o <;> simp only [rnO, Owns, (hx id hid).1, (hx id hid).2]

theorem HR.rn (hx : RnRel p f β β') (hinj : ∀ i j, p i = true → p j = true → f i = f j → i = j) (hh : HR E w0 G0 D w β G h) {h' : Nat → Option AObj}
    (hi : ∀ i y, h' i = some y → ∃ j x, p j = true ∧ f j = i ∧ h j = some x ∧ y = rnO f x ∧ okO p x = true) : HR E w0 G0 D w β' G h' :=
  ⟨hh.below, hh.g0, hh.agree, fun i o ho => by
      obtain ⟨j, x, h1, rfl, h3, rfl, h5⟩ := hi i o ho
      exact ObjR.rn hx h1 h5 (hh.obj j x h3),
    fun i o b ho hb => by
      obtain ⟨j, x, h1, rfl, h3, rfl, h5⟩ := hi i o ho
      exact hh.own j x b h3 ((owns_rn hx h1 x b).1 hb),
    fun i i' o o' b ho ho' hb hb' => by
      obtain ⟨j, x, h1, rfl, h3, rfl, h5⟩ := hi i o ho
      obtain ⟨j', x', g1, rfl, g3, rfl, g5⟩ := hi i' o' ho'
      rw [hh.inj j j' x x' b h3 g3 ((owns_rn hx h1 x b).1 hb) ((owns_rn hx g1 x' b).1 hb')], hh.marks, hh.inv0⟩

theorem rnTr_some : ∀ {is : List Nat} {i : Nat} {y : AObj}, (rnTr f h is).get i = some y → ∃ j ∈ is, ∃ x, f j = i ∧ h j = some x ∧ y = rnO f x
  | [], i, y, hy => by cases hy
  | j :: is, i, y, hy => by
    simp only [rnTr, Tr.get_set] at hy
    by_cases e : i = f j
    · rw [if_pos e] at hy
      cases hj : h j with
      | none => rw [hj] at hy; cases hy
      | some x => rw [hj] at hy; cases hy; exact ⟨j, by simp, x, e.symm, hj, rfl⟩
    · rw [if_neg e] at hy
      obtain ⟨k, h1, x, h2⟩ := rnTr_some hy
      exact ⟨k, by simp [h1], x, h2⟩

theorem rnTr_at : ∀ {is : List Nat} {j : Nat}, j ∈ is → (∀ i ∈ is, f i = f j → i = j) → (rnTr f h is).get (f j) = (h j).map (rnO f)
  | i :: is, j, hj, hinj => by
    simp only [rnTr, Tr.get_set]
    by_cases e : f j = f i
    · rw [if_pos e]
      rw [hinj i (by simp) e.symm]
    · rw [if_neg e]
      have hj' : j ∈ is := by
        rcases List.mem_cons.1 hj with q | q
        · subst q; exact absurd rfl e
        · exact q
      exact rnTr_at hj' fun i hi => hinj i (by simp [hi])

theorem rnUpd_find : ∀ {is : List Nat} {i : Nat}, (∀ j ∈ is, f j ≠ i) → updFind i (rnUpd f h is) = none
  | [], _, _ => rfl
  | j :: is, i, hn => by
    have h1 : updFind i (rnUpd f h is) = none := rnUpd_find fun k hk => hn k (List.mem_cons_of_mem _ hk)
    have := hn j (by simp)
    simp only [rnUpd, updFind, h1, Tr.beq_dec]
    simp [this]
theorem rnUpd_at : ∀ {is : List Nat} {j : Nat}, j ∈ is → (∀ i ∈ is, f i = f j → i = j) → updFind (f j) (rnUpd f h is) = some ((h j).map (rnO f))
  | i :: is, j, hj, hinj => by
    simp only [rnUpd, updFind]
    by_cases hm : j ∈ is
    · rw [rnUpd_at hm fun i hi => hinj i (by simp [hi])]
    · have e : j = i := by
        rcases List.mem_cons.1 hj with q | q
        · exact q
        · exact absurd q hm
      subst e
      have hn : updFind (f j) (rnUpd f h is) = none := rnUpd_find fun k hk q => by
        have := hinj k (by simp [hk]) q
        subst this; exact hm hk
      rw [hn]
      simp

theorem frzA_rep {h' : Nat → Option AObj} {G' : Gh} (hx : Ext β G β G') (hsame : ∀ i t es p u, h i = some (.row t es p u) → ∃ p', h' i = some (.row t es p' u)) :
    ∀ {ds : List DV} {vs : List Value}, (∀ i ∈ rowsOfs ds, Shown E β G' h' i) → RepL β G ds vs → RepL β G' (ds.map fun d => (frz h d).getD d) vs
  | [], vs, _, hr => by rw [repL_nil] at hr; exact repL_nil.2 hr
  | d :: ds, vs, hs, hr => by
    obtain ⟨v, vs', rfl, h1, h2⟩ := repL_cons.1 hr
    refine repL_cons.2 ⟨v, vs', rfl, ?_, frzA_rep hx hsame (fun i hi => hs i (by simp [rowsOfs, hi])) h2⟩
    show Rep β G' ((frz h d).getD d) v
    cases hq : frz h d with
    | none => exact Rep.mono hx _ _ h1
    | some d' => exact (frz_rep hx hsame hq (fun i hi => hs i (by simp [rowsOfs, hi])) h1).1

theorem exit_ok {D : DD} {s : Tr AObj} {k : Nat} {β0 : Bi} {G1 : Gh} {r : DV} {o : Tr AObj} {n : Nat} {e : Ending} {w' : World} (hfr : ∀ id, k ≤ id → Fresh β0 s.get id) (hp : HeapPost E w0 G0 D β0 G1 s k r o n e w')
    {y : DV × Tr AObj × Nat} (hy : exitN k (r, o, n) = some y) : HeapPost E w0 G0 D β0 G1 s k y.1 y.2.1 y.2.2 e w' := by
  obtain ⟨v, β', G', rfl, hle, hgo, hhr, hf', hv⟩ := hp
  unfold exitN at hy
  simp only at hy
  generalize hR : geN k (reach o.get 4096 (rid r ++ upN 0 k) []) = R at hy
  obtain ⟨hb, hy⟩ := bif_some hy
  cases hy
  simp only [Bool.and_eq_true] at hb
  obtain ⟨hu, hr1, hr2⟩ := hb
  have hge : ∀ i ∈ R, k ≤ i := fun i hi => by rw [← hR] at hi; exact (mem_geN.1 hi).2
  have hok : ∀ j, (Nat.blt j k || memN j R) = true ↔ j < k ∨ j ∈ R := fun j => by
    simp only [Bool.or_eq_true, Tr.blt_dec, decide_eq_true_eq, memN_iff]
  have hF1 : ∀ j, j < k → exitF k R j = j := fun j hj => by simp [exitF, Tr.blt_dec, hj]
  have hF2 : ∀ j, j ∈ R → exitF k R j = k + idxN j R := fun j hj => by
    have := hge j hj
    simp [exitF, Tr.blt_dec, show ¬ j < k by omega]
  have hinj : ∀ i j, (Nat.blt i k || memN i R) = true → (Nat.blt j k || memN j R) = true → exitF k R i = exitF k R j → i = j := fun i j hi hj he => by
    rcases (hok i).1 hi with hi | hi <;> rcases (hok j).1 hj with hj | hj
    · rw [hF1 i hi, hF1 j hj] at he; exact he
    · rw [hF1 i hi, hF2 j hj] at he; omega
    · rw [hF2 i hi, hF1 j hj] at he; omega
    · rw [hF2 i hi, hF2 j hj] at he
      have : idxN i R = idxN j R := by omega
      rw [← nth_idx (d := 0) hi, this, nth_idx hj]
  have hin : ∀ j, j ∈ upN 0 k ++ R ↔ j < k ∨ j ∈ R := fun j => by
    rw [List.mem_append, mem_upN]; simp
  have hsome : ∀ i y, (rnTr (exitF k R) o.get (upN 0 k ++ R)).get i = some y → ∃ j x, (Nat.blt j k || memN j R) = true ∧ exitF k R j = i ∧ o.get j = some x ∧ y = rnO (exitF k R) x ∧ okO (fun j => Nat.blt j k || memN j R) x = true := fun i y hy => by
    obtain ⟨j, hj, x, h1, h2, h3⟩ := rnTr_some hy
    exact ⟨j, x, (hok j).2 ((hin j).1 hj), h1, h2, h3, okH_mem hr2 j hj x h2⟩
  let β3 : Bi := ⟨fun i => if i < k then β'.blk i else if i < k + lenN R then β'.blk (nthN 0 (i - k) R) else none, fun i u => if i < k then β'.hdr i u else if i < k + lenN R then β'.hdr (nthN 0 (i - k) R) u else none⟩
  have hrel : RnRel (fun j => Nat.blt j k || memN j R) (exitF k R) β' β3 := fun j hj => by
    rcases (hok j).1 hj with hj | hj
    · rw [hF1 j hj]
      simp only [β3, if_pos hj]
      exact ⟨trivial, fun _ => trivial⟩
    · rw [hF2 j hj]
      have := idxN_lt hj
      simp only [β3, show ¬ k + idxN j R < k by omega, if_false, show k + idxN j R < k + lenN R by omega, if_true, show k + idxN j R - k = idxN j R by omega, nth_idx hj]
      exact ⟨trivial, fun _ => trivial⟩
  refine ⟨v, β3, G', rfl, Nat.le_add_right _ _, ⟨⟨hgo.ext.g, fun id b hid => ?_, fun id u x hid => ?_⟩, fun id hid hn => ?_⟩, HR.rn hrel hinj hhr hsome, fun id hid => ⟨?_, fun u => ?_, ?_⟩, Rep.rn hrel r v hr1 hv⟩
  · by_cases q : id < k
    · simp only [β3, if_pos q]; exact hgo.ext.blk id b hid
    · rw [(hfr id (by omega)).blk] at hid; cases hid
  · by_cases q : id < k
    · simp only [β3, if_pos q]; exact hgo.ext.hdr id u x hid
    · rw [(hfr id (by omega)).hdr] at hid; cases hid
  · obtain ⟨k1, k2, k3⟩ := hgo.keep id hid hn
    refine ⟨?_, ?_, fun u => ?_⟩
    · have := rnTr_at (f := exitF k R) (h := o.get) (is := upN 0 k ++ R) (j := id) ((hin id).2 (.inl hid)) (fun i hi he => hinj i id ((hok i).2 ((hin i).1 hi)) ((hok id).2 (.inl hid)) he)
      rw [hF1 id hid, k1] at this
      exact this
    · simp only [β3, if_pos hid]; exact k2
    · simp only [β3, if_pos hid]; exact k3 u
  · have q : k + lenN R ≤ id := hid
    simp only [β3, show ¬ id < k by omega, if_false, show ¬ id < k + lenN R by omega]
  · have q : k + lenN R ≤ id := hid
    simp only [β3, show ¬ id < k by omega, if_false, show ¬ id < k + lenN R by omega]
  · have q : k + lenN R ≤ id := hid
    cases hq : (rnTr (exitF k R) o.get (upN 0 k ++ R)).get id with
    | none => rfl
    | some y =>
      obtain ⟨j, x, h1, h2, _⟩ := hsome id y hq
      rcases (hok j).1 h1 with hj | hj
      · rw [hF1 j hj] at h2; omega
      · rw [hF2 j hj] at h2
        have := idxN_lt hj
        omega

theorem canonH_ok {callH : CallH} (hH : HeapOk P E callH) : HeapOk P E (canonH E callH) := fun g as o nx r o' nx' hd => by
  unfold canonH at hd
  obtain ⟨F, hF, hd⟩ := some_bind hd
  cases hc : F.can with
  | false => rw [hc] at hd; exact hH g as o nx r o' nx' hd
  | true =>
    rw [hc] at hd
    simp only [cond_true] at hd
    generalize hfs : (as.map fun d => (frz o.get d).getD d) = fs at hd
    generalize ho1 : updObjs o (showRows o.get (rowsOfs as)) = o1 at hd
    generalize hR : reach o1.get 4096 (rids fs) [] = R at hd
    generalize hk : lenN R = k at hd
    obtain ⟨hb, hd⟩ := bif_some hd
    obtain ⟨⟨r1, o2, n2⟩, hcall, hd⟩ := some_bind hd
    obtain ⟨⟨r3, o3, n3⟩, hexit, hd⟩ := some_bind hd
    cases hd
    simp only [Bool.and_eq_true] at hb
    obtain ⟨hu, hb1, hb2⟩ := hb
    obtain ⟨hent, hcs⟩ := hH _ _ _ _ _ _ _ hcall
    refine ⟨hent, fun w0 G0 D w β G vs hh hfr hrep => ?_⟩
    obtain ⟨G1, hx1, hh1, hs1⟩ := show_rows hh (rowsOfs as)
    have hrep1 : RepL β G1 fs vs.toList := by rw [← hfs]; exact frzA_rep hx1 (show_same _ _) hs1 hrep
    have hget1 : ∀ i, o1.get i = updF o.get (showRows o.get (rowsOfs as)) i := fun i => by rw [← ho1]; exact updObjs_get _ _ _
    have hh1 : HR E w0 G0 D w β G1 o1.get := hh1.eq hget1
    have hk1 : ∀ i, o.get i = none → o1.get i = none := fun i hi => by
      rw [hget1]
      unfold updF
      cases hq : updFind i (showRows o.get (rowsOfs as)) with
      | none => exact hi
      | some y =>
        obtain ⟨t', es', p', u', k1, _⟩ := showRows_find o.get _ i y hq
        rw [hi] at k1; cases k1
    have hfr1 : ∀ id, nx ≤ id → Fresh β o1.get id := fun id hid => ⟨(hfr id hid).blk, (hfr id hid).hdr, hk1 id (hfr id hid).h⟩
    have hRs : ∀ i ∈ R, ∃ x, o1.get i = some x := fun i hi => reach_some _ _ _ _ _ (by rw [← hR] at hi; exact hi) (fun _ hq => by cases hq)
    have hRlt : ∀ i ∈ R, i < nx := fun i hi => by
      obtain ⟨x, hx⟩ := hRs i hi
      rcases Nat.lt_or_ge i nx with q | q
      · exact q
      · rw [(hfr1 i q).h] at hx; cases hx
    have hs : ∀ i x, (subTr o1.get R).get i = some x → o1.get i = some x := fun i x hi => by
      rw [subTr_get] at hi
      split at hi
      · exact hi
      · cases hi
    have hsR : ∀ i x, (subTr o1.get R).get i = some x → i ∈ R := fun i x hi => by
      rw [subTr_get] at hi
      split at hi
      · assumption
      · cases hi
    have hcut := cut_in (D := D) hh1 hs
    have hP1 : ∀ j, j < k → renOut k nx R j = nthN 0 j R := fun j hj => by simp [renOut, Tr.blt_dec, hj]
    have hP2 : ∀ j, k ≤ j → renOut k nx R j = nx + (j - k) := fun j hj => by simp [renOut, Tr.blt_dec, show ¬ j < k by omega]
    have hP3 : ∀ i, i ∈ R → renOut k nx R (idxN i R) = i := fun i hi => by
      rw [hP1 _ (by rw [← hk]; exact idxN_lt hi), nth_idx hi]
    let β0 : Bi := ⟨fun j => β.blk (renOut k nx R j), fun j u => β.hdr (renOut k nx R j) u⟩
    have hrel0 : RnRel (fun i => memN i R) (renIn R) β β0 := fun i hi => by
      have hi := memN_iff.1 hi
      show β.blk (renOut k nx R (idxN i R)) = _ ∧ ∀ u, β.hdr (renOut k nx R (idxN i R)) u = _
      rw [hP3 i hi]
      exact ⟨rfl, fun _ => rfl⟩
    have hinj0 : ∀ i j, memN i R = true → memN j R = true → renIn R i = renIn R j → i = j := fun i j hi hj he => by
      have hi := memN_iff.1 hi
      have hj := memN_iff.1 hj
      have he : idxN i R = idxN j R := he
      rw [← nth_idx (d := 0) hi, he, nth_idx hj]
    have hh0 : HR E w0 G0 (cutD D w β G1 o1.get (subTr o1.get R).get) w β0 G1 (rnTr (renIn R) o1.get R).get := HR.rn hrel0 hinj0 hcut fun i y hy => by
      obtain ⟨j, hj, x, h1, h2, h3⟩ := rnTr_some hy
      exact ⟨j, x, memN_iff.2 hj, h1, by rw [subTr_get, if_pos hj]; exact h2, h3, okH_mem hb2 j hj x h2⟩
    have hfr0 : ∀ j, k ≤ j → Fresh β0 (rnTr (renIn R) o1.get R).get j := fun j hj => by
      have hq := hfr (nx + (j - k)) (by omega)
      refine ⟨?_, fun u => ?_, ?_⟩
      · show β.blk (renOut k nx R j) = none
        rw [hP2 j hj]; exact hq.blk
      · show β.hdr (renOut k nx R j) u = none
        rw [hP2 j hj]; exact hq.hdr u
      · cases hq : (rnTr (renIn R) o1.get R).get j with
        | none => rfl
        | some y =>
          obtain ⟨i, hi, x, h1, _⟩ := rnTr_some hq
          have : idxN i R < lenN R := idxN_lt hi
          have h1 : idxN i R = j := h1
          omega
    refine Calls.mono (hcs w0 G0 _ w β0 G1 vs hh0 hfr0 (RepL.rn hrel0 _ _ hb1 hrep1)) fun e w' he => ?_
    obtain ⟨v, β3, G', rfl, hle, hgo, hhr, hf3, hv⟩ := exit_ok hfr0 he hexit
    simp only at hle hgo hhr hf3 hv
    let β4 : Bi := ⟨fun i => if i ∈ R then β3.blk (idxN i R) else if nx ≤ i then β3.blk (i - nx + k) else β.blk i, fun i u => if i ∈ R then β3.hdr (idxN i R) u else if nx ≤ i then β3.hdr (i - nx + k) u else β.hdr i u⟩
    have hP1m : ∀ j, j < k → renOut k nx R j ∈ R := fun j hj => by rw [hP1 j hj]; exact nth_mem (by omega)
    have hP2m : ∀ j, k ≤ j → renOut k nx R j ∉ R := fun j hj hm => by
      rw [hP2 j hj] at hm
      have := hRlt _ hm
      omega
    have hrel4 : RnRel (fun _ => true) (renOut k nx R) β3 β4 := fun j _ => by
      by_cases q : j < k
      · have hm := hP1m j q
        simp only [β4, if_pos hm]
        rw [hP1 j q, idx_nth hu (by omega)]
        exact ⟨rfl, fun _ => rfl⟩
      · have hm := hP2m j (by omega)
        simp only [β4, if_neg hm]
        rw [hP2 j (by omega), if_pos (by omega), show nx + (j - k) - nx + k = j by omega]
        refine ⟨rfl, fun u => ?_⟩
        rw [if_pos (by omega)]
    have hinj4 : ∀ i j, renOut k nx R i = renOut k nx R j → i = j := fun i j he => by
      by_cases qi : i < k <;> by_cases qj : j < k
      · have h1 := idx_nth (d := 0) hu (by omega : i < lenN R)
        rw [← hP1 i qi, he, hP1 j qj, idx_nth hu (by omega)] at h1
        exact h1.symm
      · have := hP1m i qi
        rw [he] at this
        exact absurd this (hP2m j (by omega))
      · have := hP1m j qj
        rw [← he] at this
        exact absurd this (hP2m i (by omega))
      · rw [hP2 i (by omega), hP2 j (by omega)] at he
        omega
    have hsome4 : ∀ i y, (rnTr (renOut k nx R) o3.get (upN 0 n3)).get i = some y → ∃ j x, j < n3 ∧ renOut k nx R j = i ∧ o3.get j = some x ∧ y = rnO (renOut k nx R) x := fun i y hy => by
      obtain ⟨j, hj, x, h1, h2, h3⟩ := rnTr_some hy
      exact ⟨j, x, by rw [mem_upN] at hj; omega, h1, h2, h3⟩
    have hat4 : ∀ j, j < n3 → (rnTr (renOut k nx R) o3.get (upN 0 n3)).get (renOut k nx R j) = (o3.get j).map (rnO (renOut k nx R)) := fun j hj =>
      rnTr_at (mem_upN.2 ⟨by omega, by omega⟩) fun i _ he => hinj4 i j he
    have hpost : HeapPost E w0 G0 (cutD D w β G1 o1.get (subTr o1.get R).get) β G1 (subTr o1.get R) nx (rn (renOut k nx R) r3) (rnTr (renOut k nx R) o3.get (upN 0 n3)) (nx + (n3 - k)) (.returned v) w' := by
      refine ⟨v, β4, G', rfl, Nat.le_add_right _ _, ⟨⟨hgo.ext.g, fun id b hid => ?_, fun id u x hid => ?_⟩, fun id hid hn => ?_⟩, ?_, fun id hid => ?_, Rep.rn hrel4 _ _ (okD_true _) hv⟩
      · simp only [β4]
        by_cases q : id ∈ R
        · rw [if_pos q]
          refine hgo.ext.blk _ b ?_
          show β.blk (renOut k nx R (idxN id R)) = some b
          rw [hP3 id q]; exact hid
        · rw [if_neg q]
          by_cases q2 : nx ≤ id
          · rw [(hfr id q2).blk] at hid; cases hid
          · rw [if_neg q2]; exact hid
      · simp only [β4]
        by_cases q : id ∈ R
        · rw [if_pos q]
          refine hgo.ext.hdr _ u x ?_
          show β.hdr (renOut k nx R (idxN id R)) u = some x
          rw [hP3 id q]; exact hid
        · rw [if_neg q]
          by_cases q2 : nx ≤ id
          · rw [(hfr id q2).hdr] at hid; cases hid
          · rw [if_neg q2]; exact hid
      · by_cases q : id ∈ R
        · rw [subTr_get, if_pos q] at hn
          obtain ⟨x, hx⟩ := hRs id q
          rw [hn] at hx; cases hx
        · refine ⟨?_, ?_, fun u => ?_⟩
          · cases hq : (rnTr (renOut k nx R) o3.get (upN 0 n3)).get id with
            | none => rfl
            | some y =>
              obtain ⟨j, x, _, h1, _⟩ := hsome4 id y hq
              by_cases qj : j < k
              · exact absurd (h1 ▸ hP1m j qj) q
              · rw [hP2 j (by omega)] at h1; omega
          · simp only [β4, if_neg q, show ¬ nx ≤ id by omega, if_false]
          · simp only [β4, if_neg q, show ¬ nx ≤ id by omega, if_false]
      · refine HR.rn hrel4 (fun i j _ _ he => hinj4 i j he) hhr fun i y hy => ?_
        obtain ⟨j, x, _, h1, h2, h3⟩ := hsome4 i y hy
        exact ⟨j, x, rfl, h1, h2, h3, okO_true x⟩
      · have hm : id ∉ R := fun hm => by have := hRlt id hm; omega
        have hf := hf3 (id - nx + k) (by omega)
        refine ⟨?_, fun u => ?_, ?_⟩
        · simp only [β4, if_neg hm, show nx ≤ id by omega, if_true]; exact hf.blk
        · simp only [β4, if_neg hm, show nx ≤ id by omega, if_true]; exact hf.hdr u
        · cases hq : (rnTr (renOut k nx R) o3.get (upN 0 n3)).get id with
          | none => rfl
          | some y =>
            obtain ⟨j, x, h0, h1, _⟩ := hsome4 id y hq
            by_cases qj : j < k
            · exact absurd (h1 ▸ hP1m j qj) hm
            · rw [hP2 j (by omega)] at h1; omega
    obtain ⟨v2, β2, G2, e2, hle2, hx2, hkp, hh2, hf2, hv2⟩ := cut_out hh1 hs hsR hfr1 hpost
    have heq : ∀ i, (updObjs o1 (rnUpd (renOut k nx R) o3.get (upN 0 n3))).get i = updF o1.get (cutUpd (rnTr (renOut k nx R) o3.get (upN 0 n3)) R nx) i := fun i => by
      rw [updObjs_get, updF_cut]
      by_cases hi : ∃ j, j < n3 ∧ renOut k nx R j = i
      · obtain ⟨j, hj, rfl⟩ := hi
        have h1 : updF o1.get (rnUpd (renOut k nx R) o3.get (upN 0 n3)) (renOut k nx R j) = (o3.get j).map (rnO (renOut k nx R)) := by
          unfold updF
          rw [rnUpd_at (mem_upN.2 ⟨by omega, by omega⟩) fun i _ he => hinj4 i j he]
        rw [h1, ← hat4 j hj]
        split
        · rfl
        · rename_i hm
          have hm1 : renOut k nx R j ∉ R := fun q => hm (List.mem_append_left _ q)
          have hkj : ¬ j < k := fun q => hm1 (hP1m j q)
          have hge : nx ≤ renOut k nx R j := by rw [hP2 j (by omega)]; omega
          rw [(hfr1 _ hge).h]
          cases hq : (rnTr (renOut k nx R) o3.get (upN 0 n3)).get (renOut k nx R j) with
          | none => rfl
          | some y =>
            refine absurd ?_ hm
            refine List.mem_append_right _ (List.mem_filter.2 ⟨List.mem_map.2 ⟨(1 * renOut k nx R j + 0, y), Tr.ents_get _ 1 0 _ y hq, by simp⟩, Nat.ble_eq_true_of_le hge⟩)
      · have h1 : updF o1.get (rnUpd (renOut k nx R) o3.get (upN 0 n3)) i = o1.get i := by
          unfold updF
          rw [rnUpd_find fun j hj he => hi ⟨j, by rw [mem_upN] at hj; omega, he⟩]
        have h2 : (rnTr (renOut k nx R) o3.get (upN 0 n3)).get i = none := by
          cases hq : (rnTr (renOut k nx R) o3.get (upN 0 n3)).get i with
          | none => rfl
          | some y =>
            obtain ⟨j, x, h0, h1, _⟩ := hsome4 i y hq
            exact absurd ⟨j, h0, h1⟩ hi
        rw [h1, h2]
        split
        · rename_i hm
          rcases cutL_mem hm with q | q
          · refine absurd ⟨idxN i R, ?_, hP3 i q⟩ hi
            have := idxN_lt q
            omega
          · exact (hfr1 i q).h
        · rfl
    refine ⟨v2, β2, G2, e2, hle2, ⟨hx1.trans hx2, fun id hid hn => ?_⟩, hh2.eq heq, fun id hid => ?_, hv2⟩
    · obtain ⟨k1, k2, k3⟩ := hkp id hid (hk1 id hn)
      exact ⟨by rw [heq]; exact k1, k2, k3⟩
    · have := hf2 id hid
      exact ⟨this.blk, this.hdr, by rw [heq]; exact this.h⟩
end
end Go.Ab
namespace Go.Ab

def Le (h h' : Nat → Option AObj) (d : DV) : Prop := ∀ id, id ∈ idsOf d → ∀ o, h id = some o → h' id = some o

section
variable {E : Env} {ρ ρ' : Nat → Option DV} {h h' : Nat → Option AObj} {nid : Nat}

def OkX (ρ ρ' : Nat → Option DV) (h h' : Nat → Option AObj) (x : Operand) : Prop := ∀ d, opnd ρ x = some d → opnd ρ' x = some d ∧ Le h h' d

mutual
theorem rows_ids : ∀ (d : DV) (i : Nat), i ∈ rowsOf d → i ∈ idsOf d
  | .rs _ _, _, h => by simpa [rowsOf, idsOf] using h
  | .rv _ _ _ _ _, _, h => by simpa [rowsOf, idsOf] using h
  | .slen _, _, h => by simp [rowsOf] at h
  | .agg cs, i, h => by simp only [rowsOf, idsOf] at h ⊢; exact rows_idss cs i h
  | .tup cs, i, h => by simp only [rowsOf, idsOf] at h ⊢; exact rows_idss cs i h
  | .iface _ v, i, h => by simp only [rowsOf, idsOf] at h ⊢; exact rows_ids v i h
  | .bool _, _, h => by simp [rowsOf] at h
  | .int _ _, _, h => by simp [rowsOf] at h
  | .str _, _, h => by simp [rowsOf] at h
  | .nilp, _, h => by simp [rowsOf] at h
  | .ptr _ _, _, h => by simp [rowsOf] at h
  | .rptr _ _ _ _ _, _, h => by simp [rowsOf] at h
  | .pub _, _, h => by simp [rowsOf] at h
  | .nils, _, h => by simp [rowsOf] at h
  | .sl _, _, h => by simp [rowsOf] at h
  | .fn _ _ _, _, h => by simp [rowsOf] at h
  | .nilfn, _, h => by simp [rowsOf] at h
  | .map _, _, h => by simp [rowsOf] at h
  | .nilmap, _, h => by simp [rowsOf] at h
  | .nilif, _, h => by simp [rowsOf] at h
  | .iter _, _, h => by simp [rowsOf] at h
  | .yld _, _, h => by simp [rowsOf] at h
theorem rows_idss : ∀ (ds : List DV) (i : Nat), i ∈ rowsOfs ds → i ∈ idsOfs ds
  | [], _, h => by simp [rowsOfs] at h
  | d :: ds, i, h => by
    simp only [rowsOfs, idsOfs, List.mem_append] at h ⊢
    rcases h with h | h
    · exact .inl (rows_ids d i h)
    · exact .inr (rows_idss ds i h)
end

mutual
theorem frz_known : ∀ (d d' : DV), frz h d = some d' → ∀ i ∈ rowsOf d, ∃ o, h i = some o
  | .rs id v, _, hd, i, hi => by
    simp only [frz] at hd
    obtain ⟨o, ho, _⟩ := some_bind hd
    simp only [rowsOf, List.mem_singleton] at hi
    subst hi; exact ⟨o, ho⟩
  | .rv _ _ _ _ _, _, hd, _, _ => by simp [frz, idfree] at hd
  | .slen _, _, hd, i, hi => by simp [rowsOf] at hi
  | .agg cs, _, hd, i, hi => by
    simp only [frz] at hd
    obtain ⟨cs', h1, _⟩ := some_bind hd
    exact frzs_known cs cs' h1 i (by simpa [rowsOf] using hi)
  | .tup cs, _, hd, i, hi => by
    simp only [frz] at hd
    obtain ⟨cs', h1, _⟩ := some_bind hd
    exact frzs_known cs cs' h1 i (by simpa [rowsOf] using hi)
  | .iface _ v, _, hd, i, hi => by
    simp only [frz] at hd
    obtain ⟨v', h1, _⟩ := some_bind hd
    exact frz_known v v' h1 i (by simpa [rowsOf] using hi)
  | .bool _, _, _, _, h => by simp [rowsOf] at h
  | .int _ _, _, _, _, h => by simp [rowsOf] at h
  | .str _, _, _, _, h => by simp [rowsOf] at h
  | .nilp, _, _, _, h => by simp [rowsOf] at h
  | .ptr _ _, _, _, _, h => by simp [rowsOf] at h
  | .rptr _ _ _ _ _, _, _, _, h => by simp [rowsOf] at h
  | .pub _, _, _, _, h => by simp [rowsOf] at h
  | .nils, _, _, _, h => by simp [rowsOf] at h
  | .sl _, _, _, _, h => by simp [rowsOf] at h
  | .fn _ _ _, _, _, _, h => by simp [rowsOf] at h
  | .nilfn, _, _, _, h => by simp [rowsOf] at h
  | .map _, _, _, _, h => by simp [rowsOf] at h
  | .nilmap, _, _, _, h => by simp [rowsOf] at h
  | .nilif, _, _, _, h => by simp [rowsOf] at h
  | .iter _, _, _, _, h => by simp [rowsOf] at h
  | .yld _, _, _, _, h => by simp [rowsOf] at h
theorem frzs_known : ∀ (ds ds' : List DV), frzs h ds = some ds' → ∀ i ∈ rowsOfs ds, ∃ o, h i = some o
  | [], _, _, i, hi => by simp [rowsOfs] at hi
  | d :: ds, _, hd, i, hi => by
    simp only [frzs] at hd
    obtain ⟨c, h1, hd⟩ := some_bind hd
    obtain ⟨cs, h2, _⟩ := some_bind hd
    simp only [rowsOfs, List.mem_append] at hi
    rcases hi with hi | hi
    · exact frz_known d c h1 i hi
    · exact frzs_known ds cs h2 i hi
end

mutual
theorem frz_mono : ∀ (d d' : DV), Le h h' d → frz h d = some d' → frz h' d = some d'
  | .rs id v, d', hl, hd => by
    simp only [frz] at hd ⊢
    obtain ⟨o, ho, h2⟩ := some_bind hd
    rw [hl id (by simp [idsOf]) o ho]; exact h2
  | .rv _ _ _ _ _, _, _, hd => by simpa only [frz] using hd
  | .slen _, _, _, hd => by simpa only [frz] using hd
  | .agg cs, d', hl, hd => by
    simp only [frz] at hd ⊢
    obtain ⟨cs', h1, h2⟩ := some_bind hd
    rw [frzs_mono cs cs' (fun id hid => hl id (by simpa [idsOf] using hid)) h1]; exact h2
  | .tup cs, d', hl, hd => by
    simp only [frz] at hd ⊢
    obtain ⟨cs', h1, h2⟩ := some_bind hd
    rw [frzs_mono cs cs' (fun id hid => hl id (by simpa [idsOf] using hid)) h1]; exact h2
  | .iface _ v, d', hl, hd => by
    simp only [frz] at hd ⊢
    obtain ⟨v', h1, h2⟩ := some_bind hd
    rw [frz_mono v v' (fun id hid => hl id (by simpa [idsOf] using hid)) h1]; exact h2
  | .bool _, _, _, hd => by simpa only [frz] using hd
  | .int _ _, _, _, hd => by simpa only [frz] using hd
  | .str _, _, _, hd => by simpa only [frz] using hd
  | .nilp, _, _, hd => by simpa only [frz] using hd
  | .ptr _ _, _, _, hd => by simpa only [frz] using hd
  | .rptr _ _ _ _ _, _, _, hd => by simpa only [frz] using hd
  | .pub _, _, _, hd => by simpa only [frz] using hd
  | .nils, _, _, hd => by simpa only [frz] using hd
  | .sl _, _, _, hd => by simpa only [frz] using hd
  | .fn _ _ _, _, _, hd => by simpa only [frz] using hd
  | .nilfn, _, _, hd => by simpa only [frz] using hd
  | .map _, _, _, hd => by simpa only [frz] using hd
  | .nilmap, _, _, hd => by simpa only [frz] using hd
  | .nilif, _, _, hd => by simpa only [frz] using hd
  | .iter _, _, _, hd => by simpa only [frz] using hd
  | .yld _, _, _, hd => by simpa only [frz] using hd
theorem frzs_mono : ∀ (ds ds' : List DV), (∀ id, id ∈ idsOfs ds → ∀ o, h id = some o → h' id = some o) → frzs h ds = some ds' → frzs h' ds = some ds'
  | [], _, _, hd => hd
  | d :: ds, d', hl, hd => by
    simp only [frzs] at hd ⊢
    obtain ⟨c, h1, h2⟩ := some_bind hd
    obtain ⟨cs, h3, h4⟩ := some_bind h2
    rw [frz_mono d c (fun id hid => hl id (by simp [idsOfs, hid])) h1]
    simp only [Option.bind_some]
    rw [frzs_mono ds cs (fun id hid => hl id (by simp [idsOfs, hid])) h3]
    exact h4
end

theorem frzV_known {d d' : DV} (hd : frzV E h d = some d') : ∀ i ∈ rowsOf d, ∃ o, h i = some o := by
  unfold frzV at hd
  split at hd
  · obtain ⟨o, ho, _⟩ := some_bind hd
    intro i hi
    simp only [rowsOf, List.mem_singleton] at hi
    subst hi; exact ⟨o, ho⟩
  · exact frz_known _ _ hd
theorem frzsV_known : ∀ (ds ds' : List DV), frzsV E h ds = some ds' → ∀ i ∈ rowsOfs ds, ∃ o, h i = some o
  | [], _, _, i, hi => by simp [rowsOfs] at hi
  | d :: ds, _, hd, i, hi => by
    simp only [frzsV] at hd
    obtain ⟨c, h1, hd⟩ := some_bind hd
    obtain ⟨cs, h2, _⟩ := some_bind hd
    simp only [rowsOfs, List.mem_append] at hi
    rcases hi with hi | hi
    · exact frzV_known h1 i hi
    · exact frzsV_known ds cs h2 i hi
theorem frzV_mono {d d' : DV} (hl : Le h h' d) (hd : frzV E h d = some d') : frzV E h' d = some d' := by
  unfold frzV at hd ⊢
  split at hd
  · obtain ⟨o, ho, h2⟩ := some_bind hd
    rw [hl _ (by simp [idsOf]) o ho]; exact h2
  · exact frz_mono _ _ hl hd
theorem frzsV_mono : ∀ (ds ds' : List DV), (∀ id, id ∈ idsOfs ds → ∀ o, h id = some o → h' id = some o) → frzsV E h ds = some ds' → frzsV E h' ds = some ds'
  | [], _, _, hd => hd
  | d :: ds, d', hl, hd => by
    simp only [frzsV] at hd ⊢
    obtain ⟨c, h1, hd⟩ := some_bind hd
    obtain ⟨cs, h2, hd⟩ := some_bind hd
    rw [frzV_mono (fun id hid => hl id (by simp [idsOfs, hid])) h1, frzsV_mono ds cs (fun id hid => hl id (by simp [idsOfs, hid])) h2]; exact hd

theorem showRows_congr : ∀ (is : List Nat), (∀ i ∈ is, h i = h' i) → showRows h is = showRows h' is
  | [], _ => rfl
  | i :: is, hs => by
    simp only [showRows]
    rw [hs i (by simp), showRows_congr is (fun j hj => hs j (by simp [hj]))]

theorem showRows_mem : ∀ (is : List Nat) (u : Nat × Option AObj), u ∈ showRows h is → u.1 ∈ is
  | [], u, hu => by simp [showRows] at hu
  | i :: is, u, hu => by
    simp only [showRows, List.mem_append] at hu
    rcases hu with hu | hu
    · split at hu
      · rename_i p _ _
        cases hp : Nat.beq p 1 with
        | true => rw [hp] at hu; cases hu
        | false => rw [hp] at hu; simp only [cond_false, List.mem_singleton] at hu; subst hu; simp
      · cases hu
    · exact List.mem_cons_of_mem _ (showRows_mem is u hu)

theorem show_mono {ds : List DV} (hl : ∀ id, id ∈ idsOfs ds → ∀ o, h id = some o → h' id = some o) (hk : ∀ i ∈ rowsOfs ds, ∃ o, h i = some o) : showRows h' (rowsOfs ds) = showRows h (rowsOfs ds) :=
  (showRows_congr _ fun i hi => by
    obtain ⟨o, ho⟩ := hk i hi
    rw [ho, hl i (rows_idss ds i hi) o ho]).symm

theorem hidden_mono {d : DV} {es : List (List DV)} (hl : Le h h' d) (hd : elemsOf h d = some es) : hidden h' d = hidden h d := by
  cases d with
  | rs id v =>
    simp only [elemsOf] at hd
    obtain ⟨o, ho, _⟩ := some_bind hd
    simp only [hidden, ho, hl id (by simp [idsOf]) o ho]
  | _ => rfl

theorem elems_mono {d : DV} {es : List (List DV)} (hl : Le h h' d) (hd : elemsOf h d = some es) : elemsOf h' d = some es := by
  cases d with
  | rs id v =>
    simp only [elemsOf] at hd ⊢
    obtain ⟨o, ho, h2⟩ := some_bind hd
    rw [hl id (by simp [idsOf]) o ho]; exact h2
  | rv id v i n e =>
    simp only [elemsOf] at hd ⊢
    obtain ⟨o, ho, h2⟩ := some_bind hd
    rw [hl id (by simp [idsOf]) o ho]; exact h2
  | nils => exact hd
  | sl es => exact hd
  | _ => cases hd

theorem elems_known {d : DV} {es : List (List DV)} (hd : elemsOf h d = some es) : ∀ i ∈ rowsOfs [d], ∃ o, h i = some o := fun i hi => by
  cases d with
  | rs id v =>
    simp only [elemsOf] at hd
    obtain ⟨o, ho, _⟩ := some_bind hd
    simp [rowsOfs, rowsOf] at hi
    subst hi; exact ⟨o, ho⟩
  | rv id v i n e =>
    simp only [elemsOf] at hd
    obtain ⟨o, ho, _⟩ := some_bind hd
    simp [rowsOfs, rowsOf] at hi
    subst hi; exact ⟨o, ho⟩
  | nils => simp [rowsOfs, rowsOf] at hi
  | sl es => simp [rowsOfs, rowsOf] at hi
  | _ => cases hd

theorem load_mono {ti : TI} {a d : DV} (hl : Le h h' a) (hd : loadD ti h a = some d) : loadD ti h' a = some d := by
  cases a with
  | ptr id off =>
    simp only [loadD] at hd ⊢
    obtain ⟨o, ho, h2⟩ := some_bind hd
    rw [hl id (by simp [idsOf]) o ho]; exact h2
  | rptr id v i e off =>
    simp only [loadD] at hd ⊢
    obtain ⟨o, ho, h2⟩ := some_bind hd
    rw [hl id (by simp [idsOf]) o ho]; exact h2
  | pub cs => exact hd
  | _ => cases hd

theorem store_mono {ti : TI} {a v : DV} {us : List (Nat × Option AObj)} (hl : Le h h' a) (hd : storeD ti h a v = some us) : storeD ti h' a v = some us ∧ ∀ u ∈ us, u.1 ∈ idsOf a := by
  unfold storeD at hd ⊢
  obtain ⟨hq, hd⟩ := bif_some hd
  rw [hq]
  cases a with
  | ptr id off =>
    simp only [cond_true] at hd ⊢
    obtain ⟨o, ho, h2⟩ := some_bind hd
    rw [hl id (by simp [idsOf]) o ho]
    refine ⟨h2, ?_⟩
    split at h2
    · obtain ⟨_, h3⟩ := bif_some h2
      cases h3
      intro u hu
      simp only [List.mem_singleton] at hu
      subst hu; simp [idsOf]
    · cases h2
  | rptr id v i e off =>
    simp only [cond_true] at hd ⊢
    obtain ⟨o, ho, h2⟩ := some_bind hd
    rw [hl id (by simp [idsOf]) o ho]
    refine ⟨h2, ?_⟩
    split at h2
    · obtain ⟨_, _, h2⟩ := some_bind h2
      obtain ⟨_, h3⟩ := bif_some h2
      cases h3
      intro u hu
      simp only [List.mem_singleton] at hu
      subst hu; simp [idsOf]
    · cases h2
  | _ => cases hd

theorem len_mono {k : TK} {d r : DV} (hl : Le h h' d) (hd : lenD k h d = some r) : lenD k h' d = some r := by
  unfold lenD at hd ⊢
  split at hd
  · exact hd
  · exact hd
  · rename_i id
    obtain ⟨o, ho, h2⟩ := some_bind hd
    rw [hl id (by simp [idsOf]) o ho]; exact h2
  · exact hd
  · obtain ⟨es, h1, h2⟩ := some_bind hd
    rw [elems_mono hl h1]; exact h2
  · exact hd
  · cases hd

theorem appXs_mono {t t' : TypeId} {x : DV} {xs : List (List DV)} (hx : Le h h' x) (hd : appXs E h t t' x = some xs) : appXs E h' t t' x = some xs := by
  unfold appXs at hd ⊢
  cases hq : Nat.beq t t' with
  | true => rw [hq] at hd; exact elems_mono hx hd
  | false => rw [hq] at hd; exact hd

theorem append_mono {t t' : TypeId} {s x : DV} {r : Out} (hs : Le h h' s) (hx : Le h h' x) (hd : appendD E nid h t t' s x = some r) : appendD E nid h' t t' s x = some r ∧ ∀ u ∈ r.upd, u.1 = nid ∨ u.1 ∈ idsOf s := by
  unfold appendD at hd ⊢
  obtain ⟨ti, hti, hd⟩ := some_bind hd
  rw [hti]
  simp only [Option.bind_some]
  split at hd
  · obtain ⟨ei, hei, hd⟩ := some_bind hd
    obtain ⟨xs, hxs, hd⟩ := some_bind hd
    rw [hei]
    simp only [Option.bind_some, appXs_mono hx hxs]
    obtain ⟨hq, hd⟩ := bif_some hd
    rw [hq]
    simp only [cond_true]
    cases s with
    | nils =>
      refine ⟨hd, ?_⟩
      cases xs with
      | nil => cases hd; simp
      | cons c cs =>
        obtain ⟨_, hd⟩ := bif_some hd
        cases hd
        intro u hu
        simp only [List.mem_singleton] at hu
        subst hu; exact .inl rfl
    | rs id v =>
      simp only at hd ⊢
      obtain ⟨o, ho, h2⟩ := some_bind hd
      rw [hs id (by simp [idsOf]) o ho]
      refine ⟨h2, ?_⟩
      split at h2
      · obtain ⟨_, h3⟩ := bif_some h2
        cases h3
        intro u hu
        simp only [List.mem_singleton] at hu
        subst hu; exact .inr (by simp [idsOf])
      · cases h2
    | _ => cases hd
  · cases hd

theorem opnds_mono : ∀ {xs : List Operand} {ds : List DV}, (∀ x ∈ xs, OkX ρ ρ' h h' x) → opnds ρ xs = some ds → opnds ρ' xs = some ds ∧ ∀ id, id ∈ idsOfs ds → (∀ o, h id = some o → h' id = some o) ∧ ∃ x ∈ xs, ∃ d, opnd ρ x = some d ∧ id ∈ idsOf d
  | [], ds, _, hd => by simp only [opnds, Option.some.injEq] at hd; subst hd; exact ⟨rfl, fun id hid => by simp [idsOfs] at hid⟩
  | x :: xs, ds, ho, hd => by
    simp only [opnds] at hd ⊢
    obtain ⟨d, h1, hd⟩ := some_bind hd
    obtain ⟨ds', h2, hd⟩ := some_bind hd
    cases hd
    obtain ⟨k1, k2⟩ := ho x (by simp) d h1
    obtain ⟨k3, k4⟩ := opnds_mono (fun y hy => ho y (by simp [hy])) h2
    refine ⟨by rw [k1, k3]; rfl, fun id hid => ?_⟩
    simp only [idsOfs, List.mem_append] at hid
    rcases hid with hid | hid
    · exact ⟨k2 id hid, x, by simp, d, h1, hid⟩
    · obtain ⟨m1, y, m2, m3⟩ := k4 id hid
      exact ⟨m1, y, by simp [m2], m3⟩

theorem parts_mono : ∀ {ps : List (Nat × Operand)} {vs : List (Nat × DV)}, (∀ x ∈ ps.map (·.2), OkX ρ ρ' h h' x) → partsD ρ ps = some vs → partsD ρ' ps = some vs ∧ ∀ id, id ∈ idsOfs (vs.map (·.2)) → (∀ o, h id = some o → h' id = some o) ∧ ∃ x ∈ ps.map (·.2), ∃ d, opnd ρ x = some d ∧ id ∈ idsOf d
  | [], vs, _, hd => by simp only [partsD, Option.some.injEq] at hd; subst hd; exact ⟨rfl, fun id hid => by simp [idsOfs] at hid⟩
  | (i, x) :: ps, vs, ho, hd => by
    simp only [partsD] at hd ⊢
    obtain ⟨d, h1, hd⟩ := some_bind hd
    obtain ⟨vs', h2, hd⟩ := some_bind hd
    cases hd
    obtain ⟨k1, k2⟩ := ho x (by simp) d h1
    obtain ⟨k3, k4⟩ := parts_mono (fun y hy => ho y (by simp at hy ⊢; exact .inr hy)) h2
    refine ⟨by rw [k1, k3]; rfl, fun id hid => ?_⟩
    simp only [List.map_cons, idsOfs, List.mem_append] at hid
    rcases hid with hid | hid
    · exact ⟨k2 id hid, x, by simp, d, h1, hid⟩
    · obtain ⟨m1, y, m2, m3⟩ := k4 id hid
      exact ⟨m1, y, by simp at m2 ⊢; exact .inr m2, m3⟩

theorem ids_cells (d : DV) : idsOfs (cellsOf d) = idsOf d := by
  cases d <;> simp [cellsOf, idsOfs, idsOf]

theorem rowsD_mono {size : Nat} : ∀ {ps : List (Nat × DV)} {k : Nat} {es : List (List DV)}, (∀ id, id ∈ idsOfs (ps.map (·.2)) → ∀ o, h id = some o → h' id = some o) → rowsD h size k ps = some es → rowsD h' size k ps = some es ∧ ∀ i ∈ rowsOfs (ps.map (·.2)), ∃ o, h i = some o
  | [], k, es, _, hd => ⟨hd, fun i hi => by simp [rowsOfs] at hi⟩
  | (i, v) :: ps, k, es, hl, hd => by
    simp only [rowsD] at hd ⊢
    obtain ⟨hq, hd⟩ := bif_some hd
    obtain ⟨c, h1, hd⟩ := some_bind hd
    obtain ⟨hq2, hd⟩ := bif_some hd
    obtain ⟨r, h2, hd⟩ := some_bind hd
    obtain ⟨k1, k2⟩ := rowsD_mono (fun id hid => hl id (by simp [idsOfs, hid])) h2
    refine ⟨?_, fun j hj => ?_⟩
    · rw [hq]
      simp only [cond_true]
      rw [frzs_mono _ _ (fun id hid => hl id (by rw [ids_cells] at hid; simp [idsOfs, hid])) h1]
      simp only [Option.bind_some, hq2, cond_true]
      rw [k1]; exact hd
    · simp only [List.map_cons, rowsOfs, List.mem_append] at hj
      rcases hj with hj | hj
      · exact frzs_known _ _ h1 j (by rw [rowsOf_cells]; exact hj)
      · exact k2 j hj

end
end Go.Ab
namespace Go.Ab

section
variable {E : Env} {ρ ρ' : Nat → Option DV} {h h' : Nat → Option AObj} {nid : Nat}

theorem ret_upd {x : Option DV} {r : Out} (hd : x.bind ret = some r) : r.upd = [] := by
  obtain ⟨d, _, h⟩ := some_bind hd
  cases h; rfl

def Ups (ρ : Nat → Option DV) (nid : Nat) (xs : Array Operand) (r : Out) : Prop := ∀ u ∈ r.upd, u.1 = nid ∨ ∃ x ∈ xs, ∃ d, opnd ρ x = some d ∧ u.1 ∈ idsOf d

theorem ups_nil {xs : Array Operand} {r : Out} (h : r.upd = []) : Ups ρ nid xs r := fun u hu => by rw [h] at hu; cases hu

theorem mono_call {c : Call} {r : Out} (hx : ∀ x ∈ c.operands, OkX ρ ρ' h h' x) (hd : evOp E nid ρ h (.call c) = some r) : evOp E nid ρ' h' (.call c) = some r ∧ Ups ρ nid c.operands r := by
  have hargs : ∀ x ∈ c.args.toList, x ∈ c.operands := fun x hm => by simp [Call.operands]; exact .inr (by simpa using hm)
  simp only [evOp] at hd ⊢
  split at hd
  · split at hd
    · rename_i x t ts hxx _
      obtain ⟨ti, hti, hd⟩ := some_bind hd
      obtain ⟨d, h1, hd⟩ := some_bind hd
      have hm := hargs x (by rw [hxx]; simp)
      obtain ⟨k1, k2⟩ := hx x hm d h1
      obtain ⟨q, h2, h3⟩ := some_bind hd
      rw [hti]; simp only [Option.bind_some]; rw [k1]; simp only [Option.bind_some]; rw [len_mono k2 h2]
      exact ⟨h3, ups_nil (ret_upd hd)⟩
    · cases hd
  · split at hd
    · rename_i s x t t' hxx _
      obtain ⟨ds, h1, hd⟩ := some_bind hd
      obtain ⟨dx, h2, hd⟩ := some_bind hd
      have hms := hargs s (by rw [hxx]; simp)
      obtain ⟨k1, k2⟩ := hx s hms ds h1
      obtain ⟨k3, k4⟩ := hx x (hargs x (by rw [hxx]; simp)) dx h2
      obtain ⟨k5, k6⟩ := append_mono k2 k4 hd
      simp only [cond_true, k1, k3, Option.bind_some]
      refine ⟨k5, fun u hu => ?_⟩
      rcases k6 u hu with e | e
      · exact .inl e
      · exact .inr ⟨s, hms, ds, h1, e⟩
    · cases hd
  · split at hd
    · rename_i x hxx
      obtain ⟨d, h1, hd⟩ := some_bind hd
      obtain ⟨k1, k2⟩ := hx x (hargs x (by rw [hxx]; simp)) d h1
      rw [k1]
      simp only [Option.bind_some]
      split at hd
      · exact ⟨hd, ups_nil (by obtain rfl := ret_some hd; rfl)⟩
      · rename_i id v
        obtain ⟨o, ho, h2⟩ := some_bind hd
        simp only [k2 id (by simp [idsOf]) o ho, Option.bind_some]
        refine ⟨h2, ?_⟩
        split at h2
        · obtain ⟨_, h3⟩ := bif_some h2
          obtain rfl := ret_some h3
          exact ups_nil rfl
        · cases h2
      · cases hd
    · cases hd
  · split at hd
    · rename_i x n t t' hxx _
      obtain ⟨dx, h1, hd⟩ := some_bind hd
      obtain ⟨dn, h2, hd⟩ := some_bind hd
      obtain ⟨ti, hti, hd⟩ := some_bind hd
      have hmx := hargs x (by rw [hxx]; simp)
      obtain ⟨k1, k2⟩ := hx x hmx dx h1
      obtain ⟨k3, _⟩ := hx n (hargs n (by rw [hxx]; simp)) dn h2
      simp only [k1, k3, hti, Option.bind_some]
      split at hd
      · exact ⟨hd, ups_nil (by obtain rfl := ret_some hd; rfl)⟩
      · rename_i id v k e _ _ _ _
        obtain ⟨o, ho, h3⟩ := some_bind hd
        simp only [k2 id (by simp [idsOf]) o ho, Option.bind_some]
        refine ⟨h3, ?_⟩
        split at h3
        · obtain ⟨_, h4⟩ := bif_some h3
          obtain ⟨l, _, h5⟩ := some_bind h4
          cases h5
          intro u hu
          simp only [List.mem_singleton] at hu
          subst hu
          exact .inr ⟨x, hmx, _, h1, by simp [idsOf]⟩
        · cases h3
      · cases hd
    · cases hd
  · obtain ⟨vs, h1, hd⟩ := some_bind hd
    obtain ⟨k1, _⟩ := opnds_mono (h := h) (h' := h') (fun x hm => hx x (hargs x hm)) h1
    rw [k1]
    refine ⟨hd, ?_⟩
    split at hd
    · exact ups_nil (ret_upd hd)
    · cases hd
  · obtain ⟨vs, h1, hd⟩ := some_bind hd
    obtain ⟨k1, _⟩ := opnds_mono (h := h) (h' := h') (fun x hm => hx x (hargs x hm)) h1
    rw [k1]
    refine ⟨hd, ?_⟩
    split at hd
    · exact ups_nil (ret_upd hd)
    · cases hd
  · cases hd

theorem opt_mono' {x : Option Operand} {d : Option DV} (hx : ∀ y, x = some y → OkX ρ ρ' h h' y) (hd : optOpnd ρ x = some d) : optOpnd ρ' x = some d := by
  cases x with
  | none => exact hd
  | some y =>
    simp only [optOpnd] at hd ⊢
    obtain ⟨v, h1, h2⟩ := some_bind hd
    rw [(hx y rfl v h1).1]; exact h2

theorem mono_op {op : Op} {r : Out} (hx : ∀ x ∈ op.operands, OkX ρ ρ' h h' x) (hd : evOp E nid ρ h op = some r) : evOp E nid ρ' h' op = some r ∧ Ups ρ nid op.operands r := by
  cases op with
  | call c => exact mono_call hx hd
  | move x =>
    simp only [evOp] at hd ⊢
    obtain ⟨d, h1, h2⟩ := some_bind hd
    rw [(hx x (by simp [Op.operands]) d h1).1]
    exact ⟨h2, ups_nil (ret_upd hd)⟩
  | assign x =>
    simp only [evOp] at hd ⊢
    obtain ⟨d, h1, h2⟩ := some_bind hd
    rw [(hx x (by simp [Op.operands]) d h1).1]
    exact ⟨h2, ups_nil (ret_upd hd)⟩
  | pick c x y =>
    simp only [evOp] at hd ⊢
    obtain ⟨d, h1, h2⟩ := some_bind hd
    rw [(hx c (by simp [Op.operands]) d h1).1]
    simp only [Option.bind_some]
    split at h2
    · rename_i b
      cases b
      · obtain ⟨e, h3, h4⟩ := some_bind h2
        simp only [cond_false]
        rw [show opnd ρ' y = some e from (hx y (by simp [Op.operands]) e h3).1]
        exact ⟨h4, ups_nil (ret_upd h2)⟩
      · obtain ⟨e, h3, h4⟩ := some_bind h2
        simp only [cond_true]
        rw [show opnd ρ' x = some e from (hx x (by simp [Op.operands]) e h3).1]
        exact ⟨h4, ups_nil (ret_upd h2)⟩
    · cases h2
  | alloc t =>
    simp only [evOp] at hd ⊢
    refine ⟨hd, ?_⟩
    obtain ⟨ti, _, h2⟩ := some_bind hd
    cases h2
    intro u hu; simp only [List.mem_singleton] at hu; subst hu; exact .inl rfl
  | box t x =>
    simp only [evOp] at hd ⊢
    obtain ⟨d, h1, h2⟩ := some_bind hd
    rw [(hx x (by simp [Op.operands]) d h1).1]
    refine ⟨h2, ?_⟩
    obtain ⟨_, h3⟩ := bif_some h2
    cases h3
    intro u hu; simp only [List.mem_singleton] at hu; subst hu; exact .inl rfl
  | build t ps =>
    simp only [evOp] at hd ⊢
    obtain ⟨ti, hti, h1⟩ := some_bind hd
    obtain ⟨vs, h2, h3⟩ := some_bind h1
    rw [hti]; simp only [Option.bind_some]
    rw [(parts_mono (h := h) (h' := h') (fun x hm => hx x (by simpa [Op.operands] using hm)) h2).1]
    refine ⟨h3, ?_⟩
    split at h3
    · obtain ⟨cs, _, h5⟩ := some_bind h3
      cases h5; exact ups_nil rfl
    · obtain ⟨ei, _, h4⟩ := some_bind h3
      obtain ⟨cs, _, h5⟩ := some_bind h4
      cases h5; exact ups_nil rfl
    · cases h3
  | buildSlice t n ps =>
    simp only [evOp] at hd ⊢
    obtain ⟨ti, hti, h1⟩ := some_bind hd
    rw [hti]; simp only [Option.bind_some]
    cases hk : ti.k with
    | slice e =>
      rw [hk] at h1
      simp only at h1 ⊢
      obtain ⟨ei, hei, h2⟩ := some_bind h1
      obtain ⟨vs, h3, h4⟩ := some_bind h2
      obtain ⟨es, h5, h6⟩ := some_bind h4
      obtain ⟨k1, k2⟩ := parts_mono (h := h) (h' := h') (fun x hm => hx x (by simpa [Op.operands] using hm)) h3
      obtain ⟨k3, k4⟩ := rowsD_mono (fun id hid => (k2 id hid).1) h5
      have k5 := show_mono (fun id hid => (k2 id hid).1) k4
      rw [hei]; simp only [Option.bind_some]; rw [k1]; simp only [Option.bind_some]; rw [k3]; simp only [Option.bind_some]; rw [k5]
      refine ⟨h6, ?_⟩
      obtain ⟨_, h7⟩ := bif_some h6
      cases h7
      intro u hu
      rcases List.mem_cons.1 hu with rfl | hu
      · exact .inl rfl
      · obtain ⟨_, x, m1, d, m2, m3⟩ := k2 u.1 (rows_idss _ _ (showRows_mem _ u hu))
        exact .inr ⟨x, by simpa [Op.operands] using m1, d, m2, m3⟩
    | _ => rw [hk] at h1; cases h1
  | load t x =>
    simp only [evOp] at hd ⊢
    obtain ⟨ti, hti, h1⟩ := some_bind hd
    obtain ⟨d, h2, h3⟩ := some_bind h1
    obtain ⟨v, h4, h5⟩ := some_bind h3
    obtain ⟨k1, k2⟩ := hx x (by simp [Op.operands]) d h2
    rw [hti]; simp only [Option.bind_some]; rw [k1]; simp only [Option.bind_some]; rw [load_mono k2 h4]
    exact ⟨h5, ups_nil (ret_upd h3)⟩
  | store t x y =>
    simp only [evOp] at hd ⊢
    obtain ⟨ti, hti, h1⟩ := some_bind hd
    obtain ⟨d, h2, h3⟩ := some_bind h1
    obtain ⟨v, h4, h5⟩ := some_bind h3
    obtain ⟨us, h6, h7⟩ := some_bind h5
    obtain ⟨k1, k2⟩ := hx x (by simp [Op.operands]) d h2
    obtain ⟨k3, _⟩ := hx y (by simp [Op.operands]) v h4
    obtain ⟨k5, k6⟩ := store_mono k2 h6
    rw [hti]; simp only [Option.bind_some]; rw [k1]; simp only [Option.bind_some]; rw [k3]; simp only [Option.bind_some]; rw [k5]
    refine ⟨h7, ?_⟩
    cases h7
    intro u hu
    exact .inr ⟨x, by simp [Op.operands], d, h2, k6 u hu⟩
  | nilCheck x =>
    simp only [evOp] at hd ⊢
    obtain ⟨d, h1, h2⟩ := some_bind hd
    rw [(hx x (by simp [Op.operands]) d h1).1]
    refine ⟨h2, ?_⟩
    split at h2 <;> first | (cases h2; exact ups_nil rfl) | cases h2
  | binOp op t x y z =>
    simp only [evOp] at hd ⊢
    obtain ⟨d, h1, h2⟩ := some_bind hd
    obtain ⟨e, h3, h4⟩ := some_bind h2
    rw [(hx x (by simp [Op.operands]) d h1).1]; simp only [Option.bind_some]; rw [(hx y (by simp [Op.operands]) e h3).1]
    exact ⟨h4, ups_nil (ret_upd h4)⟩
  | unOp op t x =>
    simp only [evOp] at hd ⊢
    obtain ⟨d, h1, h2⟩ := some_bind hd
    rw [(hx x (by simp [Op.operands]) d h1).1]
    exact ⟨h2, ups_nil (ret_upd h2)⟩
  | convert s t x =>
    simp only [evOp] at hd ⊢
    obtain ⟨si, hsi, h0⟩ := some_bind hd
    obtain ⟨ti, hti, h1⟩ := some_bind h0
    obtain ⟨d, h2, h3⟩ := some_bind h1
    rw [hsi]; simp only [Option.bind_some]; rw [hti]; simp only [Option.bind_some]; rw [(hx x (by simp [Op.operands]) d h2).1]
    refine ⟨h3, ?_⟩
    split at h3 <;> first | (cases h3; exact ups_nil rfl) | cases h3
  | makeInterface t x =>
    simp only [evOp] at hd ⊢
    obtain ⟨ti, hti, h1⟩ := some_bind hd
    obtain ⟨d, h2, h3⟩ := some_bind h1
    rw [hti]; simp only [Option.bind_some]; rw [(hx x (by simp [Op.operands]) d h2).1]
    refine ⟨h3, ?_⟩
    cases hk : ti.k <;> rw [hk] at h3 <;> first | (cases h3; exact ups_nil rfl) | cases h3
  | typeAssert x xt t ok =>
    simp only [evOp] at hd ⊢
    obtain ⟨ti, hti, h1⟩ := some_bind hd
    obtain ⟨d, h2, h3⟩ := some_bind h1
    rw [hti]; simp only [Option.bind_some]; rw [(hx x (by simp [Op.operands]) d h2).1]
    refine ⟨h3, ?_⟩
    have fin : ∀ {r : Out}, (bif ok then (zeroOf ti).bind fun z => ret (.tup [z, .bool false]) else none) = some r → r.upd = [] := fun h => by
      obtain ⟨_, h⟩ := bif_some h
      obtain ⟨z, _, h⟩ := some_bind h
      cases h; rfl
    have fin2 : ∀ {v : DV} {q : Bool} {r : Out}, (bif q then ret v else bif ok then (zeroOf ti).bind fun z => ret (.tup [z, .bool false]) else none) = some r → r.upd = [] := fun {v q r} h => by
      cases q with
      | true => cases h; rfl
      | false => exact fin h
    cases d with
    | nilif => cases hk : ti.k <;> rw [hk] at h3 <;> first | exact ups_nil (fin h3) | cases h3
    | iface t' v => cases hk : ti.k <;> rw [hk] at h3 <;> first | exact ups_nil (fin2 h3) | cases h3
    | _ => cases hk : ti.k <;> rw [hk] at h3 <;> cases h3
  | makeSlice t l c =>
    simp only [evOp] at hd ⊢
    obtain ⟨ti, hti, h1⟩ := some_bind hd
    obtain ⟨dl, h2, h3⟩ := some_bind h1
    obtain ⟨dc, h4, h5⟩ := some_bind h3
    rw [hti]; simp only [Option.bind_some]; rw [(hx l (by simp [Op.operands]) dl h2).1]; simp only [Option.bind_some]; rw [(hx c (by simp [Op.operands]) dc h4).1]
    refine ⟨h5, ?_⟩
    split at h5
    · obtain ⟨ei, _, h6⟩ := some_bind h5
      obtain ⟨_, h7⟩ := bif_some h6
      cases h7
      intro u hu
      simp only [List.mem_singleton] at hu
      subst hu
      exact .inl rfl
    · cases h5
  | makeFunc f x y =>
    simp only [evOp] at hd ⊢
    obtain ⟨d, h1, h2⟩ := some_bind hd
    obtain ⟨e, h3, h4⟩ := some_bind h2
    rw [(opnds_mono (h := h) (h' := h') (fun z hm => hx z (by simp [Op.operands]; exact .inl (by simpa using hm))) h1).1]; simp only [Option.bind_some]
    rw [(opnds_mono (h := h) (h' := h') (fun z hm => hx z (by simp [Op.operands]; exact .inr (by simpa using hm))) h3).1]
    refine ⟨h4, ?_⟩
    cases h4; exact ups_nil rfl
  | makeMap t x =>
    cases x with
    | some x => simp [evOp] at hd
    | none =>
      refine ⟨by simpa only [evOp] using hd, ?_⟩
      simp only [evOp] at hd
      cases hd
      intro u hu; simp only [List.mem_singleton] at hu; subst hu; exact .inl rfl
  | slice t x lo hi mx =>
    cases mx with
    | some m => simp [evOp] at hd
    | none =>
      simp only [evOp] at hd ⊢
      obtain ⟨ti, hti, h1⟩ := some_bind hd
      obtain ⟨d, h2, h3⟩ := some_bind h1
      obtain ⟨dl, h4, h5⟩ := some_bind h3
      obtain ⟨dh, h6, h7⟩ := some_bind h5
      obtain ⟨k1, k2⟩ := hx x (by simp [Op.operands]) d h2
      rw [hti]; simp only [Option.bind_some]; rw [k1]; simp only [Option.bind_some]
      rw [opt_mono' (h := h) (h' := h') (fun y hy => hx y (by subst hy; simp [Op.operands])) h4]; simp only [Option.bind_some]
      rw [opt_mono' (h := h) (h' := h') (fun y hy => hx y (by subst hy; simp [Op.operands])) h6]; simp only [Option.bind_some]
      cases hk : ti.k with
      | string =>
        rw [hk] at h7
        cases d with
        | str s => exact ⟨h7, ups_nil (ret_upd h7)⟩
        | _ => cases h7
      | array n e =>
        rw [hk] at h7
        cases d with
        | ptr id off =>
          simp only at h7 ⊢
          obtain ⟨ei, hei, h8⟩ := some_bind h7
          obtain ⟨ob, h9, h10⟩ := some_bind h8
          rw [hei]; simp only [Option.bind_some]; rw [k2 id (by simp [idsOf]) _ h9]; simp only [Option.bind_some]
          refine ⟨h10, ?_⟩
          cases ob with
          | cells ct cs =>
            obtain ⟨_, h11⟩ := bif_some h10
            obtain ⟨q, _, h12⟩ := some_bind h11
            cases h12
            intro u hu
            simp only [List.mem_singleton] at hu
            subst hu
            exact .inr ⟨x, by simp [Op.operands], .ptr id off, h2, by simp [idsOf]⟩
          | _ => cases h10
        | pub cs =>
          simp only at h7 ⊢
          refine ⟨h7, ?_⟩
          obtain ⟨ei, _, h8⟩ := some_bind h7
          obtain ⟨_, h9⟩ := bif_some h8
          exact ups_nil (ret_upd h9)
        | _ => cases h7
      | slice e =>
        rw [hk] at h7
        simp only at h7 ⊢
        obtain ⟨ei, hei, h8⟩ := some_bind h7
        obtain ⟨es, h9, h10⟩ := some_bind h8
        have k5 := show_mono (h := h) (h' := h') (ds := [d]) (fun id hid => k2 id (by simpa [idsOfs] using hid)) (elems_known h9)
        simp only [rowsOfs, List.append_nil] at k5
        have k6 : hidden h' d = hidden h d := hidden_mono k2 h9
        rw [hei]; simp only [Option.bind_some]; rw [elems_mono k2 h9]; simp only [Option.bind_some]; rw [k5, k6]
        refine ⟨h10, ?_⟩
        obtain ⟨_, h11⟩ := bif_some h10
        cases hvw : ti.view && hidden h d with
        | true =>
          rw [hvw] at h11
          simp only [cond_true] at h11
          exact ups_nil (ret_upd h11)
        | false =>
        rw [hvw] at h11
        simp only [cond_false] at h11
        obtain ⟨q, _, h12⟩ := some_bind h11
        cases h12
        intro u hu
        exact .inr ⟨x, by simp [Op.operands], d, h2, rows_ids d _ (showRows_mem _ u hu)⟩
      | _ => rw [hk] at h7; cases h7
  | fieldAddr s x f =>
    simp only [evOp] at hd ⊢
    obtain ⟨ti, hti, h1⟩ := some_bind hd
    obtain ⟨d, h2, h3⟩ := some_bind h1
    rw [hti]; simp only [Option.bind_some]; rw [(hx x (by simp [Op.operands]) d h2).1]
    refine ⟨h3, ?_⟩
    split at h3
    · obtain ⟨q, _, h4⟩ := some_bind h3
      obtain ⟨fi, _, h5⟩ := some_bind h4
      obtain ⟨_, h6⟩ := bif_some h5
      exact ups_nil (ret_upd h6)
    · cases h3
  | field s x f =>
    simp only [evOp] at hd ⊢
    obtain ⟨ti, hti, h1⟩ := some_bind hd
    obtain ⟨d, h2, h3⟩ := some_bind h1
    rw [hti]; simp only [Option.bind_some]; rw [(hx x (by simp [Op.operands]) d h2).1]
    refine ⟨h3, ?_⟩
    split at h3
    · obtain ⟨q, _, h4⟩ := some_bind h3
      obtain ⟨fi, _, h5⟩ := some_bind h4
      exact ups_nil (ret_upd h5)
    · cases h3
  | indexAddr t x i =>
    simp only [evOp] at hd ⊢
    obtain ⟨ti, hti, h1⟩ := some_bind hd
    obtain ⟨d, h2, h3⟩ := some_bind h1
    obtain ⟨di, h4, h5⟩ := some_bind h3
    obtain ⟨k1, k2⟩ := hx x (by simp [Op.operands]) d h2
    rw [hti]; simp only [Option.bind_some]; rw [k1]; simp only [Option.bind_some]; rw [(hx i (by simp [Op.operands]) di h4).1]; simp only [Option.bind_some]
    cases hk : ti.k with
    | array len e =>
      rw [hk] at h5
      refine ⟨h5, ?_⟩
      obtain ⟨ei, _, h6⟩ := some_bind h5
      obtain ⟨j, _, h7⟩ := some_bind h6
      exact ups_nil (ret_upd h7)
    | slice e =>
      rw [hk] at h5
      simp only at h5 ⊢
      obtain ⟨ei, hei, h6⟩ := some_bind h5
      rw [hei]; simp only [Option.bind_some]
      cases d with
      | sl es =>
        refine ⟨h6, ?_⟩
        obtain ⟨j, _, h7⟩ := some_bind h6
        obtain ⟨c, _, h8⟩ := some_bind h7
        obtain ⟨_, h9⟩ := bif_some h8
        cases h9; exact ups_nil rfl
      | rs id v =>
        simp only at h6 ⊢
        obtain ⟨o, ho, h7⟩ := some_bind h6
        rw [k2 id (by simp [idsOf]) o ho]
        refine ⟨h7, ?_⟩
        split at h7
        · obtain ⟨j, _, h8⟩ := some_bind h7
          obtain ⟨_, h9⟩ := bif_some h8
          cases h9; exact ups_nil rfl
        · cases h7
      | _ => cases h6
    | _ => rw [hk] at h5; cases h5
  | index t x i =>
    simp only [evOp] at hd ⊢
    obtain ⟨ti, hti, h1⟩ := some_bind hd
    obtain ⟨d, h2, h3⟩ := some_bind h1
    obtain ⟨di, h4, h5⟩ := some_bind h3
    rw [hti]; simp only [Option.bind_some]; rw [(hx x (by simp [Op.operands]) d h2).1]; simp only [Option.bind_some]; rw [(hx i (by simp [Op.operands]) di h4).1]
    refine ⟨h5, ?_⟩
    split at h5
    · obtain ⟨ei, _, h6⟩ := some_bind h5
      obtain ⟨j, _, h7⟩ := some_bind h6
      exact ups_nil (ret_upd h7)
    · obtain ⟨j, _, h7⟩ := some_bind h5
      obtain ⟨c, _, h8⟩ := some_bind h7
      cases h8; exact ups_nil rfl
    · cases h5
  | lookup t m k ok =>
    simp only [evOp] at hd ⊢
    obtain ⟨ti, hti, h1⟩ := some_bind hd
    obtain ⟨dm, h2, h3⟩ := some_bind h1
    obtain ⟨dk, h4, h5⟩ := some_bind h3
    obtain ⟨k1, k2⟩ := hx m (by simp [Op.operands]) dm h2
    rw [hti]; simp only [Option.bind_some]; rw [k1]; simp only [Option.bind_some]; rw [(hx k (by simp [Op.operands]) dk h4).1]; simp only [Option.bind_some]
    cases hk : ti.k with
    | map kt e =>
      rw [hk] at h5
      simp only at h5 ⊢
      obtain ⟨ei, hei, h6⟩ := some_bind h5
      obtain ⟨ki, hki, h7⟩ := some_bind h6
      obtain ⟨hq, h8⟩ := bif_some h7
      obtain ⟨es, h9, h10⟩ := some_bind h8
      rw [hei]; simp only [Option.bind_some]; rw [hki]; simp only [Option.bind_some]; rw [hq]; simp only [cond_true]
      have k3 : ∀ (z : Option (List (DV × DV))), z = some es → (z.bind fun es => (mapFind dk es).bind fun r => match r, ei.zero with
          | some v, _ => ret (bif ok then .tup [v, .bool true] else v)
          | none, z :: _ => ret (bif ok then .tup [z, .bool false] else z)
          | _, _ => none) = some r := fun z hz => by rw [hz]; exact h10
      refine ⟨k3 _ ?_, ?_⟩
      · cases dm with
        | nilmap => exact h9
        | map id =>
          simp only at h9 ⊢
          obtain ⟨o, ho, h11⟩ := some_bind h9
          rw [k2 id (by simp [idsOf]) o ho]; exact h11
        | _ => cases h9
      · obtain ⟨q, _, h12⟩ := some_bind h10
        split at h12 <;> first | (cases h12; exact ups_nil rfl) | cases h12
    | _ => rw [hk] at h5; cases h5
  | mapUpdate t m k x =>
    simp only [evOp] at hd ⊢
    obtain ⟨ti, hti, h1⟩ := some_bind hd
    obtain ⟨dm, h2, h3⟩ := some_bind h1
    obtain ⟨dk, h4, h5⟩ := some_bind h3
    obtain ⟨dx, h6, h7⟩ := some_bind h5
    obtain ⟨k1, k2⟩ := hx m (by simp [Op.operands]) dm h2
    rw [hti]; simp only [Option.bind_some]; rw [k1]; simp only [Option.bind_some]; rw [(hx k (by simp [Op.operands]) dk h4).1]; simp only [Option.bind_some]; rw [(hx x (by simp [Op.operands]) dx h6).1]; simp only [Option.bind_some]
    cases hk : ti.k with
    | map kt e =>
      rw [hk] at h7
      cases dm with
      | map id =>
        simp only at h7 ⊢
        obtain ⟨ki, hki, h8⟩ := some_bind h7
        obtain ⟨o, ho, h9⟩ := some_bind h8
        rw [hki]; simp only [Option.bind_some]; rw [k2 id (by simp [idsOf]) o ho]
        refine ⟨h9, ?_⟩
        split at h9
        · obtain ⟨_, h10⟩ := bif_some h9
          obtain ⟨es, _, h11⟩ := some_bind h10
          cases h11
          intro u hu
          simp only [List.mem_singleton] at hu
          subst hu; exact .inr ⟨m, by simp [Op.operands], .map id, h2, by simp [idsOf]⟩
        · cases h9
      | _ => cases h7
    | _ => rw [hk] at h7; cases h7
  | range t x =>
    simp only [evOp] at hd ⊢
    obtain ⟨ti, hti, h1⟩ := some_bind hd
    obtain ⟨d, h2, h3⟩ := some_bind h1
    obtain ⟨k1, k2⟩ := hx x (by simp [Op.operands]) d h2
    rw [hti]; simp only [Option.bind_some]; rw [k1]; simp only [Option.bind_some]
    cases hk : ti.k with
    | string =>
      rw [hk] at h3
      cases d with
      | str s =>
        refine ⟨h3, ?_⟩
        cases h3
        intro u hu; simp only [List.mem_singleton] at hu; subst hu; exact .inl rfl
      | _ => cases h3
    | map kt e =>
      rw [hk] at h3
      cases d with
      | map id =>
        simp only at h3 ⊢
        obtain ⟨ob, ho, h4⟩ := some_bind h3
        rw [k2 id (by simp [idsOf]) _ ho]; simp only [Option.bind_some]
        refine ⟨h4, ?_⟩
        cases ob with
        | map es =>
          cases h4
          intro u hu; simp only [List.mem_singleton] at hu; subst hu; exact .inl rfl
        | _ => cases h4
      | _ => cases h3
    | _ => rw [hk] at h3; cases h3
  | next it s =>
    cases s with
    | false => simp [evOp] at hd
    | true =>
      simp only [evOp] at hd ⊢
      obtain ⟨d, h1, h2⟩ := some_bind hd
      obtain ⟨k1, k2⟩ := hx it (by simp [Op.operands]) d h1
      rw [k1]; simp only [Option.bind_some]
      cases d with
      | iter id =>
        simp only at h2 ⊢
        obtain ⟨o, ho, h3⟩ := some_bind h2
        rw [k2 id (by simp [idsOf]) o ho]
        refine ⟨h3, ?_⟩
        split at h3
        · rename_i s pos
          by_cases hp : pos < s.size
          · simp only [hp, decide_true, cond_true] at h3
            cases h3
            intro u hu
            simp only [List.mem_singleton] at hu
            subst hu; exact .inr ⟨it, by simp [Op.operands], .iter id, h1, by simp [idsOf]⟩
          · simp only [hp, decide_false, cond_false] at h3
            cases h3; exact ups_nil rfl
        · cases h3
      | _ => cases h2
  | extract t i =>
    simp only [evOp] at hd ⊢
    obtain ⟨d, h1, h2⟩ := some_bind hd
    rw [(hx t (by simp [Op.operands]) d h1).1]
    refine ⟨h2, ?_⟩
    split at h2
    · exact ups_nil (ret_upd h2)
    · cases h2
  | _ => simp [evOp] at hd

theorem ids_app : ∀ (xs ys : List DV) (i : Nat), i ∈ idsOfs (xs ++ ys) ↔ i ∈ idsOfs xs ∨ i ∈ idsOfs ys
  | [], ys, i => by simp [idsOfs]
  | x :: xs, ys, i => by simp [idsOfs, ids_app xs ys i, or_assoc]

theorem target_mono {c : Call} {g : FuncId} {x y as : List DV} (hx : ∀ z ∈ c.operands, OkX ρ ρ' h h' z) (hd : target E ρ c = some (.fn (.func g) x y, as)) :
    target E ρ' c = some (.fn (.func g) x y, as) ∧ ∀ id, id ∈ idsOfs as → (∀ o, h id = some o → h' id = some o) ∧ ∃ z ∈ c.operands, ∃ d, opnd ρ z = some d ∧ id ∈ idsOf d := by
  unfold target at hd ⊢
  split at hd
  · rename_i f hc
    have hf : f ∈ c.operands := by simp [Call.operands, hc]
    have hargs : ∀ z ∈ c.args.toList, z ∈ c.operands := fun z hm => by simp [Call.operands]; exact .inr (by simpa using hm)
    obtain ⟨d, h1, h2⟩ := some_bind hd
    obtain ⟨k1, k2⟩ := hx f hf d h1
    rw [k1]; simp only [Option.bind_some]
    split at h2
    · rename_i g' first caps
      obtain ⟨as', h3, h4⟩ := some_bind h2
      obtain ⟨k3, k4⟩ := opnds_mono (h := h) (h' := h') (fun z hm => hx z (hargs z hm)) h3
      rw [k3]
      cases h4
      refine ⟨rfl, fun id hid => ?_⟩
      rw [ids_app, ids_app] at hid
      rcases hid with (hid | hid) | hid
      · have : id ∈ idsOf (.fn (.func g) first caps) := by simp only [idsOf, List.mem_append]; exact .inl hid
        exact ⟨k2 id this, f, hf, _, h1, this⟩
      · obtain ⟨m1, z, m2, m3⟩ := k4 id hid
        exact ⟨m1, z, hargs z m2, m3⟩
      · have : id ∈ idsOf (.fn (.func g) first caps) := by simp only [idsOf, List.mem_append]; exact .inr hid
        exact ⟨k2 id this, f, hf, _, h1, this⟩
    · obtain ⟨as', h3, h4⟩ := some_bind h2
      cases h4
    · cases h2
  · rename_i f m hc
    have hf : f ∈ c.operands := by simp [Call.operands, hc]
    have hargs : ∀ z ∈ c.args.toList, z ∈ c.operands := fun z hm => by simp [Call.operands]; exact .inr (by simpa using hm)
    obtain ⟨d, h1, h2⟩ := some_bind hd
    obtain ⟨k1, k2⟩ := hx f hf d h1
    rw [k1]; simp only [Option.bind_some]
    split at h2
    · rename_i t v
      obtain ⟨ti, hti, h2⟩ := some_bind h2
      obtain ⟨g', hg, h2⟩ := some_bind h2
      obtain ⟨as', h3, h4⟩ := some_bind h2
      obtain ⟨k3, k4⟩ := opnds_mono (h := h) (h' := h') (fun z hm => hx z (hargs z hm)) h3
      simp only [hti, hg, k3, Option.bind_some]
      cases h4
      refine ⟨rfl, fun id hid => ?_⟩
      simp only [idsOfs, List.mem_append] at hid
      rcases hid with hid | hid
      · have : id ∈ idsOf (.iface t v) := by simpa only [idsOf] using hid
        exact ⟨k2 id this, f, hf, _, h1, this⟩
      · obtain ⟨m1, z, m2, m3⟩ := k4 id hid
        exact ⟨m1, z, hargs z m2, m3⟩
    · cases h2
  · cases hd

theorem mono_any {call : Nat → List DV → Option DV} {op : Op} {r : Out} (hx : ∀ x ∈ op.operands, OkX ρ ρ' h h' x) (hd : evAny E call nid ρ h op = some r) : evAny E call nid ρ' h' op = some r ∧ Ups ρ nid op.operands r := by
  unfold evAny at hd ⊢
  split at hd
  · rename_i c hc
    have hop := isCall_some hc
    subst hop
    unfold evCall at hd ⊢
    obtain ⟨tg, h1, h2⟩ := some_bind hd
    split at h2
    · rename_i g x y as
      obtain ⟨fs, h3, h4⟩ := some_bind h2
      obtain ⟨q, h5, h6⟩ := some_bind h4
      have hx' : ∀ z ∈ c.operands, OkX ρ ρ' h h' z := hx
      obtain ⟨k1, k2⟩ := target_mono hx' h1
      rw [k1]; simp only [Option.bind_some]
      rw [frzsV_mono as fs (fun id hid => (k2 id hid).1) h3]; simp only [Option.bind_some]
      rw [h5]; simp only [Option.bind_some]
      cases hrv : as.any isRv with
      | true =>
        rw [hrv] at h6
        simp only [cond_true] at h6 ⊢
        exact ⟨h6, ups_nil (ret_upd h6)⟩
      | false =>
      rw [hrv] at h6
      simp only [cond_false] at h6 ⊢
      cases h6
      rw [show_mono (fun id hid => (k2 id hid).1) (frzsV_known as fs h3)]
      refine ⟨rfl, fun u hu => ?_⟩
      obtain ⟨_, z, m1, m2⟩ := k2 u.1 (rows_idss as _ (showRows_mem _ u hu))
      exact .inr ⟨z, m1, m2⟩
    · cases h2
  · exact mono_op hx hd

end
end Go.Ab
namespace Go.Ab
open Go.RowKit

section
variable {E : Env} {call : Nat → List DV → Option DV} {callH callY : CallH} {V nt : Nat} {ops : Array Oper} {b : Nat}

structure EntryOk (E : Env) (call : Nat → List DV → Option DV) (callH callY : CallH) (V nt : Nat) (ops : Array Oper) (b : Nat) (m : Mid) (k nx nx2 : Nat) (o : Oper) (d : Done) (ds : List (Nat × Done)) : Prop where
  op : ops[k]? = some o
  dst : d.dst = o.dst
  anc : d.anc = ancOf ops ds o k
  edges : ∀ e ∈ o.after, Region.binds .any e = true → e.on < k
  fits : ∀ t, o.dst = some t → t < nt
  apart : ∀ e ∈ ds, Nat.testBit d.anc e.1 = true ∨ ∀ t, o.dst = some t → t ∉ (ops.getD e.1 o).looksAt ops ∧ e.2.dst ≠ some t
  ups : ∀ e ∈ ds, Nat.testBit d.anc e.1 = true ∨ ((d.new ≠ none → e.2.new = none) ∧ ∀ u ∈ d.out.upd, u.1 ∉ e.2.touch ∧ updFind u.1 e.2.out.upd = none)
  run : (wantedD ops (seen d.anc (slotOf V m.base m.loc) ds) o = some true ∧ evAny E call (b + k) (seen d.anc (slotOf V m.base m.loc) ds) (seenH d.anc m.objs.get ds) o.op = some d.out ∧ d.touch = touch (seen d.anc (slotOf V m.base m.loc) ds) o.op ∧ d.new = none ∧ nx2 = nx) ∨
    (wantedD ops (seen d.anc (slotOf V m.base m.loc) ds) o = some false ∧ d.touch = [] ∧ d.out = ⟨some (.tup []), []⟩ ∧ d.new = none ∧ nx2 = nx) ∨
    (wantedD ops (seen d.anc (slotOf V m.base m.loc) ds) o = some true ∧ d.new = some (nx, nx2) ∧ ∃ cl tgt, isCall o.op = some cl ∧ target E (seen d.anc (slotOf V m.base m.loc) ds) cl = some tgt ∧ callCut callH callY (seenH d.anc m.objs.get ds) nx tgt = some (d.out, d.touch, nx2))

def SegOk (E : Env) (call : Nat → List DV → Option DV) (callH callY : CallH) (V nt : Nat) (ops : Array Oper) (b : Nat) (m : Mid) : Nat → Nat → List (Nat × Done) → Prop
  | k, nx, [] => k = 0 ∧ nx = m.next
  | k, nx, (j, d) :: ds => k = j + 1 ∧ ∃ nx0, (∃ o, EntryOk E call callH callY V nt ops b m j nx0 nx o d ds) ∧ SegOk E call callH callY V nt ops b m j nx0 ds

theorem drop_cons {k : Nat} {o : Oper} {os : List Oper} (h : o :: os = ops.toList.drop k) : ops[k]? = some o ∧ os = ops.toList.drop (k + 1) := by
  have hlt : k < ops.toList.length := by
    rcases Nat.lt_or_ge k ops.toList.length with h1 | h1
    · exact h1
    · rw [List.drop_eq_nil_of_le h1] at h; cases h
  rw [List.drop_eq_getElem_cons hlt] at h
  simp only [List.cons.injEq] at h
  refine ⟨?_, h.2⟩
  rw [h.1, ← Array.getElem?_toList]
  exact List.getElem?_eq_getElem hlt

theorem draw_split {m : Mid} : ∀ (os : List Oper) (k : Nat) (mf : Mid) (nx : Nat) (ds : List (Nat × Done)), evDraw E call callH callY V nt ops b k os { m with next := nx } ds = some mf → os = ops.toList.drop k → SegOk E call callH callY V nt ops b m k nx ds → k ≤ ops.size →
    ∃ nx2 ds2, SegOk E call callH callY V nt ops b m ops.size nx2 ds2 ∧ mf = putAll V nt ds2 { m with next := nx2 }
  | [], k, mf, nx, ds, hd, ho, hs, hk => by
    simp only [evDraw, Option.some.injEq] at hd
    have := List.drop_eq_nil_iff.1 ho.symm
    simp at this
    have : k = ops.size := by omega
    subst this
    exact ⟨nx, ds, hs, hd.symm⟩
  | o :: os, k, mf, nx, ds, hd, ho, hs, hk => by
    obtain ⟨hop, hos⟩ := drop_cons ho
    have hlt : k < ops.size := (Array.getElem?_eq_some_iff.1 hop).1
    simp only [evDraw] at hd
    obtain ⟨hq, hd⟩ := bif_some hd
    simp only [Bool.and_eq_true, List.all_eq_true, Bool.or_eq_true] at hq
    obtain ⟨⟨q1, q2⟩, q4⟩ := hq
    have hedges : ∀ e ∈ o.after, Region.binds .any e = true → e.on < k := fun e he hb => by
      have := (Array.all_eq_true_iff_forall_mem.1 q1) e he
      simp only [hb, Bool.not_true, Bool.false_or, Tr.blt_dec, decide_eq_true_eq] at this
      exact this
    have hfits : ∀ t, o.dst = some t → t < nt := fun t ht => by
      rw [ht] at q2
      simpa [Tr.blt_dec] using q2
    have hap : ∀ e ∈ ds, Nat.testBit (ancOf ops ds o k) e.1 = true ∨ ∀ t, o.dst = some t → t ∉ (ops.getD e.1 o).looksAt ops ∧ e.2.dst ≠ some t := fun e he => by
      rcases q4 e he with h | h
      · exact .inl h
      · refine .inr fun t ht => ?_
        rw [ht] at h
        simp only [Bool.and_eq_true, Bool.not_eq_true'] at h
        refine ⟨by simpa using h.1, fun hdst => ?_⟩
        have h2 := h.2
        rw [hdst] at h2
        simp at h2
    obtain ⟨want, hw, hd⟩ := some_bind hd
    cases want with
    | false =>
      simp only [cond_false] at hd
      exact draw_split os (k + 1) mf nx _ hd hos ⟨rfl, nx, ⟨o, hop, rfl, rfl, hedges, hfits, hap, fun e _ => .inr ⟨fun h => absurd rfl h, fun u hu => by cases hu⟩, .inr (.inl ⟨hw, rfl, rfl, rfl, rfl⟩)⟩, hs⟩ hlt
    | true =>
      simp only [cond_true] at hd
      obtain ⟨so, hso, hd⟩ := some_bind hd
      cases so with
      | some r =>
        have hr := stepD_any hso
        obtain ⟨hup, hd⟩ := bif_some hd
        have hups : ∀ e ∈ ds, Nat.testBit (ancOf ops ds o k) e.1 = true ∨ (((none : Option (Nat × Nat)) ≠ none → e.2.new = none) ∧ ∀ u ∈ r.upd, u.1 ∉ e.2.touch ∧ updFind u.1 e.2.out.upd = none) := fun e he => by
          simp only [List.all_eq_true, Bool.or_eq_true, Bool.and_eq_true, Bool.not_eq_true', Option.isNone_iff_eq_none] at hup
          by_cases hq : Nat.testBit (ancOf ops ds o k) e.1 = true
          · exact .inl hq
          · refine .inr ⟨fun h => absurd rfl h, fun u hu => ?_⟩
            rcases hup u hu e he with h | h
            · exact absurd h hq
            · exact ⟨by simpa using h.1, h.2⟩
        exact draw_split os (k + 1) mf nx _ hd hos ⟨rfl, nx, ⟨o, hop, rfl, rfl, hedges, hfits, hap, hups, .inl ⟨hw, hr, rfl, rfl, rfl⟩⟩, hs⟩ hlt
      | none =>
        obtain ⟨cl, h1, hd⟩ := some_bind hd
        obtain ⟨tgt, h2, hd⟩ := some_bind hd
        obtain ⟨⟨out, T, nx2⟩, h3, hd⟩ := some_bind hd
        obtain ⟨hall, hd⟩ := bif_some hd
        simp only [List.all_eq_true, Bool.or_eq_true, Bool.and_eq_true, Bool.not_eq_true', Option.isNone_iff_eq_none] at hall
        have hups : ∀ e ∈ ds, Nat.testBit (ancOf ops ds o k) e.1 = true ∨ ((some (nx, nx2) ≠ none → e.2.new = none) ∧ ∀ u ∈ out.upd, u.1 ∉ e.2.touch ∧ updFind u.1 e.2.out.upd = none) := fun e he => by
          rcases hall e he with h | ⟨h, h'⟩
          · exact .inl h
          · exact .inr ⟨fun _ => h, fun u hu => ⟨by simpa using (h' u hu).1, (h' u hu).2⟩⟩
        exact draw_split os (k + 1) mf nx2 _ hd hos ⟨rfl, nx, ⟨o, hop, rfl, rfl, hedges, hfits, hap, hups, .inr (.inr ⟨hw, rfl, cl, tgt, h1, h2, h3⟩)⟩, hs⟩ hlt

theorem anc_bits {ds : List (Nat × Done)} {o : Oper} {k i : Nat} (h : Nat.testBit (ancOf ops ds o k) i = true) : ∃ e ∈ o.after, Region.binds .any e = true ∧ e.on < k ∧ (i = e.on ∨ ∃ d, (e.on, d) ∈ ds ∧ Nat.testBit d.anc i = true) := by
  unfold ancOf at h
  have key : ∀ (es : List Edge) (x : Nat), Nat.testBit (es.foldl (fun m e => bif Region.binds .any e && Nat.blt e.on k then m ||| (1 <<< e.on) ||| ((ds.find? (fun d => Nat.beq d.1 e.on)).map (·.2.anc)).getD 0 else m) x) i = true →
      Nat.testBit x i = true ∨ ∃ e ∈ es, Region.binds .any e = true ∧ e.on < k ∧ (i = e.on ∨ ∃ d, (e.on, d) ∈ ds ∧ Nat.testBit d.anc i = true) := by
    intro es
    induction es with
    | nil => intro x hx; exact .inl hx
    | cons e es ih =>
      intro x hx
      rw [List.foldl_cons] at hx
      rcases ih _ hx with h1 | ⟨e', h1, h2⟩
      · cases hq : (Region.binds .any e && Nat.blt e.on k) with
        | false => rw [hq] at h1; exact .inl h1
        | true =>
          rw [hq] at h1
          simp only [Bool.and_eq_true, Tr.blt_dec, decide_eq_true_eq] at hq
          simp only [cond_true, Nat.testBit_or, Bool.or_eq_true] at h1
          rcases h1 with (h1 | h1) | h1
          · exact .inl h1
          · refine .inr ⟨e, by simp, hq.1, hq.2, .inl ?_⟩
            rw [Nat.one_shiftLeft, Nat.testBit_two_pow] at h1
            simpa using (of_decide_eq_true h1).symm
          · refine .inr ⟨e, by simp, hq.1, hq.2, .inr ?_⟩
            cases hf : ds.find? (fun d => Nat.beq d.1 e.on) with
            | none => rw [hf] at h1; simp at h1
            | some p =>
              rw [hf] at h1
              obtain ⟨j, d⟩ := p
              have hj := List.find?_some hf
              have hj : j = e.on := Nat.eq_of_beq_eq_true hj
              subst hj
              exact ⟨d, List.mem_of_find?_eq_some hf, h1⟩
      · exact .inr ⟨e', by simp [h1], h2⟩
  rcases key _ _ h with h1 | ⟨e, h1, h2⟩
  · simp at h1
  · exact ⟨e, by simpa using h1, h2⟩

def seenL (L : Nat → Bool) (ρ : Nat → Option DV) : List (Nat × Done) → Nat → Option DV
  | [], t => ρ t
  | (j, d) :: ds, t => if L j = true ∧ d.dst = some t then d.out.val else seenL L ρ ds t

def hL (L : Nat → Bool) (h : Nat → Option AObj) : List (Nat × Done) → Nat → Option AObj
  | [], id => h id
  | (j, d) :: ds, id => if L j = true then (match updFind id d.out.upd with | some x => x | none => hL L h ds id) else hL L h ds id

theorem updFind_mem {id : Nat} : ∀ {us : List (Nat × Option AObj)} {x : Option AObj}, updFind id us = some x → ∃ u ∈ us, u.1 = id
  | [], _, h => by cases h
  | (i, y) :: us, x, h => by
    simp only [updFind] at h
    cases hq : updFind id us with
    | some z =>
      obtain ⟨u, h1, h2⟩ := updFind_mem hq
      exact ⟨u, by simp [h1], h2⟩
    | none =>
      rw [hq] at h
      simp only [Tr.beq_dec] at h
      by_cases e : i = id
      · exact ⟨(i, y), by simp, e⟩
      · simp [e] at h

variable {m : Mid}

theorem seg_lt : ∀ {ds : List (Nat × Done)} {k nx : Nat}, SegOk E call callH callY V nt ops b m k nx ds → ∀ j d, (j, d) ∈ ds → j < k
  | [], k, _, h => fun _ _ h => by cases h
  | (j, d) :: ds, k, _, h => by
    obtain ⟨rfl, _, _, h2⟩ := h
    have k2 := seg_lt h2
    intro i e hi
    rcases List.mem_cons.1 hi with hi | hi
    · cases hi; omega
    · have := k2 i e hi
      omega

def Down (L : Nat → Bool) (ds : List (Nat × Done)) : Prop := ∀ j d, (j, d) ∈ ds → L j = true → ∀ i, Nat.testBit d.anc i = true → L i = true

theorem seg_at : ∀ {ds : List (Nat × Done)} {k nx : Nat}, SegOk E call callH callY V nt ops b m k nx ds → ∀ j, j < k → ∃ d tl o nx1 nx2, (j, d) ∈ ds ∧ EntryOk E call callH callY V nt ops b m j nx1 nx2 o d tl ∧ (∀ e ∈ tl, e ∈ ds) ∧ SegOk E call callH callY V nt ops b m j nx1 tl
  | [], k, _, h, j, h2 => by rw [h.1] at h2; omega
  | (i, d) :: ds, k, nx, h, j, h2 => by
    obtain ⟨rfl, nx0, ⟨o, ho⟩, h4⟩ := h
    by_cases e : j = i
    · subst e; exact ⟨d, ds, o, nx0, nx, by simp, ho, fun e he => by simp [he], h4⟩
    · obtain ⟨d', tl, o', n1, n2, k1, k2, k3, k4⟩ := seg_at h4 j (by omega)
      exact ⟨d', tl, o', n1, n2, by simp [k1], k2, fun e he => by simp [k3 e he], k4⟩

theorem seen_tail {L : Nat → Bool} {anc : Nat} (hanc : ∀ i, Nat.testBit anc i = true → L i = true) {ρ : Nat → Option DV} {t : Nat} {v : DV} : ∀ {ds : List (Nat × Done)}, seen anc ρ ds t = some v → seenL L ρ ds t = some v
  | [], h => h
  | (j, d) :: ds, h => by
    simp only [seen] at h
    simp only [seenL]
    by_cases e : d.dst = some t
    · rw [e] at h
      simp only [Tr.beq_dec, decide_true, cond_true] at h
      cases hq : Nat.testBit anc j with
      | false => rw [hq] at h; cases h
      | true => rw [hq] at h; rw [if_pos ⟨hanc j hq, e⟩]; exact h
    · rw [if_neg (fun q => e q.2)]
      refine seen_tail hanc ?_
      cases hd : d.dst with
      | none => rw [hd] at h; exact h
      | some s =>
        have hne : s ≠ t := fun q => e (by rw [hd, q])
        rw [hd] at h
        simpa [Tr.beq_dec, hne] using h

theorem seenH_tail {L : Nat → Bool} {anc : Nat} (hanc : ∀ i, Nat.testBit anc i = true → L i = true) {h : Nat → Option AObj} {id : Nat} {ob : AObj} : ∀ {ds : List (Nat × Done)}, seenH anc h ds id = some ob → hL L h ds id = some ob
  | [], h => h
  | (j, d) :: ds, h => by
    simp only [seenH] at h
    simp only [hL]
    cases hq : updFind id d.out.upd with
    | some x =>
      rw [hq] at h
      simp only at h ⊢
      cases hb : Nat.testBit anc j with
      | false => rw [hb] at h; cases h
      | true => rw [hb] at h; rw [if_pos (hanc j hb)]; exact h
    | none =>
      rw [hq] at h
      simp only at h ⊢
      have := seenH_tail hanc h
      by_cases e : L j = true
      · rw [if_pos e]; exact this
      · rw [if_neg e]; exact this

theorem seenL_congr {L L' : Nat → Bool} {ρ : Nat → Option DV} {t : Nat} : ∀ {ds : List (Nat × Done)}, (∀ i e, (i, e) ∈ ds → L' i = L i) → seenL L' ρ ds t = seenL L ρ ds t
  | [], _ => rfl
  | (j, d) :: ds, h => by
    simp only [seenL]
    rw [h j d (by simp), seenL_congr fun i e hi => h i e (by simp [hi])]

theorem hL_congr {L L' : Nat → Bool} {h : Nat → Option AObj} {id : Nat} : ∀ {ds : List (Nat × Done)}, (∀ i e, (i, e) ∈ ds → L' i = L i) → hL L' h ds id = hL L h ds id
  | [], _ => rfl
  | (j, d) :: ds, h => by
    simp only [hL]
    rw [h j d (by simp), hL_congr fun i e hi => h i e (by simp [hi])]

theorem seg_view {L : Nat → Bool} {k : Nat} (hk : L k = false) {L' : Nat → Bool} (hL' : ∀ j, L' j = if j = k then true else L j) : ∀ {ds : List (Nat × Done)} {n nx : Nat}, SegOk E call callH callY V nt ops b m n nx ds → Down L ds → k < n → ∃ d tl o nx1 nx2, (k, d) ∈ ds ∧ EntryOk E call callH callY V nt ops b m k nx1 nx2 o d tl ∧
    ((∀ i, Nat.testBit d.anc i = true → L i = true) →
      (∀ t v, t ∈ o.looksAt ops → seen d.anc (slotOf V m.base m.loc) tl t = some v → seenL L (slotOf V m.base m.loc) ds t = some v) ∧
      (∀ id ob, id ∈ d.touch → seenH d.anc m.objs.get tl id = some ob → hL L m.objs.get ds id = some ob)) ∧
    (∀ t, seenL L' (slotOf V m.base m.loc) ds t = if d.dst = some t then d.out.val else seenL L (slotOf V m.base m.loc) ds t) ∧
    (∀ id, hL L' m.objs.get ds id = match updFind id d.out.upd with | some x => x | none => hL L m.objs.get ds id)
  | [], n, _, h, _, h2 => by rw [h.1] at h2; omega
  | (j, dj) :: ds, n, nx, h, hd, h2 => by
    obtain ⟨rfl, nx0, ⟨o, ho⟩, h4⟩ := h
    have hd' : Down L ds := fun i e hi => hd i e (by simp [hi])
    by_cases e : k = j
    · subst e
      have hlt := seg_lt h4
      have hself : L' k = true := by rw [hL']; simp
      have hsame : ∀ i e, (i, e) ∈ ds → L' i = L i := fun i e hi => by
        have := hlt i e hi
        rw [hL', if_neg (by omega)]
      refine ⟨dj, ds, o, nx0, nx, by simp, ho, fun hanc => ⟨fun t v _ hs => ?_, fun id ob _ hs => ?_⟩, fun t => ?_, fun id => ?_⟩
      · simp only [seenL, hk, Bool.false_eq_true, false_and, if_false]
        exact seen_tail hanc hs
      · simp only [hL, hk, Bool.false_eq_true, if_false]
        exact seenH_tail hanc hs
      · simp only [seenL, hself, hk, Bool.false_eq_true, false_and, if_false, true_and]
        rw [seenL_congr hsame]
      · simp only [hL, hself, hk, Bool.false_eq_true, if_false, if_true]
        rw [hL_congr hsame]
    · obtain ⟨d, tl, o', n1, n2, k1, k2, k3, k4, k5⟩ := seg_view hk hL' h4 hd' (by omega)
      have hne : L' j = L j := by rw [hL', if_neg (fun q => e q.symm)]
      have hnb : L j = true → Nat.testBit dj.anc k = false := fun hj => by
        cases hq : Nat.testBit dj.anc k with
        | false => rfl
        | true => have := hd j dj (by simp) hj k hq; rw [hk] at this; cases this
      have hgo : (ops.getD k o).looksAt ops = o'.looksAt ops := by
        have : ops.getD k o = o' := by
          have := k2.op
          simp [this]
        rw [this]
      have hup : L j = true → ∀ id x, updFind id dj.out.upd = some x → id ∉ d.touch ∧ updFind id d.out.upd = none := fun hj id x hq => by
        obtain ⟨u, hu, rfl⟩ := updFind_mem hq
        rcases ho.ups (k, d) k1 with q | q
        · rw [hnb hj] at q; cases q
        · exact q.2 u hu
      refine ⟨d, tl, o', n1, n2, by simp [k1], k2, fun hanc => ⟨fun t v ht hs => ?_, fun id ob hid hs => ?_⟩, fun t => ?_, fun id => ?_⟩
      · simp only [seenL]
        rw [if_neg, (k3 hanc).1 t v ht hs]
        rintro ⟨e1, e2⟩
        rcases ho.apart (k, d) k1 with q | q
        · rw [hnb e1] at q; cases q
        · have := (q t (by rw [← ho.dst]; exact e2)).1
          rw [hgo] at this
          exact this ht
      · simp only [hL]
        rw [(k3 hanc).2 id ob hid hs]
        by_cases e1 : L j = true
        · rw [if_pos e1]
          cases hq : updFind id dj.out.upd with
          | none => rfl
          | some x => exact absurd hid (hup e1 id x hq).1
        · rw [if_neg e1]
      · simp only [seenL, hne]
        rw [k4]
        by_cases e1 : L j = true ∧ dj.dst = some t
        · rw [if_pos e1, if_pos e1, if_neg]
          intro e2
          rcases ho.apart (k, d) k1 with q | q
          · rw [hnb e1.1] at q; cases q
          · exact (q t (by rw [← ho.dst]; exact e1.2)).2 e2
        · rw [if_neg e1, if_neg e1]
      · simp only [hL, hne]
        rw [k5]
        by_cases e1 : L j = true
        · rw [if_pos e1, if_pos e1]
          cases hq : updFind id dj.out.upd with
          | none => rfl
          | some x => rw [(hup e1 id x hq).2]
        · rw [if_neg e1, if_neg e1]

theorem entry_le {k nx nx2 : Nat} {o : Oper} {d : Done} {ds : List (Nat × Done)} (ho : EntryOk E call callH callY V nt ops b m k nx nx2 o d ds) : nx ≤ nx2 := by
  rcases ho.run with ⟨_, _, _, _, h⟩ | ⟨_, _, _, _, h⟩ | ⟨_, _, _, _, _, _, h⟩
  · omega
  · omega
  · exact callCut_le _ _ _ _ _ _ h

theorem entry_new {k nx nx2 : Nat} {o : Oper} {d : Done} {ds : List (Nat × Done)} (ho : EntryOk E call callH callY V nt ops b m k nx nx2 o d ds) {lo hi : Nat} (hn : d.new = some (lo, hi)) : lo = nx ∧ hi = nx2 := by
  rcases ho.run with ⟨_, _, _, h, _⟩ | ⟨_, _, _, h, _⟩ | ⟨_, h, _⟩
  · rw [hn] at h; cases h
  · rw [hn] at h; cases h
  · rw [hn] at h; cases h; exact ⟨rfl, rfl⟩

theorem entry_same {k nx nx2 : Nat} {o : Oper} {d : Done} {ds : List (Nat × Done)} (ho : EntryOk E call callH callY V nt ops b m k nx nx2 o d ds) (hn : d.new = none) : nx2 = nx := by
  rcases ho.run with ⟨_, _, _, _, h⟩ | ⟨_, _, _, _, h⟩ | ⟨_, h, _⟩
  · exact h
  · exact h
  · rw [hn] at h; cases h

theorem seg_le : ∀ {ds : List (Nat × Done)} {k nx : Nat}, SegOk E call callH callY V nt ops b m k nx ds → m.next ≤ nx ∧ ∀ j d lo hi, (j, d) ∈ ds → d.new = some (lo, hi) → m.next ≤ lo ∧ lo ≤ hi ∧ hi ≤ nx
  | [], k, nx, h => ⟨by rw [h.2]; exact Nat.le_refl _, fun _ _ _ _ h => by cases h⟩
  | (i, d) :: ds, k, nx, h => by
    obtain ⟨rfl, nx0, ⟨o, ho⟩, h4⟩ := h
    obtain ⟨h5, h6⟩ := seg_le h4
    have h7 := entry_le ho
    refine ⟨by omega, fun j d' lo hi hj hn => ?_⟩
    rcases List.mem_cons.1 hj with hj | hj
    · cases hj
      obtain ⟨rfl, rfl⟩ := entry_new ho hn
      exact ⟨h5, h7, Nat.le_refl _⟩
    · obtain ⟨a, b, c⟩ := h6 j d' lo hi hj hn
      exact ⟨a, b, by omega⟩

theorem seg_cover : ∀ {ds : List (Nat × Done)} {n nx : Nat}, SegOk E call callH callY V nt ops b m n nx ds → ∀ k d lo hi, (k, d) ∈ ds → d.new = some (lo, hi) → ∀ id, lo ≤ id → id < nx →
    ∃ j dj lo' hi', (j, dj) ∈ ds ∧ dj.new = some (lo', hi') ∧ lo' ≤ id ∧ id < hi' ∧ (j = k ∨ Nat.testBit dj.anc k = true)
  | [], _, _, _, _, _, _, _, h, _, _, _, _ => by cases h
  | (i, di) :: ds, n, nx, h, k, d, lo, hi, hk, hn, id, h1, h2 => by
    obtain ⟨rfl, nx0, ⟨o, ho⟩, h4⟩ := h
    rcases List.mem_cons.1 hk with hk | hk
    · cases hk
      obtain ⟨rfl, rfl⟩ := entry_new ho hn
      exact ⟨i, di, _, _, by simp, hn, h1, h2, .inl rfl⟩
    · rcases Nat.lt_or_ge id nx0 with h3 | h3
      · obtain ⟨j, dj, lo', hi', a, b, c, d', e⟩ := seg_cover h4 k d lo hi hk hn id h1 h3
        exact ⟨j, dj, lo', hi', by simp [a], b, c, d', e⟩
      · cases hq : di.new with
        | none => have := entry_same ho hq; omega
        | some p =>
          obtain ⟨lo', hi'⟩ := p
          obtain ⟨rfl, rfl⟩ := entry_new ho hq
          refine ⟨i, di, lo', hi', by simp, hq, h3, h2, .inr ?_⟩
          rcases ho.ups (k, d) hk with q | q
          · exact q
          · have := q.1 (by rw [hq]; simp)
            rw [hn] at this; cases this

theorem seg_two : ∀ {ds : List (Nat × Done)} {n nx : Nat}, SegOk E call callH callY V nt ops b m n nx ds → ∀ k d lo hi j dj lo' hi', (k, d) ∈ ds → d.new = some (lo, hi) → (j, dj) ∈ ds → dj.new = some (lo', hi') → j ≠ k → Nat.testBit d.anc j = true ∨ hi ≤ lo'
  | [], _, _, _, _, _, _, _, _, _, _, _, h, _, _, _, _ => by cases h
  | (i, di) :: ds, n, nx, h, k, d, lo, hi, j, dj, lo', hi', hk, hn, hj, hnj, hne => by
    obtain ⟨rfl, nx0, ⟨o, ho⟩, h4⟩ := h
    rcases List.mem_cons.1 hk with hk | hk
    · cases hk
      rcases List.mem_cons.1 hj with hj | hj
      · cases hj; exact absurd rfl hne
      · rcases ho.ups (j, dj) hj with q | q
        · exact .inl q
        · have := q.1 (by rw [hn]; simp)
          rw [hnj] at this; cases this
    · rcases List.mem_cons.1 hj with hj | hj
      · cases hj
        obtain ⟨rfl, rfl⟩ := entry_new ho hnj
        exact .inr ((seg_le h4).2 k d lo hi hk hn).2.2
      · exact seg_two h4 k d lo hi j dj lo' hi' hk hn hj hnj hne

end
end Go.Ab
namespace Go.Ab
open Go.RowKit

section
variable {P : Program} {E : Env} {w0 : World} {G0 : Gh} {outer : DD} {own : List Nat} {V nt : Nat} {a : Act} {w : World} {β : Bi} {G : Gh} {ro : Option Nat} {n : Nat} {call : Nat → List DV → Option DV} {callH callY : CallH} {ops : Array Oper} {b : Nat} {m : Mid}

structure DS (E : Env) (w0 : World) (G0 : Gh) (outer : DD) (V nt : Nat) (own : List Nat) (ops : Array Oper) (b nx : Nat) (m : Mid) (ds : List (Nat × Done)) (L : Nat → Bool) (β0 : Bi) (Gz : Gh) (hz : Nat → Option AObj) (a : Act) (w : World) (β : Bi) (G : Gh) : Prop where
  fr : FrM β G (seenL L (slotOf V m.base m.loc) ds) a.tmps
  dom : ∀ t d, m.base.get t = some d → Nat.testBit V t = true
  sz : a.tmps.size = nt
  hr : HR E w0 G0 (pushD own outer) w β G (hL L m.objs.get ds)
  fresh : ∀ id, nx ≤ id → Fresh β (hL L m.objs.get ds) id
  df : DefL E own a.defers ∧ ApartD own outer
  un : ∀ j, j < ops.size → L j = false → Fresh β (hL L m.objs.get ds) (b + j)
  unc : ∀ j d lo hi, (j, d) ∈ ds → d.new = some (lo, hi) → L j = false → ∀ id, lo ≤ id → id < hi → Fresh β (hL L m.objs.get ds) id
  down : Down L ds
  go : Go2 b β0 Gz β G hz (hL L m.objs.get ds)

theorem seg_mem : ∀ {ds : List (Nat × Done)} {k nx : Nat}, SegOk E call callH callY V nt ops b m k nx ds → ∀ j d, (j, d) ∈ ds → ∃ tl o nx1 nx2, EntryOk E call callH callY V nt ops b m j nx1 nx2 o d tl ∧ ∀ e ∈ tl, e ∈ ds
  | [], _, _, _, _, _, h => by cases h
  | (i, d) :: ds, k, nx, h, j, d', hj => by
    obtain ⟨_, nx0, ⟨o, ho⟩, h4⟩ := h
    rcases List.mem_cons.1 hj with hj | hj
    · cases hj; exact ⟨ds, o, nx0, nx, ho, fun e he => by simp [he]⟩
    · obtain ⟨tl, o', n1, n2, k1, k2⟩ := seg_mem h4 j d' hj
      exact ⟨tl, o', n1, n2, k1, fun e he => by simp [k2 e he]⟩

theorem anc_done {ds : List (Nat × Done)} {L : Nat → Bool} {o : Oper} {k : Nat} (hd : Down L ds) {tl : List (Nat × Done)} (htl : ∀ e ∈ tl, e ∈ ds) (he : ∀ e ∈ o.after, Region.binds .any e = true → L e.on = true) :
    ∀ i, Nat.testBit (ancOf ops tl o k) i = true → L i = true := fun i hi => by
  obtain ⟨e, h1, h2, _, h4⟩ := anc_bits hi
  rcases h4 with rfl | ⟨d, h5, h6⟩
  · exact he e h1 h2
  · exact hd e.on d (htl _ h5) (he e h1 h2) i h6

theorem looks_op {o : Oper} {t : Nat} (h : Operand.tmp t ∈ o.op.operands) : t ∈ o.looksAt ops :=
  List.mem_append_left _ (List.mem_filterMap.2 ⟨.tmp t, by simpa using h, rfl⟩)

theorem opnd_view {o : Oper} {ρ ρ' : Nat → Option DV} (h : ∀ t v, t ∈ o.looksAt ops → ρ t = some v → ρ' t = some v) {x : Operand} (hx : x ∈ o.op.operands) {d : DV} (hd : opnd ρ x = some d) : opnd ρ' x = some d := by
  cases x with
  | tmp t => exact h t d (looks_op hx) hd
  | _ => exact hd

theorem wanted_view {o : Oper} {ρ ρ' : Nat → Option DV} (h : ∀ t v, t ∈ o.looksAt ops → ρ t = some v → ρ' t = some v) {want : Bool} (hw : wantedD ops ρ o = some want) : wantedD ops ρ' o = some want := by
  unfold wantedD at hw ⊢
  cases hg : o.guard with
  | none => rw [hg] at hw; exact hw
  | some g =>
    obtain ⟨j, wt⟩ := g
    rw [hg] at hw
    simp only at hw ⊢
    cases hd : (ops[j]?).bind (·.dst) with
    | none => rw [hd] at hw; cases hw
    | some t =>
      rw [hd] at hw
      simp only at hw ⊢
      cases hr : ρ t with
      | none => rw [hr] at hw; cases hw
      | some d =>
        rw [hr] at hw
        rw [h t d (List.mem_append_right _ (by rw [hg]; simp [hd])) hr]
        exact hw

theorem opnds_view {ρ ρ' : Nat → Option DV} : ∀ {xs : List Operand} {ds : List DV}, (∀ x ∈ xs, ∀ dd, opnd ρ x = some dd → opnd ρ' x = some dd) → opnds ρ xs = some ds → opnds ρ' xs = some ds
  | [], _, _, h => h
  | x :: xs, ds, hv, h => by
    simp only [opnds] at h ⊢
    obtain ⟨v, h1, h⟩ := some_bind h
    obtain ⟨vs, h2, h⟩ := some_bind h
    rw [hv x (by simp) v h1, Option.bind_some, opnds_view (fun y hy => hv y (by simp [hy])) h2]
    exact h

theorem target_view {ρ ρ' : Nat → Option DV} {c : Call} {tgt : DV × List DV} (hv : ∀ x ∈ c.operands, ∀ dd, opnd ρ x = some dd → opnd ρ' x = some dd) (h : target E ρ c = some tgt) : target E ρ' c = some tgt := by
  have hargs : ∀ x ∈ c.args.toList, x ∈ c.operands := fun x hx => by
    unfold Call.operands
    split <;> simp_all
  unfold target at h ⊢
  split at h
  · rename_i f hc
    obtain ⟨v, h1, h⟩ := some_bind h
    have hf : f ∈ c.operands := by unfold Call.operands; rw [hc]; simp
    rw [hv f hf v h1]
    simp only [Option.bind_some]
    split at h
    · obtain ⟨as, h2, h⟩ := some_bind h
      rw [opnds_view (fun x hx => hv x (hargs x hx)) h2]; exact h
    · obtain ⟨as, h2, h⟩ := some_bind h
      rw [opnds_view (fun x hx => hv x (hargs x hx)) h2]; exact h
    · cases h
  · rename_i rv mm hc
    obtain ⟨v, h1, h⟩ := some_bind h
    have hf : rv ∈ c.operands := by unfold Call.operands; rw [hc]; simp
    rw [hv rv hf v h1]
    simp only [Option.bind_some]
    split at h
    · obtain ⟨ti, h2, h⟩ := some_bind h
      obtain ⟨g, h3, h⟩ := some_bind h
      obtain ⟨as, h4, h⟩ := some_bind h
      rw [h2, Option.bind_some, h3, Option.bind_some, opnds_view (fun x hx => hv x (hargs x hx)) h4]; exact h
    · cases h
  · cases h

theorem touch_mem {ρ : Nat → Option DV} {op : Op} {x : Operand} (hx : x ∈ op.operands) {d : DV} (hd : opnd ρ x = some d) {id : Nat} (hid : id ∈ idsOf d) : id ∈ touch ρ op := by
  unfold touch
  rw [List.mem_flatMap]
  exact ⟨x, by simpa using hx, by rw [hd]; exact hid⟩

theorem op_step (hE : ∀ t ti, E.ty t = some ti → TyOk P t ti) (hp : PureOk P E call) (hH : HeapOk P E callH) (hY : YieldOk P E callY) {ds : List (Nat × Done)} {nx : Nat} (hs : SegOk E call callH callY V nt ops b m ops.size nx ds) {L L' : Nat → Bool} {k : Nat} (hk2 : k < ops.size) (hle : b + ops.size ≤ m.next)
    (hk : L k = false) (hL' : ∀ j, L' j = if j = k then true else L j) {o : Oper} (ho : ops[k]? = some o) (hready : ∀ e ∈ o.after, Region.binds .any e = true → L e.on = true) {β0 : Bi} {Gz : Gh} {hz : Nat → Option AObj}
    (hst : DS E w0 G0 outer V nt own ops b nx m ds L β0 Gz hz a w β G) {K : Act → World → Prop} {Q : Exit → Act → World → Prop} (hK : ∀ a' w' β' G', DS E w0 G0 outer V nt own ops b nx m ds L' β0 Gz hz a' w' β' G' → K a' w') : wpOpIn (fw ro) n P ops Q k K a w := by
  obtain ⟨d, tl, o', nx1, nx2, h1, h2, h3, h4, h5⟩ := seg_view hk hL' hs hst.down hk2
  have heo : o' = o := by have := h2.op; rw [ho] at this; cases this; rfl
  subst heo
  obtain ⟨hnx, hcalls⟩ := seg_le hs
  have hanc_all : ∀ d', (k, d') ∈ ds → ∀ i, Nat.testBit d'.anc i = true → L i = true := fun d' hd' i hi => by
    obtain ⟨tl', o2, _, _, q1, q2⟩ := seg_mem hs k d' hd'
    have : o2 = o' := by have := q1.op; rw [ho] at this; cases this; rfl
    subst this
    rw [q1.anc] at hi
    exact anc_done hst.down q2 hready i hi
  obtain ⟨v1, v2⟩ := h3 (hanc_all d h1)
  have hdown : Down L' ds := fun j dj hj hlj i hi => by
    rw [hL']
    by_cases e : i = k
    · rw [if_pos e]
    · rw [if_neg e]
      by_cases e2 : j = k
      · subst e2; exact hanc_all dj hj i hi
      · rw [hL', if_neg e2] at hlj
        exact hst.down j dj hj hlj i hi
  have heq : ∀ id, hL L' m.objs.get ds id = updF (hL L m.objs.get ds) d.out.upd id := fun id => h5 id
  have hnext : ∀ (v : Value) (w' : World) (β' : Bi) (G' : Gh), (∀ dd, d.out.val = some dd → Rep β' G' dd v) → Ext β G β' G' → HR E w0 G0 (pushD own outer) w' β' G' (updF (hL L m.objs.get ds) d.out.upd) →
      (∀ id, id < b → Keep1 β β' (hL L m.objs.get ds) (hL L' m.objs.get ds) id) → (∀ id, nx ≤ id → Fresh β' (hL L' m.objs.get ds) id) → (∀ j, j < ops.size → j ≠ k → Fresh β (hL L m.objs.get ds) (b + j) → Fresh β' (hL L' m.objs.get ds) (b + j)) →
      (∀ j dj lo hi, (j, dj) ∈ ds → dj.new = some (lo, hi) → L' j = false → ∀ id, lo ≤ id → id < hi → Fresh β' (hL L' m.objs.get ds) id) →
      DS E w0 G0 outer V nt own ops b nx m ds L' β0 Gz hz (a.put o'.dst v) w' β' G' := fun v w' β' G' hv hx hh hkp hf1 hf2 hf3 => by
    obtain ⟨s1, s2⟩ := put_size (a := a) o'.dst v
    refine ⟨frm_put hx hst.sz hst.fr hv fun t dd ht => ?_, hst.dom, s1.trans hst.sz, hh.eq heq, hf1, ⟨by rw [s2]; exact hst.df.1, hst.df.2⟩, fun j hjs hlj => ?_, hf3, hdown, hst.go.trans ⟨hx, hkp⟩⟩
    · rw [h4, h2.dst] at ht
      by_cases e : o'.dst = some t
      · rw [if_pos e] at ht
        exact .inl ⟨e, h2.fits t e, ht⟩
      · rw [if_neg e] at ht
        exact .inr ⟨fun q => e q.1, ht⟩
    · rw [hL'] at hlj
      by_cases e : j = k
      · rw [if_pos e] at hlj; cases hlj
      · rw [if_neg e] at hlj
        exact hf2 j hjs e (hst.un j hjs hlj)
  have hsimple : d.new = none → ∀ (v : Value) (w' : World) (β' : Bi) (G' : Gh), (∀ dd, d.out.val = some dd → Rep β' G' dd v) → Ext β G β' G' → HR E w0 G0 (pushD own outer) w' β' G' (updF (hL L m.objs.get ds) d.out.upd) → Kept β β' (hL L m.objs.get ds) (updF (hL L m.objs.get ds) d.out.upd) (b + k) →
      DS E w0 G0 outer V nt own ops b nx m ds L' β0 Gz hz (a.put o'.dst v) w' β' G' := fun hdn v w' β' G' hv hx hh hkp => by
    have hfr : ∀ id, id ≠ b + k → Keep1 β β' (hL L m.objs.get ds) (hL L' m.objs.get ds) id := fun id hid hf => by
      obtain ⟨q1, q2, q3⟩ := hkp id hid hf
      exact ⟨by rw [heq]; exact q1, q2, q3⟩
    refine hnext v w' β' G' hv hx hh (fun id hid => hfr id (by omega)) (fun id hid => (hfr id (by omega)).fresh (hst.fresh id hid)) (fun j hjs hne hf => (hfr _ (by omega)).fresh hf) fun j dj lo hi hj hn hlj id hl1 hl2 => ?_
    have hjk : j ≠ k := fun e => by subst e; rw [hL', if_pos rfl] at hlj; cases hlj
    rw [hL', if_neg hjk] at hlj
    have := (hcalls j dj lo hi hj hn).1
    exact (hfr id (by omega)).fresh (hst.unc j dj lo hi hj hn hlj id hl1 hl2)
  unfold wpOpIn
  rw [ho]
  simp only
  rcases h2.run with ⟨r1, r2, r3, r4, _⟩ | ⟨r1, _, r3, r4, _⟩ | ⟨r1, r4, cl, tgt, r5, r6, r7⟩
  · rw [wanted_sound hst.fr (wanted_view v1 r1)]
    simp only [if_true]
    have hmono := (mono_any (ρ' := seenL L (slotOf V m.base m.loc) ds) (h' := hL L m.objs.get ds) (fun x hx dd hd => ⟨opnd_view v1 hx hd, fun id hid ob hob => v2 id ob (by rw [r3]; exact touch_mem hx hd hid) hob⟩) r2).1
    exact evAny_sound hE hp hst.fr hst.hr (hst.un k hk2 hk) hmono K Q fun v w' β' G' hv hx hh hkp => hK _ _ _ _ (hsimple r4 v w' β' G' hv hx hh hkp)
  · rw [wanted_sound hst.fr (wanted_view v1 r1)]
    simp only [Bool.false_eq_true, if_false]
    refine ⟨fun _ _ => trivial, hK _ _ β G (hsimple r4 undef w β G (fun dd hdd => ?_) (Ext.refl _ _) ?_ ?_)⟩
    · rw [r3] at hdd; cases hdd; exact rep_undef
    · rw [r3]; exact hst.hr
    · rw [r3]; exact Kept.refl _ _ _
  · rw [wanted_sound hst.fr (wanted_view v1 r1)]
    simp only [if_true]
    obtain ⟨c1, c2, c3⟩ := hcalls k d nx1 nx2 h1 r4
    have hop := isCall_some r5
    have htgt : target E (seenL L (slotOf V m.base m.loc) ds) cl = some tgt := target_view (fun x hx dd hd => opnd_view v1 (by rw [hop]; exact hx) hd) r6
    have hlow : ∀ id, nx1 ≤ id → Fresh β (hL L m.objs.get ds) id := fun id hid => by
      rcases Nat.lt_or_ge id nx with q | q
      · obtain ⟨j, dj, lo', hi', g1, g2, g3, g4, g5⟩ := seg_cover hs k d nx1 nx2 h1 r4 id hid q
        refine hst.unc j dj lo' hi' g1 g2 ?_ id g3 g4
        rcases g5 with rfl | g5
        · exact hk
        · cases hq : L j with
          | false => rfl
          | true => have := hst.down j dj g1 hq k g5; rw [hk] at this; cases this
      · exact hst.fresh id q
    refine callCut_sound hE hH hY hst.fr r5 htgt hst.hr r7 (fun i hi x hx => v2 i x hi hx) hlow fun v w' β' G' hv hle2 hx hkp hh hff => hK _ _ β' G' ?_
    have hkp' : ∀ id, id < nx1 → Keep1 β β' (hL L m.objs.get ds) (hL L' m.objs.get ds) id := fun id hid hf => by
      obtain ⟨q1, q2, q3⟩ := hkp id hid hf
      exact ⟨by rw [heq]; exact q1, q2, q3⟩
    have hff' : ∀ id, nx2 ≤ id → Fresh β' (hL L' m.objs.get ds) id := fun id hid => by
      have := hff id hid
      exact ⟨this.blk, this.hdr, by rw [heq]; exact this.h⟩
    refine hnext v w' β' G' hv hx hh (fun id hid => hkp' id (by omega)) (fun id hid => hff' id (by omega)) (fun j hjs hne hf => (hkp' _ (by omega)).fresh hf) fun j dj lo hi hj hn hlj id hl1 hl2 => ?_
    have hjk : j ≠ k := fun e => by subst e; rw [hL', if_pos rfl] at hlj; cases hlj
    rw [hL', if_neg hjk] at hlj
    rcases seg_two hs k d nx1 nx2 j dj lo hi h1 r4 hj hn hjk with q | q
    · rw [hanc_all d h1 j q] at hlj; cases hlj
    · exact hff' id (by omega)

theorem putAll_view {L : Nat → Bool} {nx0 : Nat} : ∀ {ds : List (Nat × Done)} {k nx : Nat}, SegOk E call callH callY V nt ops b m k nx ds → (∀ j d, (j, d) ∈ ds → L j = true) →
    (∀ t, seenL L (slotOf V m.base m.loc) ds t = slotOf V (putAll V nt ds { m with next := nx0 }).base (putAll V nt ds { m with next := nx0 }).loc t) ∧ (∀ id, hL L m.objs.get ds id = (putAll V nt ds { m with next := nx0 }).objs.get id) ∧ (putAll V nt ds { m with next := nx0 }).next = nx0 ∧
      ((∀ t d, m.base.get t = some d → Nat.testBit V t = true) → ∀ t d, (putAll V nt ds { m with next := nx0 }).base.get t = some d → Nat.testBit V t = true)
  | [], k, _, _, _ => ⟨fun _ => rfl, fun _ => rfl, rfl, fun h => h⟩
  | (j, d) :: ds, k, nx, hs, hl => by
    obtain ⟨_, _, ⟨o, ho⟩, h4⟩ := hs
    obtain ⟨k1, k2, k3, k4⟩ := putAll_view (nx0 := nx0) h4 (fun i e hi => hl i e (by simp [hi]))
    have hlj := hl j d (by simp)
    simp only [putAll]
    obtain ⟨p1, p2⟩ := put_objs V nt ({ putAll V nt ds { m with next := nx0 } with objs := updObjs (putAll V nt ds { m with next := nx0 }).objs d.out.upd } : Mid) d.dst d.out.val
    refine ⟨fun t => ?_, fun id => ?_, by rw [p2]; exact k3, fun hd => put_dom V nt _ d.dst d.out.val (k4 hd)⟩
    · rw [slot_put]
      simp only [seenL, hlj, true_and]
      by_cases e : d.dst = some t
      · rw [if_pos e, if_pos ⟨e, ho.fits t (by rw [← ho.dst]; exact e)⟩]
      · rw [if_neg e, if_neg (fun q => e q.1)]; exact k1 t
    · rw [p1, updObjs_get]
      simp only [hL, hlj, if_true]
      unfold updF
      cases updFind id d.out.upd with
      | some x => rfl
      | none => exact k2 id

theorem DS.full {ds : List (Nat × Done)} {k nx : Nat} (hs : SegOk E call callH callY V nt ops b m k nx ds) {L : Nat → Bool} (hl : ∀ j d, (j, d) ∈ ds → L j = true) {β0 : Bi} {Gz : Gh} {hz : Nat → Option AObj} (hst : DS E w0 G0 outer V nt own ops b nx m ds L β0 Gz hz a w β G) :
    MM E w0 G0 outer V nt own (putAll V nt ds { m with next := nx }) a w β G ∧ Go2 b β0 Gz β G hz (putAll V nt ds { m with next := nx }).objs.get ∧ (putAll V nt ds { m with next := nx }).next = nx := by
  obtain ⟨k1, k2, k3, k4⟩ := putAll_view (nx0 := nx) hs hl
  have hf : ∀ id, Fresh β (hL L m.objs.get ds) id → Fresh β (putAll V nt ds { m with next := nx }).objs.get id := fun id h => ⟨h.blk, h.hdr, by rw [← k2]; exact h.h⟩
  refine ⟨⟨fun t d ht => hst.fr t d (by rw [k1]; exact ht), k4 hst.dom, hst.sz, hst.hr.eq fun i => (k2 i).symm, fun id hid => hf id (hst.fresh id (by rw [← k3]; exact hid)), hst.df⟩, ⟨hst.go.ext, fun id hid hn => ?_⟩, k3⟩
  obtain ⟨q1, q2, q3⟩ := hst.go.keep id hid hn
  exact ⟨by rw [← k2]; exact q1, q2, q3⟩

end
end Go.Ab
namespace Go.Ab
open Go.RowKit

section
variable {P : Program} {E : Env} {w0 : World} {G0 : Gh} {outer : DD} {own : List Nat} {V nt : Nat} {a : Act} {w : World} {β : Bi} {G : Gh} {ro : Option Nat} {n : Nat} {call : Nat → List DV → Option DV} {callH callY : CallH} {ops : Array Oper} {b : Nat} {m : Mid} {c : Nat}

theorem countP_lt {p p' : Nat → Bool} : ∀ {l : List Nat} {x : Nat}, x ∈ l → p x = true → p' x = false → (∀ y, p' y = true → p y = true) → l.countP p' + 1 ≤ l.countP p
  | [], _, h, _, _, _ => by cases h
  | y :: l, x, h, h1, h2, h3 => by
    have hle : l.countP p' ≤ l.countP p := List.countP_mono_left fun z _ hz => h3 z hz
    rw [List.countP_cons, List.countP_cons]
    rcases List.mem_cons.1 h with rfl | h
    · rw [if_pos h1, if_neg (by rw [h2]; simp)]; omega
    · have := countP_lt h h1 h2 h3
      by_cases e : p' y = true
      · rw [if_pos e, if_pos (h3 y e)]; omega
      · rw [if_neg e]; split <;> omega

def lst (listed : Array Bool) (j : Nat) : Bool := listed.getD j false
def cnt (N : Nat) (listed : Array Bool) : Nat := (List.range N).countP fun j => !lst listed j

theorem lst_set {listed : Array Bool} {i : Nat} (hi : i < listed.size) (j : Nat) : lst (listed.setIfInBounds i true) j = if j = i then true else lst listed j := by
  unfold lst
  by_cases e : j = i
  · subst e; simp [hi]
  · have : i ≠ j := fun h => e h.symm
    simp [e, Array.getElem?_setIfInBounds_ne this]

theorem cnt_set {listed : Array Bool} {i : Nat} (hi : i < listed.size) (hl : lst listed i = false) : cnt listed.size (listed.setIfInBounds i true) + 1 ≤ cnt listed.size listed := by
  unfold cnt
  refine countP_lt (x := i) (List.mem_range.2 hi) (by simp [hl]) (by simp [lst_set hi]) fun y hy => ?_
  rw [lst_set hi] at hy
  by_cases e : y = i
  · rw [if_pos e] at hy; simp at hy
  · rw [if_neg e] at hy; exact hy

theorem cnt_zero {N : Nat} {listed : Array Bool} (h : cnt N listed = 0) : ∀ j, j < N → lst listed j = true := fun j hj => by
  have := List.countP_eq_zero.1 h j (List.mem_range.2 hj)
  simpa using this

theorem ready_iff {listed : Array Bool} (hsz : listed.size = ops.size) {j : Nat} : j ∈ Region.ready .any ops listed ↔ lst listed j = false ∧ ∃ o, ops[j]? = some o ∧ ∀ e ∈ o.after, Region.binds .any e = true → lst listed e.on = true := by
  rw [mem_ready]
  constructor
  · rintro ⟨h1, o, h2, h3⟩
    have hlt : j < listed.size := by rw [hsz]; exact (Array.getElem?_eq_some_iff.1 h2).1
    refine ⟨?_, o, h2, h3⟩
    unfold lst
    simp [hlt] at h1 ⊢; exact h1
  · rintro ⟨h1, o, h2, h3⟩
    have hlt : j < listed.size := by rw [hsz]; exact (Array.getElem?_eq_some_iff.1 h2).1
    refine ⟨?_, o, h2, h3⟩
    unfold lst at h1
    simp [hlt] at h1 ⊢; exact h1

theorem draw_main (hE : ∀ t ti, E.ty t = some ti → TyOk P t ti) (hp : PureOk P E call) (hH : HeapOk P E callH) (hY : YieldOk P E callY) {Q : Exit → Act → World → Prop} {β0 : Bi} {Gz : Gh} {hz : Nat → Option AObj} {m : Mid} {ds : List (Nat × Done)} {nx : Nat} (hs : SegOk E call callH callY V nt ops b m ops.size nx ds) (hle : b + ops.size ≤ m.next)
    (hq : ∀ a' w' β' G', MM E w0 G0 outer V nt own (putAll V nt ds { m with next := nx }) a' w' β' G' → Go2 b β0 Gz β' G' hz (putAll V nt ds { m with next := nx }).objs.get → Q .normal a' w') :
    ∀ (fuel : Nat) (listed : Array Bool) (a : Act) (w : World) (β : Bi) (G : Gh), listed.size = ops.size → cnt ops.size listed ≤ fuel → DS E w0 G0 outer V nt own ops b nx m ds (lst listed) β0 Gz hz a w β G → wpAnyIn (fw ro) n P .any ops Q fuel listed a w := by
  intro fuel
  induction fuel with
  | zero =>
    intro listed a w β G hsz hcnt hst
    have hall := cnt_zero (Nat.le_zero.1 hcnt)
    have hr : Region.ready .any ops listed = [] := by
      cases hrr : Region.ready .any ops listed with
      | nil => rfl
      | cons j l =>
        obtain ⟨h1, o, h2, _⟩ := (ready_iff (j := j) hsz).1 (by rw [hrr]; simp)
        rw [hall j (Array.getElem?_eq_some_iff.1 h2).1] at h1; cases h1
    obtain ⟨f1, f2, _⟩ := hst.full hs fun j d hj => hall j (seg_lt hs j d hj)
    exact ⟨hr, hq a w β G f1 f2⟩
  | succ fuel ihf =>
    intro listed a w β G hsz hcnt hst
    refine ⟨fun hr => ?_, fun i hi => ?_⟩
    ·
      have hall : ∀ j, j < ops.size → lst listed j = true := fun j => by
        induction j using Nat.strongRecOn with
        | _ j ihj =>
          intro hj
          obtain ⟨d, tl, o, _, _, _, h2, _⟩ := seg_at hs j hj
          cases hlj : lst listed j with
          | true => rfl
          | false =>
            have : j ∈ Region.ready .any ops listed := (ready_iff hsz).2 ⟨hlj, o, h2.op, fun e he hb => ihj e.on (h2.edges e he hb) (by have := h2.edges e he hb; omega)⟩
            rw [hr] at this; cases this
      obtain ⟨f1, f2, _⟩ := hst.full hs fun j d hj => hall j (seg_lt hs j d hj)
      exact hq a w β G f1 f2
    · obtain ⟨hli, o, hoi, hed⟩ := (ready_iff hsz).1 hi
      have hilt := (Array.getElem?_eq_some_iff.1 hoi).1
      have hset := lst_set (listed := listed) (i := i) (by omega)
      have hcnt' : cnt ops.size (listed.setIfInBounds i true) ≤ fuel := by
        have := cnt_set (listed := listed) (i := i) (by omega) hli
        rw [hsz] at this; omega
      exact op_step hE hp hH hY hs hilt hle hli hset hoi hed hst fun a' w' β' G' hst' => ihf _ a' w' β' G' (by simpa using hsz) hcnt' hst'

theorem draw_sound (hE : ∀ t ti, E.ty t = some ti → TyOk P t ti) (hp : PureOk P E call) (hH : HeapOk P E callH) (hY : YieldOk P E callY) {Q : Exit → Act → World → Prop} {m mf : Mid}
    (hd : evDraw E call callH callY V nt ops b 0 ops.toList m [] = some mf) (hle : b + ops.size ≤ m.next) (hfr : ∀ j, j < ops.size → Fresh β m.objs.get (b + j)) (hm : MM E w0 G0 outer V nt own m a w β G)
    (hq : ∀ a' w' β' G', m.next ≤ mf.next → MM E w0 G0 outer V nt own mf a' w' β' G' → Go2 b β G β' G' m.objs.get mf.objs.get → Q .normal a' w') :
    wpAnyIn (fw ro) n P .any ops Q ops.size (Array.replicate ops.size false) a w := by
  obtain ⟨nx, ds, hs, rfl⟩ := draw_split (m := m) ops.toList 0 mf m.next [] hd rfl ⟨rfl, rfl⟩ (Nat.zero_le _)
  have hno : ∀ j, lst (Array.replicate ops.size false) j = false := fun j => by
    unfold lst
    by_cases e : j < ops.size
    · simp [e]
    · simp [e]
  obtain ⟨hnx, hcalls⟩ := seg_le hs
  have e1 : ∀ (l : List (Nat × Done)) t, seenL (lst (Array.replicate ops.size false)) (slotOf V m.base m.loc) l t = slotOf V m.base m.loc t := fun l t => by
    induction l with
    | nil => rfl
    | cons p l ihl =>
      obtain ⟨i, e⟩ := p
      simp only [seenL, hno i, Bool.false_eq_true, false_and, if_false]
      exact ihl
  have e2 : ∀ (l : List (Nat × Done)) id, hL (lst (Array.replicate ops.size false)) m.objs.get l id = m.objs.get id := fun l id => by
    induction l with
    | nil => rfl
    | cons p l ihl =>
      obtain ⟨i, e⟩ := p
      simp only [hL, hno i, Bool.false_eq_true, if_false]
      exact ihl
  have hF : ∀ id, Fresh β m.objs.get id → Fresh β (hL (lst (Array.replicate ops.size false)) m.objs.get ds) id := fun id h => ⟨h.blk, h.hdr, by rw [e2]; exact h.h⟩
  have hnext : (putAll V nt ds { m with next := nx }).next = nx := (putAll_view (L := fun _ => true) (nx0 := nx) hs fun _ _ _ => rfl).2.2.1
  refine draw_main hE hp hH hY hs hle (fun a' w' β' G' h1 h2 => hq a' w' β' G' (by rw [hnext]; exact hnx) h1 h2) ops.size _ a w β G (by simp) (by unfold cnt; exact Nat.le_trans (List.countP_le_length) (by simp))
    ⟨fun t d ht => hm.fr t d (by rw [← e1]; exact ht), hm.dom, hm.sz, hm.hr.eq (e2 ds), fun id hid => hF id (hm.fresh id (by omega)), hm.df, fun j hj _ => hF _ (hfr j hj), (fun j d lo hi hj hn _ id h1 _ => hF id (hm.fresh id (by have := (hcalls j d lo hi hj hn).1; omega))),
      (fun j d hj hlj => by rw [hno j] at hlj; cases hlj), ⟨Ext.refl _ _, fun id hid hn => ⟨by rw [e2]; exact hn, rfl, fun _ => rfl⟩⟩⟩

end
end Go.Ab
