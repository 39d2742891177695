/- Operations: all of them in one theorem. -/
import Derived.Test.YtehofdemanfenaaAb33
namespace Go.Ab
open Go.RowKit

section
variable {P : Program} {E : Env} {w0 : World} {G0 : Gh} {D : DD} {o : Oper} {a : Act} {w : World} {β : Bi} {G : Gh} {h : Nat → Option AObj} {nid : Nat} {ρ : Nat → Option DV}

theorem arr_of {α : Type} {x : Array α} {l : List α} (h : x.toList = l) : x = l.toArray := by subst h; simp

theorem TyOk.und {t : TypeId} {ti : TI} (ht : TyOk P t ti) : ∃ d, P.underlying t = some d := by
  have hd := ht.desc
  cases hkk : ti.k <;> rw [hkk] at hd <;> simp only at hd
  all_goals first
    | exact ⟨_, hd⟩
    | (obtain ⟨f, hd, _⟩ := hd; exact ⟨_, hd⟩)
    | (obtain ⟨a, b, c, hd⟩ := hd; exact ⟨_, hd⟩)
    | (obtain ⟨a, hd⟩ := hd; exact ⟨_, hd⟩)

theorem run_u {s : Sem Unit} {w' : World} (he : execOp a.eval o = (do s; Pure.pure Next.skip)) (hs : s.run P w = .ok () w') : (execOp a.eval o).run P w = .ok .skip w' := by
  rw [he]; simp [hs]
theorem run_w {s : Sem Value} {v : Value} {w' : World} (he : execOp a.eval o = (do Pure.pure (Next.value (← s)))) (hs : s.run P w = .ok v w') : (execOp a.eval o).run P w = .ok (.value v) w' := by
  rw [he]; simp [hs]

theorem rep_undef : Rep β G (.tup []) undef := rep_tup.2 ⟨[], rfl, repL_nil.2 rfl⟩

theorem siter_lay (hh : HR E w0 G0 D w β G h) (hf : Fresh β h nid) (s : ByteArray) :
    ∃ β', Ext β G β' G ∧ β'.blk nid = some w.heap.size ∧ HR E w0 G0 D (w.alloc (.stringIter s 0)) β' G (updF h [(nid, some (.siter s 0))]) ∧ Kept β β' h (updF h [(nid, some (.siter s 0))]) nid :=
  hh.lay hf _ _ (fun _ _ _ _ hq => by cases hq) fun β' _ hb => ⟨_, hb, heap_alloc_new w (.stringIter s 0)⟩

theorem map_lay (hh : HR E w0 G0 D w β G h) (hf : Fresh β h nid) :
    ∃ β', Ext β G β' G ∧ β'.blk nid = some w.heap.size ∧ HR E w0 G0 D (w.alloc (.map #[] 0)) β' G (updF h [(nid, some (.map []))]) ∧ Kept β β' h (updF h [(nid, some (.map []))]) nid :=
  hh.lay hf _ _ (fun _ _ _ _ hq => by cases hq) fun β' _ hb => ⟨_, _, _, hb, heap_alloc_new w (.map #[] 0), rfl⟩

theorem pubE_resize {b e e' o : Nat} {es : List (List DV)} (h : PubE β G b e o es) (hl : ∀ c ∈ es, c.length = e') : es = [] ∨ PubE β G b e' o es := by
  cases es with
  | nil => exact .inl rfl
  | cons c cs =>
    right
    have h1 := hl c (by simp)
    have h2 : c.length = e := by unfold PubE at h; exact h.1
    have : e = e' := by omega
    subst this; exact h

theorem run_getObj_siter {l pos : Nat} {s : ByteArray} (h : w.heap[l]? = some (.stringIter s pos)) : (getObj l).run P w = .ok (.stringIter s pos) w := by simp [getObj, Sem.run, h]
theorem run_setObj_any {l : Nat} {r : Obj} {ob : Obj} (h : w.heap[l]? = some ob) (hc : ∀ c t f, ob ≠ .cells c t f) : (setObj l r).run P w = .ok () (w.putObj l r) := by
  cases ob <;> first | (exact absurd rfl (hc _ _ _)) | simp [setObj, Sem.run, World.putObj, h]

theorem evOp_call (hE : ∀ t ti, E.ty t = some ti → TyOk P t ti) (hf : FrM β G ρ a.tmps) (hh : HR E w0 G0 D w β G h) (hfr : Fresh β h nid) {c : Call} (ho : o.op = .call c) {r : Out}
    (hd : evOp E nid ρ h (.call c) = some r) : OpRes P E w0 G0 D o a w β G h nid r := by
  have hexec : ∀ b, c.callee = .builtin b → ∃ cs, execOp a.eval o = Go.builtin b c.argTypes o.type cs (c.args.map a.eval) := fun b hb => by
    refine ⟨c.args.map fun | .const _ => true | _ => false, ?_⟩
    unfold execOp; rw [ho]; simp [resolve, hb, invoke]; rfl
  simp only [evOp] at hd
  split at hd
  · rename_i hb
    split at hd
    · rename_i x t ts hx ht
      obtain ⟨ti, hti, hd⟩ := some_bind hd
      obtain ⟨d, hdx, hd⟩ := some_bind hd
      obtain ⟨u, hu, hd⟩ := some_bind hd
      cases hd
      have hts : c.argTypes[0]? = some t := by rw [arr_of ht]; simp
      obtain ⟨v, h1, h2⟩ := len_sound (ty := o.type) hh (hE t ti hti) hts hu (eval_rep hf hdx)
      refine OpRes.pure hh (v := v) ?_ h2
      obtain ⟨cs, hcs⟩ := hexec _ hb
      rw [hcs, arr_of hx]
      simp [Go.builtin, h1]
    · cases hd
  · rename_i hb
    split at hd
    · rename_i s x t t' hx ht
      have hq := (bif_some hd).1
      replace hd := (bif_some hd).2
      have hq : t = t' := Nat.eq_of_beq_eq_true hq
      subst hq
      obtain ⟨ds, hds, hd⟩ := some_bind hd
      obtain ⟨dx, hdx, hd⟩ := some_bind hd
      obtain ⟨v, w', β', h1, h2, h3, h4, h5⟩ := append_sound (ty := o.type) hE hh hfr (eval_rep hf hds) (eval_rep hf hdx) hd
      refine ⟨.value v, v, w', β', G, ?_, .inl rfl, h2, h3, h4, h5⟩
      obtain ⟨cs, hcs⟩ := hexec _ hb
      rw [hcs, arr_of hx, arr_of ht]
      simp [Go.builtin, h1]
    · cases hd
  · rename_i hb
    obtain ⟨vs, hvs, hd⟩ := some_bind hd
    split at hd
    · rename_i x xs
      obtain ⟨d, hdd, hd⟩ := some_bind hd
      cases hd
      have hr := evals_rep hf hvs
      obtain ⟨v, vs', he, hr1, hr2⟩ := repL_cons.1 hr
      obtain ⟨u, h1, h2⟩ := foldD_sound (P := P) (w := w) (β := β) (G := G) (g := Builtin.min2) min2_sound hdd hr1 hr2
      refine OpRes.pure hh (v := u) ?_ h2
      obtain ⟨cs, hcs⟩ := hexec _ hb
      rw [hcs]
      simp [Go.builtin, Builtin.min_, he, h1]
    · cases hd
  · rename_i hb
    obtain ⟨vs, hvs, hd⟩ := some_bind hd
    split at hd
    · rename_i x xs
      obtain ⟨d, hdd, hd⟩ := some_bind hd
      cases hd
      have hr := evals_rep hf hvs
      obtain ⟨v, vs', he, hr1, hr2⟩ := repL_cons.1 hr
      obtain ⟨u, h1, h2⟩ := foldD_sound (P := P) (w := w) (β := β) (G := G) (g := Builtin.max2) max2_sound hdd hr1 hr2
      refine OpRes.pure hh (v := u) ?_ h2
      obtain ⟨cs, hcs⟩ := hexec _ hb
      rw [hcs]
      simp [Go.builtin, Builtin.max_, he, h1]
    · cases hd
  · cases hd

theorem evOp_sound (hE : ∀ t ti, E.ty t = some ti → TyOk P t ti) (hf : FrM β G ρ a.tmps) (hh : HR E w0 G0 D w β G h) (hfr : Fresh β h nid) {r : Out}
    (hd : evOp E nid ρ h o.op = some r) : OpRes P E w0 G0 D o a w β G h nid r := by
  cases ho : o.op with
  | call c => rw [ho] at hd; exact evOp_call hE hf hh hfr ho hd
  | move x =>
    rw [ho] at hd; simp only [evOp] at hd
    obtain ⟨d, h1, hd⟩ := some_bind hd
    cases hd
    exact OpRes.pure hh (by unfold execOp; rw [ho]; rfl) (eval_rep hf h1)
  | assign x =>
    rw [ho] at hd; simp only [evOp] at hd
    obtain ⟨d, h1, hd⟩ := some_bind hd
    cases hd
    exact OpRes.pure hh (by unfold execOp; rw [ho]; rfl) (eval_rep hf h1)
  | pick c x y =>
    rw [ho] at hd; simp only [evOp] at hd
    obtain ⟨dc, hc, hd⟩ := some_bind hd
    split at hd
    · rename_i b
      have hcv := rep_bool.1 (eval_rep hf hc)
      have hr : (execOp a.eval o).run P w = .ok (.value (if b then a.eval x else a.eval y)) w := by
        unfold execOp; rw [ho]; simp [hcv, asBool]
      cases b
      · obtain ⟨d, h1, hd⟩ := some_bind hd
        cases hd
        exact OpRes.pure hh hr (eval_rep hf h1)
      · obtain ⟨d, h1, hd⟩ := some_bind hd
        cases hd
        exact OpRes.pure hh hr (eval_rep hf h1)
    · cases hd
  | alloc t =>
    rw [ho] at hd; simp only [evOp] at hd
    obtain ⟨ti, hti, hd⟩ := some_bind hd
    cases hd
    exact alloc_sound hh hfr (hE t ti hti) ho
  | box t x =>
    rw [ho] at hd; simp only [evOp] at hd
    obtain ⟨d, h1, hd⟩ := some_bind hd
    obtain ⟨hq, hd⟩ := bif_some hd
    cases hd
    exact box_sound hh hfr ho (eval_rep hf h1) hq
  | build t ps =>
    rw [ho] at hd; simp only [evOp] at hd
    have hrf : ∃ d, r = ⟨some d, []⟩ := by
      obtain ⟨ti, hti, hd⟩ := some_bind hd
      obtain ⟨vs, hvs, hd⟩ := some_bind hd
      split at hd
      · obtain ⟨cs, hcs, hd⟩ := some_bind hd
        cases hd; exact ⟨_, rfl⟩
      · obtain ⟨ei, hei, hd⟩ := some_bind hd
        obtain ⟨cs, hcs, hd⟩ := some_bind hd
        cases hd; exact ⟨_, rfl⟩
      · cases hd
    obtain ⟨d, rfl⟩ := hrf
    obtain ⟨v, h1, h2⟩ := build_sound (P := P) (w := w) (β := β) (G := G) hE hf hd
    exact OpRes.pure hh (run_w (by unfold execOp; rw [ho]) h1) h2
  | buildSlice t n ps =>
    rw [ho] at hd
    obtain ⟨v, w', β', G', h1, h2, h3, h4, h5⟩ := buildSlice_sound (P := P) (a := a) hE hf hh hfr hd
    exact ⟨.value v, v, w', β', G', run_w (by unfold execOp; rw [ho]) h1, .inl rfl, h2, h3, h4, h5⟩
  | load t x =>
    rw [ho] at hd; simp only [evOp] at hd
    obtain ⟨ti, hti, hd⟩ := some_bind hd
    obtain ⟨dx, hx, hd⟩ := some_bind hd
    obtain ⟨d, h1, hd⟩ := some_bind hd
    cases hd
    obtain ⟨v, h2, h3⟩ := load_sound hE hh (hE t ti hti) (hE t ti hti).ko (eval_rep hf hx) h1
    exact OpRes.pure hh (run_w (by unfold execOp; rw [ho]) h2) h3
  | store t x y =>
    rw [ho] at hd; simp only [evOp] at hd
    obtain ⟨ti, hti, hd⟩ := some_bind hd
    obtain ⟨dx, hx, hd⟩ := some_bind hd
    obtain ⟨dy, hy, hd⟩ := some_bind hd
    obtain ⟨us, h1, hd⟩ := some_bind hd
    cases hd
    obtain ⟨w', h2, h3, h4⟩ := store_sound (nid := nid) hh (hE t ti hti) (eval_rep hf hx) (eval_rep hf hy) h1
    exact ⟨.skip, undef, w', β, G, run_u (by unfold execOp; rw [ho]) h2, .inr ⟨rfl, rfl⟩, fun d hd => by cases hd; exact rep_undef, Ext.refl β G, h3, h4⟩
  | nilCheck x =>
    rw [ho] at hd; simp only [evOp] at hd
    obtain ⟨d, h1, hd⟩ := some_bind hd
    have hr := eval_rep hf h1
    have key : ∀ A, a.eval x = .pointer (some A) → (execOp a.eval o).run P w = .ok (.value (a.eval x)) w := fun A hA => by
      unfold execOp; rw [ho]; simp [hA]
    split at hd
    · cases hd
      obtain ⟨b, _, h2⟩ := rep_ptr.1 hr
      exact OpRes.pure hh (key _ h2) hr
    · cases hd
      obtain ⟨b, _, _, _, h2⟩ := rep_rptr.1 hr
      exact OpRes.pure hh (key _ h2) hr
    · cases hd
      obtain ⟨_, b, _, h2, _⟩ := rep_pub.1 hr
      exact OpRes.pure hh (key _ h2) hr
    · cases hd
  | binOp op t x y z =>
    rw [ho] at hd; simp only [evOp] at hd
    obtain ⟨dx, hx, hd⟩ := some_bind hd
    obtain ⟨dy, hy, hd⟩ := some_bind hd
    obtain ⟨d, h1, hd⟩ := some_bind hd
    cases hd
    obtain ⟨v, h2, h3⟩ := binD_sound (P := P) (w := w) (x := x) (y := y) hE h1 (eval_rep hf hx) (eval_rep hf hy)
    exact OpRes.pure hh (run_w (by unfold execOp; rw [ho]) h2) h3
  | unOp op t x =>
    rw [ho] at hd; simp only [evOp] at hd
    obtain ⟨dx, hx, hd⟩ := some_bind hd
    obtain ⟨d, h1, hd⟩ := some_bind hd
    cases hd
    obtain ⟨v, h2, h3⟩ := unD_sound (P := P) (w := w) h1 (eval_rep hf hx)
    exact OpRes.pure hh (run_w (by unfold execOp; rw [ho]) h2) h3
  | convert s t x =>
    rw [ho] at hd; simp only [evOp] at hd
    obtain ⟨si, hsi, hd⟩ := some_bind hd
    obtain ⟨ti, hti, hd⟩ := some_bind hd
    obtain ⟨dx, hx, hd⟩ := some_bind hd
    obtain ⟨us, hus⟩ := (hE s si hsi).und
    have hdesc := (hE t ti hti).desc
    have hr := eval_rep hf hx
    cases hk : ti.k with
    | int k =>
      rw [hk] at hd hdesc
      cases dx with
      | int k' n =>
      cases hd
      rw [rep_int] at hr
      refine OpRes.pure hh (run_w (v := .int k (k.wrap n)) (by unfold execOp; rw [ho]) ?_) (rep_int.2 rfl)
      simp [convert, Go.run_underlying hus, Go.run_underlying hdesc, hr, Conv.intToInt]
      | _ => cases hd
    | string =>
      rw [hk] at hd hdesc
      cases dx with
      | str s' =>
      cases hd
      rw [rep_str] at hr
      refine OpRes.pure hh (run_w (v := .string s') (by unfold execOp; rw [ho]) ?_) (rep_str.2 rfl)
      simp [convert, Go.run_underlying hus, Go.run_underlying hdesc, hr]
      | _ => cases hd
    | _ => rw [hk] at hd; cases hd
  | makeInterface t x =>
    rw [ho] at hd; simp only [evOp] at hd
    obtain ⟨ti, hti, hd⟩ := some_bind hd
    obtain ⟨dx, hx, hd⟩ := some_bind hd
    have hk : ti.k ≠ .iface := fun e => by rw [e] at hd; cases hd
    have hd' : ret (.iface t dx) = some r := by
      cases hkk : ti.k <;> rw [hkk] at hd <;> first | exact hd | exact absurd hkk hk
    rw [ret_some hd']
    obtain ⟨h1, h2⟩ := makeIface_sound (P := P) (w := w) (hE t ti hti) hk (eval_rep hf hx)
    exact OpRes.pure hh (run_w (by unfold execOp; rw [ho]) h1) h2
  | typeAssert x xt t ok =>
    rw [ho] at hd; simp only [evOp] at hd
    obtain ⟨ti, hti, hd⟩ := some_bind hd
    obtain ⟨dx, hx, hd⟩ := some_bind hd
    have hk : ti.k ≠ .iface := fun e => by rw [e] at hd; cases dx <;> cases hd
    have : ∃ d, (match dx with
      | .nilif => bif ok then (zeroOf ti).bind fun z => some (.tup [z, .bool false]) else none
      | .iface t' v => bif Nat.beq t' t then some (bif ok then .tup [v, .bool true] else v) else bif ok then (zeroOf ti).bind fun z => some (.tup [z, .bool false]) else none
      | _ => none : Option DV) = some d ∧ r = ⟨some d, []⟩ := by
      cases dx with
      | nilif =>
        have hd' : (bif ok then (zeroOf ti).bind fun z => ret (.tup [z, .bool false]) else none) = some r := by
          cases hkk : ti.k <;> rw [hkk] at hd <;> first | exact hd | exact absurd hkk hk
        cases ok with
        | false => cases hd'
        | true =>
          obtain ⟨z, hz, hd'⟩ := some_bind hd'
          exact ⟨_, by simp [hz], ret_some hd'⟩
      | iface t' v =>
        have hd' : (bif Nat.beq t' t then ret (bif ok then .tup [v, .bool true] else v) else bif ok then (zeroOf ti).bind fun z => ret (.tup [z, .bool false]) else none) = some r := by
          cases hkk : ti.k <;> rw [hkk] at hd <;> first | exact hd | exact absurd hkk hk
        simp only
        cases hq : Nat.beq t' t with
        | true => rw [hq] at hd'; exact ⟨_, rfl, ret_some hd'⟩
        | false =>
          rw [hq] at hd'
          cases ok with
          | false => cases hd'
          | true =>
            obtain ⟨z, hz, hd'⟩ := some_bind hd'
            exact ⟨_, by simp [hz], ret_some hd'⟩
      | _ => cases hkk : ti.k <;> rw [hkk] at hd <;> cases hd
    obtain ⟨d, h1, rfl⟩ := this
    obtain ⟨v, h2, h3⟩ := typeAssert_sound (P := P) (w := w) (xt := xt) (hE t ti hti) hk h1 (eval_rep hf hx)
    exact OpRes.pure hh (run_w (by unfold execOp; rw [ho]) h2) h3
  | makeSlice t l c =>
    rw [ho] at hd; simp only [evOp] at hd
    obtain ⟨ti, hti, hd⟩ := some_bind hd
    obtain ⟨dl, hl, hd⟩ := some_bind hd
    obtain ⟨dc, hc, hd⟩ := some_bind hd
    cases hk : ti.k with
    | slice e =>
     rw [hk] at hd
     obtain ⟨k1, n, rfl⟩ : ∃ k n, dl = .int k n := by cases dl <;> first | exact ⟨_, _, rfl⟩ | cases hd
     obtain ⟨k2, n', rfl⟩ : ∃ k n, dc = .int k n := by cases dc <;> first | exact ⟨_, _, rfl⟩ | cases hd
     simp only at hd
     obtain ⟨ei, hei, hd⟩ := some_bind hd
     obtain ⟨hq, hd⟩ := bif_some hd
     cases hd
     simp only [Bool.and_eq_true, decide_eq_true_eq, beq_iff_eq] at hq
     obtain ⟨⟨⟨⟨q1, q2⟩, q3⟩, q4⟩, q5⟩ := hq
     subst q1
     have e1 := eval_rep hf hl
     have e2 := eval_rep hf hc
     rw [rep_int] at e1 e2
     obtain ⟨v, w', β', h1, h2, h3, h4, h5⟩ := makeSlice_sound (P := P) (k1 := k1) (k2 := k2) hE hh hfr (hE t ti hti) hk hei q2 (Nat.le_of_ble_eq_true q3) (Nat.le_of_ble_eq_true q4) q5
     rw [← e1, ← e2] at h1
     exact ⟨_, v, w', β', G, run_w (by unfold execOp; rw [ho]) h1, .inl rfl, fun d hd => by cases hd; exact h2, h3, h4, h5⟩
    | _ => rw [hk] at hd; cases hd
  | makeFunc f x y =>
    rw [ho] at hd; simp only [evOp] at hd
    obtain ⟨dx, hx, hd⟩ := some_bind hd
    obtain ⟨dy, hy, hd⟩ := some_bind hd
    cases hd
    refine OpRes.pure hh (run_w (v := .func f (x.map a.eval) (y.map a.eval)) (by unfold execOp; rw [ho]) rfl) (rep_fn.2 ⟨_, _, ?_, evals_rep hf hx, evals_rep hf hy⟩)
    congr 1 <;> (apply Array.ext'; simp)
  | makeMap t x =>
    cases x with
    | some x => rw [ho] at hd; simp [evOp] at hd
    | none =>
      rw [ho] at hd; simp only [evOp] at hd
      cases hd
      obtain ⟨β', h1, h2, h3, h4⟩ := map_lay hh hfr
      refine ⟨_, .map (some w.heap.size), _, β', G, run_w (by unfold execOp; rw [ho]) ?_, .inl rfl, fun d hd => by cases hd; exact rep_map.2 ⟨_, h2, rfl⟩, h1, h3, h4⟩
      simp [Instr.makeMap]
  | slice t x lo hi mx =>
    cases mx with
    | some m => rw [ho] at hd; simp [evOp] at hd
    | none =>
      rw [ho] at hd; simp only [evOp] at hd
      obtain ⟨ti, hti, hd⟩ := some_bind hd
      obtain ⟨dx, hx, hd⟩ := some_bind hd
      obtain ⟨dl, hl, hd⟩ := some_bind hd
      obtain ⟨dh, hhi, hd⟩ := some_bind hd
      have hdesc := (hE t ti hti).desc
      have hr := eval_rep hf hx
      have hlo := opt_rep hf hl
      have hhr := opt_rep hf hhi
      cases hk : ti.k with
      | string =>
        rw [hk] at hdesc hd
        cases dx with
        | str s =>
          obtain ⟨d, h1, hd⟩ := some_bind hd
          cases hd
          rw [rep_str] at hr
          unfold subStr at h1
          obtain ⟨m, k1, h1⟩ := some_bind h1
          obtain ⟨l, k2, h1⟩ := some_bind h1
          cases h1
          obtain ⟨k3, _, _⟩ := bounds_sound (P := P) (w := w) (isSlice := false) hlo hhr k1 k2 (Nat.le_refl _)
          refine OpRes.pure hh (run_w (v := .string (s.extract l m)) (by unfold execOp; rw [ho]) ?_) (rep_str.2 rfl)
          simp [Instr.sliceAt, Instr.slice, Go.run_underlying hdesc, hr, k3]
        | _ => cases hd
      | array n e =>
        rw [hk] at hd
        cases dx with
        | ptr id off =>
          simp only at hd
          obtain ⟨ei, hei, hd⟩ := some_bind hd
          obtain ⟨ob, hob, hd⟩ := some_bind hd
          cases ob with
          | cells ct cs =>
            obtain ⟨hq, hd⟩ := bif_some hd
            obtain ⟨d, h1, hd⟩ := some_bind hd
            cases hd
            simp only [Bool.and_eq_true] at hq
            obtain ⟨v, G1, h2, h3, h4, h5⟩ := sliceArr_sound (P := P) hE hh (hE t ti hti) hk hei hr hob (Nat.le_of_ble_eq_true hq.1.1) (Nat.le_of_ble_eq_true hq.1.2) hq.2 hlo hhr h1
            exact ⟨_, v, w, β, G1, run_w (by unfold execOp; rw [ho] <;> rfl) h2, .inl rfl, fun d hd => by cases hd; exact h3, h4, h5, fun i _ hq => ⟨by rw [updF_one]; split; exact rfl; exact hq, rfl, fun _ => rfl⟩⟩
          | _ => cases hd
        | _ => cases hd
      | slice e =>
        rw [hk] at hd
        simp only at hd
        obtain ⟨ei, hei, hd⟩ := some_bind hd
        obtain ⟨es, hes, hd⟩ := some_bind hd
        obtain ⟨hq, hd⟩ := bif_some hd
        obtain ⟨d, h1, hd⟩ := some_bind hd
        cases hd
        simp only [Bool.and_eq_true, List.all_eq_true] at hq
        have hql : ∀ c ∈ es, c.length = ei.size := fun c hc => Nat.eq_of_beq_eq_true (hq.1 c hc)
        obtain ⟨G1, hx1, hh1, hs1⟩ := show_rows hh (rowsOf dx)
        have hsh : ∃ A c, a.eval x = .slice A es.length c ∧ es.length ≤ c ∧ (es = [] ∨ ∃ b off, A = some ⟨b, off, none⟩ ∧ PubE β G1 b ei.size off es) := by
          cases dx with
          | nils => cases hes; exact ⟨none, 0, rep_nils.1 hr, Nat.le_refl _, .inl rfl⟩
          | sl es' =>
            cases hes
            obtain ⟨A, c, ⟨k1, k2⟩, k3⟩ := rep_sl.1 hr
            refine ⟨A, c, k1, k2, ?_⟩
            rcases k3 with k3 | ⟨b, off, e', k3, k4⟩
            · exact .inl k3
            · exact pubE_resize (PubE.mono hx1 _ _ _ _ k4) hql |>.imp (fun z => z) fun k => ⟨b, off, k3, k⟩
          | rs id ver =>
            simp only [elemsOf] at hes
            obtain ⟨ob, hob, hes⟩ := some_bind hes
            split at hes
            · rename_i t' es' p u
              obtain ⟨hu, hes⟩ := bif_some hes
              cases hes
              have hu : u = ver := Nat.eq_of_beq_eq_true hu
              subst hu
              obtain ⟨p', hp'⟩ := show_same h (rowsOf (.rs id u)) _ _ _ _ _ hob
              obtain ⟨hdr, k1, A, c, ⟨k2, k3⟩, k4⟩ := hs1 id (by simp [rowsOf]) _ _ _ _ hp'
              obtain ⟨k5, _⟩ := rep_rs.1 hr
              rw [k1] at k5; cases k5
              refine ⟨A, c, k2, k3, ?_⟩
              rcases k4 with k4 | ⟨b, k4, k6⟩
              · exact .inl k4
              · exact pubE_resize k6 hql |>.imp (fun z => z) fun k => ⟨b, 0, k4, k⟩
            · cases hes
          | _ => cases hes
        obtain ⟨v, h2, h3⟩ := slice_sound (P := P) (w := w) (hE t ti hti) hk (hE e ei hei) hsh (opt_mono hx1 hlo) (opt_mono hx1 hhr) h1
        exact ⟨_, v, w, β, G1, run_w (by unfold execOp; rw [ho] <;> rfl) h2, .inl rfl, fun d hd => by cases hd; exact h3, hx1, hh1, show_kept _⟩
      | _ => rw [hk] at hd; cases hd
  | fieldAddr s x f =>
    rw [ho] at hd; simp only [evOp] at hd
    obtain ⟨ti, hti, hd⟩ := some_bind hd
    obtain ⟨dx, hx, hd⟩ := some_bind hd
    split at hd
    · rename_i fs hk
      obtain ⟨⟨ft, off⟩, hfs, hd⟩ := some_bind hd
      obtain ⟨fi, hfi, hd⟩ := some_bind hd
      obtain ⟨hq, hd⟩ := bif_some hd
      obtain ⟨d, h1, hd⟩ := some_bind hd
      cases hd
      obtain ⟨v, h2, h3⟩ := fieldAt_sound (P := P) (w := w) hE (hE s ti hti) hk hfs hfi (Nat.le_of_ble_eq_true hq) (eval_rep hf hx) h1
      exact OpRes.pure hh (run_w (by unfold execOp; rw [ho]) h2) h3
    · cases hd
  | field s x f =>
    rw [ho] at hd; simp only [evOp] at hd
    obtain ⟨ti, hti, hd⟩ := some_bind hd
    obtain ⟨dx, hx, hd⟩ := some_bind hd
    have : ∃ d, (match ti.k, dx with
      | .struct fs, .agg cs => (fs[f]?).bind fun (ft, off) => (E.ty ft).bind fun fi => partOf fi cs off
      | _, _ => none) = some d ∧ r = ⟨some d, []⟩ := by
      split at hd
      · rename_i hk2
        obtain ⟨⟨ft, off⟩, hfs, hd⟩ := some_bind hd
        obtain ⟨fi, hfi, hd⟩ := some_bind hd
        obtain ⟨d, h1, hd⟩ := some_bind hd
        cases hd
        exact ⟨d, by rw [hk2]; simp only at hfi h1; simp [hfs, hfi, h1], rfl⟩
      · cases hd
    obtain ⟨d, h1, rfl⟩ := this
    obtain ⟨v, h2, h3⟩ := field_sound (P := P) (w := w) hE (hE s ti hti) h1 (eval_rep hf hx)
    exact OpRes.pure hh (run_w (by unfold execOp; rw [ho]) h2) h3
  | indexAddr t x i =>
    rw [ho] at hd; simp only [evOp] at hd
    obtain ⟨ti, hti, hd⟩ := some_bind hd
    obtain ⟨dx, hx, hd⟩ := some_bind hd
    obtain ⟨di, hi, hd⟩ := some_bind hd
    have hrx := eval_rep hf hx
    have hri := eval_rep hf hi
    cases hk : ti.k with
    | array len e =>
      rw [hk] at hd
      obtain ⟨ei, hei, hd⟩ := some_bind hd
      obtain ⟨j, hj, hd⟩ := some_bind hd
      obtain ⟨d, h1, hd⟩ := some_bind hd
      cases hd
      obtain ⟨v, h2, h3⟩ := indexAt_array (P := P) (w := w) (hE t ti hti) hk (hE e ei hei) hrx hri hj h1
      exact OpRes.pure hh (run_w (by unfold execOp; rw [ho]) h2) h3
    | slice e =>
      rw [hk] at hd
      simp only at hd
      obtain ⟨ei, hei, hd⟩ := some_bind hd
      cases dx with
      | sl es =>
        obtain ⟨j, hj, hd⟩ := some_bind hd
        obtain ⟨c, hc, hd⟩ := some_bind hd
        obtain ⟨hq, hd⟩ := bif_some hd
        cases hd
        simp only [Bool.and_eq_true] at hq
        have hcl : c.length = ei.size := Nat.eq_of_beq_eq_true hq.1
        obtain ⟨A, cap, ⟨k1, k2⟩, k3⟩ := rep_sl.1 hrx
        rcases k3 with k3 | ⟨b, off, e', rfl, k4⟩
        · subst k3; simp at hc
        · obtain ⟨m1, m2, m3⟩ := pubE_get k4 hc
          have he : e' = ei.size := by omega
          subst he
          have h2 := indexAt_slice (P := P) (w := w) (c := cap) (A := ⟨b, off, none⟩) (hE t ti hti) hk (hE e ei hei) hri hj
          refine OpRes.pure hh (run_w (v := .pointer (some ((⟨b, off, none⟩ : Addr).add (j * ei.size)))) (by unfold execOp; rw [ho]) ?_) (rep_pub.2 ⟨m1, b, off + j * ei.size, by rw [addr_add], ?_⟩)
          · rw [k1]; exact h2
          · exact m2
      | rs id ver =>
        obtain ⟨ob, hob, hd⟩ := some_bind hd
        split at hd
        · rename_i t' es p u
          obtain ⟨j, hj, hd⟩ := some_bind hd
          obtain ⟨hq, hd⟩ := bif_some hd
          cases hd
          simp only [Bool.and_eq_true] at hq
          have hu : u = ver := Nat.eq_of_beq_eq_true hq.1
          subst hu
          obtain ⟨k5, _⟩ := rep_rs.1 hrx
          obtain ⟨hdr, vals, n1, n2, _⟩ := hh.obj id _ hob
          rw [n1] at k5; cases k5
          obtain ⟨kk, hkk, hlt⟩ := idx_some hj hri
          rcases n2.2 with ⟨n3, n4⟩ | ⟨g, cap, cur, n3, _⟩
          · omega
          · have h2 := indexAt_slice (P := P) (w := w) (c := cap) (A := ⟨g, 0, none⟩) (hE t ti hti) hk (hE e ei hei) hri hj
            refine OpRes.pure hh (run_w (v := .pointer (some ((⟨g, 0, none⟩ : Addr).add (j * ei.size)))) (by unfold execOp; rw [ho]) ?_) (rep_rptr.2 ⟨g, es.length, cap, by rw [n1, n3], by rw [addr_add]; simp⟩)
            rw [n3]; exact h2
        · cases hd
      | _ => cases hd
    | _ => rw [hk] at hd; cases hd
  | index t x i =>
    rw [ho] at hd; simp only [evOp] at hd
    obtain ⟨ti, hti, hd⟩ := some_bind hd
    obtain ⟨dx, hx, hd⟩ := some_bind hd
    obtain ⟨di, hi, hd⟩ := some_bind hd
    have : ∃ d, (match ti.k, dx with
      | .array len e, .agg cs => (E.ty e).bind fun ei => (idxOf len di).bind fun i => partOf ei cs (i * ei.size)
      | .string, .str s => (idxOf s.size di).bind fun i => (s[i]?).bind fun b => some (.int .u8 b.toNat)
      | _, _ => none) = some d ∧ r = ⟨some d, []⟩ := by
      cases hk2 : ti.k with
      | array len e =>
        rw [hk2] at hd
        cases dx with
        | agg cs =>
          obtain ⟨ei, hei, hd⟩ := some_bind hd
          obtain ⟨j, hj, hd⟩ := some_bind hd
          obtain ⟨d, h1, hd⟩ := some_bind hd
          cases hd
          exact ⟨d, by simp [hei, hj, h1], rfl⟩
        | _ => cases hd
      | string =>
        rw [hk2] at hd
        cases dx with
        | str s =>
          obtain ⟨j, hj, hd⟩ := some_bind hd
          obtain ⟨d, h1, hd⟩ := some_bind hd
          cases hd
          exact ⟨_, by simp [hj, h1], rfl⟩
        | _ => cases hd
      | _ => rw [hk2] at hd; cases hd
    obtain ⟨d, h1, rfl⟩ := this
    obtain ⟨v, h2, h3⟩ := index_sound (P := P) (w := w) hE (hE t ti hti) h1 (eval_rep hf hx) (eval_rep hf hi)
    exact OpRes.pure hh (run_w (by unfold execOp; rw [ho]) h2) h3
  | lookup t m k ok =>
    rw [ho] at hd; simp only [evOp] at hd
    obtain ⟨ti, hti, hd⟩ := some_bind hd
    obtain ⟨dm, hm, hd⟩ := some_bind hd
    obtain ⟨dk, hk, hd⟩ := some_bind hd
    split at hd
    · rename_i kt e hkk
      obtain ⟨ei, hei, hd⟩ := some_bind hd
      obtain ⟨ki, hki, hd⟩ := some_bind hd
      obtain ⟨hq, hd⟩ := bif_some hd
      simp only [Bool.and_eq_true, Bool.not_eq_true'] at hq
      obtain ⟨⟨hq1, hq2⟩, hq3⟩ := hq
      obtain ⟨es, hes, hd⟩ := some_bind hd
      obtain ⟨q, hfind, hd⟩ := some_bind hd
      have hz1 : ∃ z, ei.zero = [z] := by
        obtain ⟨i, zv, _, _, _, _, hzs, hzr⟩ := (hE e ei hei).info
        have := repL_len (hzr β G)
        have hsz : ei.size = 1 := Nat.eq_of_beq_eq_true hq2
        have h1 : ei.zero.length = 1 := by simp at this; omega
        exact List.length_eq_one_iff.1 h1
      obtain ⟨z, hz⟩ := hz1
      obtain ⟨v, h2, h3⟩ := lookup_sound (P := P) (w := w) hE hh (hE t ti hti) hkk (hE e ei hei) (hE kt ki hki) (eval_rep hf hk) hq1 hes hfind hz (Nat.eq_of_beq_eq_true hq2) hq3 ok (eval_rep hf hm)
      rw [hz] at hd
      cases q with
      | some d => cases hd; exact OpRes.pure hh (run_w (by unfold execOp; rw [ho]) h2) h3
      | none => cases hd; exact OpRes.pure hh (run_w (by unfold execOp; rw [ho]) h2) h3
    · cases hd
  | mapUpdate t m k x =>
    rw [ho] at hd; simp only [evOp] at hd
    obtain ⟨ti, hti, hd⟩ := some_bind hd
    obtain ⟨dm, hm, hd⟩ := some_bind hd
    obtain ⟨dk, hk, hd⟩ := some_bind hd
    obtain ⟨dx, hx, hd⟩ := some_bind hd
    cases hkk : ti.k with
    | map kt e =>
      rw [hkk] at hd
      cases dm with
      | map id =>
        obtain ⟨ki, hki, hd⟩ := some_bind hd
        obtain ⟨ob, hob, hd⟩ := some_bind hd
        split at hd
        · rename_i es
          obtain ⟨hq, hd⟩ := bif_some hd
          simp only [Bool.and_eq_true] at hq
          obtain ⟨es', hes, hd⟩ := some_bind hd
          cases hd
          obtain ⟨w', h2, h3, h4⟩ := mapUpdate_sound (P := P) (nid := nid) hh (hE t ti hti) hkk (hE kt ki hki) (eval_rep hf hm) (eval_rep hf hk) (eval_rep hf hx) hq.2 hq.1.1 hob hes
          exact ⟨.skip, undef, w', β, G, run_u (by unfold execOp; rw [ho]) h2, .inr ⟨rfl, rfl⟩, fun d hd => by cases hd; exact rep_undef, Ext.refl β G, h3, h4⟩
        · cases hd
      | _ => cases hd
    | _ => rw [hkk] at hd; cases hd
  | range t x =>
    rw [ho] at hd; simp only [evOp] at hd
    obtain ⟨ti, hti, hd⟩ := some_bind hd
    obtain ⟨dx, hx, hd⟩ := some_bind hd
    have hdesc := (hE t ti hti).desc
    have hr := eval_rep hf hx
    cases hk : ti.k with
    | string =>
      rw [hk] at hd hdesc
      cases dx with
      | str s =>
        rw [rep_str] at hr
        cases hd
        obtain ⟨β', h1, h2, h3, h4⟩ := siter_lay hh hfr s
        refine ⟨_, .pointer (some ⟨w.heap.size, 0, none⟩), _, β', G, run_w (by unfold execOp; rw [ho]) ?_, .inl rfl, fun d hd => by cases hd; exact rep_iter.2 ⟨_, h2, rfl⟩, h1, h3, h4⟩
        simp [Instr.range, Go.run_underlying hdesc, hr]
      | _ => cases hd
    | _ => rw [hk] at hd; cases hd
  | next it s =>
    cases s with
    | false => rw [ho] at hd; simp [evOp] at hd
    | true =>
      rw [ho] at hd; simp only [evOp] at hd
      obtain ⟨d, h1, hd⟩ := some_bind hd
      split at hd
      · rename_i id
        obtain ⟨ob, hob, hd⟩ := some_bind hd
        split at hd
        · rename_i s pos
          obtain ⟨b, hb, hv⟩ := rep_iter.1 (eval_rep hf h1)
          obtain ⟨b', hb', hw⟩ := hh.obj id _ hob
          rw [hb] at hb'; cases hb'
          by_cases hp : pos < s.size
          · simp only [hp, decide_true, cond_true] at hd
            cases hd
            have hh' := turn_obj (o' := .siter s (pos + (Utf8.decode s pos).2)) (ob' := .stringIter s (pos + (Utf8.decode s pos).2)) hh hob hb hw (by simp) (fun x hx => by simp [Owns] at hx; rw [hb] at hx; cases hx; rfl)
              ⟨b, hb, by simp [World.putObj_heap_same (Array.getElem?_eq_some_iff.1 hw).1]⟩
            refine ⟨_, .tuple #[.bool true, .int .i64 (pos : Nat), .int .i32 (Utf8.decode s pos).1], _, β, G, run_w (by unfold execOp; rw [ho]) ?_, .inl rfl, fun d hd => ?_, Ext.refl β G, hh', kept_same hob⟩
            · simp [Instr.next, hv, run_getObj_siter hw, hp, goInt, run_setObj_any (P := P) hw (by simp), Result.andThen]
            · cases hd
              exact rep_tup.2 ⟨[.bool true, .int .i64 (pos : Nat), .int .i32 (Utf8.decode s pos).1], rfl, repL_cons.2 ⟨_, _, rfl, rep_bool.2 rfl, repL_cons.2 ⟨_, _, rfl, rep_int.2 rfl, repL_cons.2 ⟨_, _, rfl, rep_int.2 rfl, repL_nil.2 rfl⟩⟩⟩⟩
          · simp only [hp, decide_false, cond_false] at hd
            cases hd
            refine OpRes.pure hh (run_w (v := .tuple #[.bool false]) (by unfold execOp; rw [ho]) ?_) (rep_tup.2 ⟨[.bool false], rfl, repL_cons.2 ⟨_, _, rfl, rep_bool.2 rfl, repL_nil.2 rfl⟩⟩)
            simp [Instr.next, hv, run_getObj_siter hw, hp, Result.andThen]
        · cases hd
      · cases hd
  | extract t i =>
    rw [ho] at hd; simp only [evOp] at hd
    obtain ⟨dx, hx, hd⟩ := some_bind hd
    split at hd
    · rename_i vs
      obtain ⟨d, h1, hd⟩ := some_bind hd
      cases hd
      obtain ⟨us, he, hr⟩ := rep_tup.1 (eval_rep hf hx)
      obtain ⟨v, h2, h3⟩ := repL_get hr h1
      refine OpRes.pure hh (run_w (v := v) (by unfold execOp; rw [ho]) ?_) h3
      simp [Instr.extract, he, h2]
    · cases hd
  | _ => rw [ho] at hd; simp [evOp] at hd

end
end Go.Ab
