/- Code: what the evaluator answers the machine does. -/
import Derived.Test.YtehofdemanfenaaAb28
import Derived.RangeFuncIn
namespace Go.Ab
open Go.RowKit

def exOf : Ex → Exit
  | .normal => .normal
  | .exit id => .exit id
  | .ret => .ret
  | .busy => .outgrown

section
variable {P : Program} {E : Env} {w0 : World} {G0 : Gh} {outer : DD} {own : List Nat} {D : DD} {V nt : Nat} {a : Act} {w : World} {β : Bi} {G : Gh} {ro : Option Nat} {n : Nat} {h : Nat → Option AObj}

theorem then_other {next : Act → World → Prop} {Q : Exit → Act → World → Prop} {ex : Ex} (hne : ex ≠ .normal) : Exit.then next Q (exOf ex) a w = Q (exOf ex) a w := by
  cases ex <;> first | rfl | exact absurd rfl hne

theorem wpIn_scope_straight {F : Fence} {c : Code} {Q : Exit → Act → World → Prop} (h : c.wpIn F n P (fun e a w => match e with | .goto _ => False | e => Q e a w) a w) : (Code.scope c).wpIn F n P Q a w := by
  intro b k cs hro hb hr
  have h0 : (lone (b.atR a (.code (.scope c) :: k)) cs w).fenced P F := fenced_calm hb hr rfl
  have s1 : step P (lone (b.atR a (.code (.scope c) :: k)) cs w) = .next (lone (b.atR a (.code c :: .inScope c :: k)) cs w) := step_lone_go (by simp [stepG, stepG.exec, Frame.atR])
  obtain ⟨e, a₁, w₁, hq, harr⟩ := h b (.inScope c :: k) cs hro hb hr
  cases e with
  | normal => exact ⟨.normal, a₁, w₁, hq, .head h0 s1 (StepsIn.trans harr (.one (fenced_calm hb hr rfl) (step_lone_go (by simp [stepG, stepG.exec, Frame.atR]))))⟩
  | exit id =>
    have hx : exitTo id (.inScope c :: k) = exitTo id k := by simp [exitTo]
    exact ⟨.exit id, a₁, w₁, hq, fun k' hk => .head h0 s1 (harr.1 k' (by rw [hx]; exact hk)),
      fun hr' hk => let ⟨k₁, h1, h2⟩ := harr.2 hr' (by rw [hx]; exact hk); ⟨k₁, h1, .head h0 s1 h2⟩⟩
  | goto l => exact hq.elim
  | ret => exact ⟨_, a₁, w₁, hq, .of_steps (.one h0 s1) harr⟩
  | panic ch => exact ⟨_, a₁, w₁, hq, .of_steps (.one h0 s1) harr⟩
  | outgrown => exact ⟨_, a₁, w₁, hq, .of_steps (.one h0 s1) harr⟩

theorem SS.mid {s : St} (hm : SS E w0 G0 outer V nt own s a w β G) (k : Nat) : MM E w0 G0 outer V nt own ⟨s.base, [], s.objs, s.next + k⟩ a w β G := by
  refine ⟨fun t d ht => ?_, hm.dom, hm.sz, hm.hr, fun id hid => hm.fresh id (by have : s.next + k ≤ id := hid; omega), hm.df⟩
  unfold slotOf at ht
  cases hv : Nat.testBit V t with
  | true => rw [hv] at ht; exact hm.fr t d ht
  | false => rw [hv] at ht; cases ht

theorem MM.st {m : Mid} (hm : MM E w0 G0 outer V nt own m a w β G) : SS E w0 G0 outer V nt own ⟨m.base, m.objs, m.next⟩ a w β G := by
  refine ⟨fun t d ht => hm.fr t d ?_, hm.dom, hm.sz, hm.hr, hm.fresh, hm.df⟩
  unfold slotOf
  rw [hm.dom t d ht]; exact ht

theorem SS.drew {s : St} (hm : SS E w0 G0 outer V nt own s a w β G) (k : Nat) : SS E w0 G0 outer V nt own s a { w with drawn := k } β G :=
  ⟨hm.fr, hm.dom, hm.sz, hm.hr.drew k, hm.fresh, hm.df⟩

/-- A block for deferred calls. -/
theorem HR.mark (hh : HR E w0 G0 D w β G h) : HR E w0 G0 (pushD [w.heap.size] D) (w.alloc (.deferred (some []))) β G h := by
  have hnew : ∀ b, b < w.heap.size → (w.alloc (.deferred (some []))).heap[b]? = w.heap[b]? := fun b hb => Below.heap_alloc w _ b hb
  refine ⟨hh.below.alloc hh.below.size _, hh.g0, fun b o v hg => ?_, fun i o hi => ?_, fun i o b hi hb => ?_, hh.inj, fun d x hd => ?_⟩
  · have hc := hh.agree b o v hg
    have hlt := block_lt_of_cell hc
    exact (World.cell?_of_block (w := w) (w' := w.alloc (.deferred (some []))) (a := ⟨b, o, none⟩) (hnew b hlt)).trans hc
  · exact ObjR.keep (Ext.refl _ _) (fun _ => rfl) (fun b hb => ⟨hnew b (hh.own i o b hi hb).2.1, fun _ => rfl⟩) (hh.obj i o hi)
  · obtain ⟨k1, k2, k3⟩ := hh.own i o b hi hb
    refine ⟨k1, by simp; omega, ?_⟩
    unfold pushD
    rw [if_neg (by simp; omega)]
    exact k3
  · unfold pushD at hd
    by_cases e : d = w.heap.size
    · subst e
      rw [if_pos (by simp)] at hd
      cases hd
      exact ⟨hh.below.size, heap_alloc_new w _, fun o => glt hh (Nat.le_refl _) o⟩
    · rw [if_neg (by simpa using e)] at hd
      obtain ⟨k1, k2, k3⟩ := hh.marks d x hd
      exact ⟨k1, (hnew d (Array.getElem?_eq_some_iff.1 k2).1).trans k2, k3⟩

/-- An object is dropped, its block turned. -/
theorem HR.drop (hh : HR E w0 G0 D w β G h) {id b : Nat} {o : AObj} {ob ob' : Obj} (ho : h id = some o) (hown : Owns β id o b) (hb : w.heap[b]? = some ob) (hnc : ∀ c t f, ob ≠ .cells c t f) :
    HR E w0 G0 D (w.putObj b ob') β G (fun i => if i = id then none else h i) := by
  obtain ⟨k1, _, k3⟩ := hh.own id o b ho hown
  have hget : ∀ i x, (if i = id then none else h i) = some x → i ≠ id ∧ h i = some x := fun i x hi => by
    by_cases e : i = id
    · rw [if_pos e] at hi; cases hi
    · rw [if_neg e] at hi; exact ⟨e, hi⟩
  have hother : ∀ i x c, i ≠ id → h i = some x → Owns β i x c → c ≠ b := fun i x c hi hx hc e => hi (hh.inj i id x o b hx ho (e ▸ hc) hown)
  refine ⟨hh.below.trans ⟨rfl, rfl, rfl, by simp, fun k hk => World.putObj_heap_other (by omega)⟩, hh.g0, fun c off v hg => ?_, fun i x hi => ?_, fun i x c hi hc => ?_, fun i j x y c hi hj hc hc' => ?_, fun d x hd => ?_⟩
  · have hc := hh.agree c off v hg
    by_cases e : c = b
    · subst e
      unfold World.cell? at hc
      rw [hb] at hc
      cases ob <;> first | cases hc | exact absurd rfl (hnc _ _ _)
    · exact (World.cell?_of_block (w := w) (w' := w.putObj b ob') (a := ⟨c, off, none⟩) (World.putObj_heap_other e)).trans hc
  · obtain ⟨hne, hx⟩ := hget i x hi
    exact ObjR.keep (Ext.refl _ _) (fun _ => rfl) (fun c hc => ⟨World.putObj_heap_other (hother i x c hne hx hc), fun _ => rfl⟩) (hh.obj i x hx)
  · obtain ⟨hne, hx⟩ := hget i x hi
    obtain ⟨m1, m2, m3⟩ := hh.own i x c hx hc
    exact ⟨m1, by simpa using m2, m3⟩
  · exact hh.inj i j x y c (hget i x hi).2 (hget j y hj).2 hc hc'
  · obtain ⟨m1, m2, m3⟩ := hh.marks d x hd
    exact ⟨m1, (World.putObj_heap_other (fun e => by rw [e, k3] at hd; cases hd)).trans m2, m3⟩

/-- What is asked behind a statement. -/
def After (E : Env) (w0 : World) (G0 : Gh) (outer : DD) (V nt : Nat) (s : St) (β : Bi) (G : Gh) (ex : Ex) (s' : St) (Q : Exit → Act → World → Prop) : Prop :=
  ∀ own' a' w' β' G', s.next ≤ s'.next → SS E w0 G0 outer V nt own' s' a' w' β' G' → Go2 s.next β G β' G' s.objs.get s'.objs.get → Q (exOf ex) a' w'

/-- In a round its loop's record is known. -/
def RndOk (rnd ro : Option Nat) (β : Bi) : Prop := match rnd with
  | none => ro = none
  | some l => ∃ b, ro = some b ∧ β.blk l = some b

theorem RndOk.mono {rnd ro : Option Nat} {β' : Bi} {G G' : Gh} (hx : Ext β G β' G') (h : RndOk rnd ro β) : RndOk rnd ro β' := by
  cases rnd with
  | none => exact h
  | some l => obtain ⟨b, h1, h2⟩ := h; exact ⟨b, h1, hx.blk _ _ h2⟩

theorem agree_go {n0 : Nat} {β β1 β' : Bi} {G G1 : Gh} {h h1 h' : Nat → Option AObj} (hf : ∀ id, n0 ≤ id → Fresh β h id) (hg : Go2 n0 β G β1 G1 h h1) (ha : Agree n0 β1 β') (hn : ∀ i, i < n0 → h1 i = none → h' i = none) : Go2 n0 β G β' G1 h h' := by
  have hlt : ∀ id b, β.blk id = some b → id < n0 := fun id b hb => by
    rcases Nat.lt_or_ge id n0 with h | h
    · exact h
    · rw [(hf id h).blk] at hb; cases hb
  have hlt2 : ∀ id u v, β.hdr id u = some v → id < n0 := fun id u v hb => by
    rcases Nat.lt_or_ge id n0 with h | h
    · exact h
    · rw [(hf id h).hdr] at hb; cases hb
  refine ⟨⟨hg.ext.g, fun id b hb => ?_, fun id u v hb => ?_⟩, fun id hid hfr => ?_⟩
  · rw [ha.blk id (hlt id b hb)]; exact hg.ext.blk id b hb
  · rw [ha.hdr id (hlt2 id u v hb)]; exact hg.ext.hdr id u v hb
  · obtain ⟨q1, q2, q3⟩ := hg.keep id hid hfr
    exact ⟨hn id hid q1, (ha.blk id hid).trans q2, fun u => (ha.hdr id hid u).trans (q3 u)⟩

/-- A loop, round by round. -/
theorem iter_sound {c : Code} {hint : Hint} {step : St → Option (Ex × St)} {rnd : Option Nat} {s0 : St} {β0 : Bi} {Gx : Gh} (hf0 : ∀ id, s0.next ≤ id → Fresh β0 s0.objs.get id)
    (hstep : ∀ s ex s', step s = some (ex, s') → ∀ own a w β G Q, RndOk rnd ro β → SS E w0 G0 outer V nt own s a w β G → After E w0 G0 outer V nt s β G ex s' Q → c.wpIn (fw ro) n P Q a w) {ex : Ex} {s' : St} {Q : Exit → Act → World → Prop}
    (hr0 : RndOk rnd ro β0) (hq : After E w0 G0 outer V nt s0 β0 Gx ex s' Q) :
    ∀ (m : Nat) (s : St) (own : List Nat) (a : Act) (w : World) (β : Bi) (G : Gh), iter (norm E hint s0.next) step m s = some (ex, s') → SS E w0 G0 outer V nt own s a w β G → Go2 s0.next β0 Gx β G s0.objs.get s.objs.get → Code.roundsIn (fw ro) n P c Q m a w
  | 0, s, own, a, w, β, G, h, _, _ => by cases h
  | m + 1, s, own, a, w, β, G, h, hm, hg => by
    simp only [iter] at h
    obtain ⟨s1, hn, h⟩ := some_bind h
    obtain ⟨⟨ex1, s2⟩, hs, h⟩ := some_bind h
    obtain ⟨β1, hm1, hag, hnone, hle⟩ := norm_sound hn hm
    have hg1 := agree_go hf0 hg hag hnone
    rw [roundsIn_succ]
    refine hstep s1 ex1 s2 hs own a w β1 G _ (hr0.mono hg1.ext) hm1 fun own' a' w' β' G' hl hm2 hg2 => ?_
    have hg3 := hg1.trans (hg2.less hle)
    cases ex1 with
    | normal => exact iter_sound hf0 hstep hr0 hq m s2 own' a' w' β' G' h hm2 hg3
    | _ =>
      simp only [Option.some.injEq, Prod.mk.injEq] at h
      obtain ⟨rfl, rfl⟩ := h
      exact hq own' a' w' β' G' (by omega) hm2 hg3

/-- The head of a range over a function. -/
theorem hint_sound {hints : List Hint} {bid : Nat} {s0 s : St} (h : (match (hints.find? fun h => Nat.beq h.bid bid : Option Hint) with
      | some hint => (nilRows E s0.next 0 hint.accs (s0.base, s0.objs)).bind fun r => some (St.mk r.1 r.2 (s0.next + hint.accs.length))
      | none => some s0) = some s) (hm : SS E w0 G0 outer V nt own s0 a w β G) : ∃ β', SS E w0 G0 outer V nt own s a w β' G ∧ Go2 s0.next β G β' G s0.objs.get s.objs.get ∧ s0.next ≤ s.next := by
  split at h
  · rename_i hint _
    obtain ⟨r, hr, h⟩ := some_bind h
    cases h
    obtain ⟨β', k1, k2, k3, k4, k5, k6, k7⟩ := nilRows_sound a.tmps V hint.accs 0 s0.base s0.objs β r hr hm.hr hm.fr hm.dom (fun i hi _ => hm.fresh i hi) (fun i hi => (hm.fresh i (by omega)).h)
    refine ⟨β', ⟨k4, k5, hm.sz, k3, fun i hi => k6 i (by simpa using hi), hm.df⟩, ⟨k1, fun id hid hf => ⟨k7 id hid hf, k2.blk id hid, fun u => k2.hdr id hid u⟩⟩, by show s0.next ≤ s0.next + hint.accs.length; omega⟩
  · cases h
    exact ⟨β, hm, Go2.refl _ _ _ _, Nat.le_refl _⟩

theorem enter_sound {s : St} {fid : Nat} {F : FI} (hF : E.fn fid = some F) (hm : SS E w0 G0 outer F.vmask F.nt own s a w β G) (hro : ∀ b, ro = some b → ∃ r, w.heap[b]? = some (.loop r)) (fn : FuncId) (ps : Array Tmp) (assign body : Code) (bid : Nat) :
    ∃ l mark w1 own1 β2, (Instr.enterLoop fn a.tmps ps assign body ro).run P w = .ok (l, mark) w1 ∧ (mark ++ a.defers = own1.map markOf ∧ ApartD own1 outer) ∧ Ext β G β2 G ∧ β2.blk s.next = some l ∧
      HR E w0 G0 (pushD own1 outer) w1 β2 G (updF s.objs.get [(s.next, some (.loop fid s.base ps.toList assign body bid .normal))]) ∧ Kept β β2 s.objs.get (updF s.objs.get [(s.next, some (.loop fid s.base ps.toList assign body bid .normal))]) s.next := by
  have hfr := hm.fresh s.next (Nat.le_refl _)
  have hob : ∀ (w' : World) (D : DD) (df : Nat), HR E w0 G0 D w' β G s.objs.get → ∀ β', Ext β G β' G → β'.blk s.next = some w'.heap.size →
      ObjR E w0.heap.size (w'.alloc (.loop { state := .ready, pending := none, fn, tmps := a.tmps, params := ps, assign, body, defers := df })) β' G s.next (.loop fid s.base ps.toList assign body bid .normal) := fun w' D df _ β' hx hb =>
    ⟨_, a.tmps, df, fn, F, hb, by rw [heap_alloc_new]; simp [jumpOf], hm.fr.mono hx, hF, hm.sz, hm.dom⟩
  cases ro with
  | none =>
    have hh1 := hm.hr.mark
    obtain ⟨β2, h1, h2, h3, h4⟩ := hh1.lay hfr (.loop { state := .ready, pending := none, fn, tmps := a.tmps, params := ps, assign, body, defers := w.heap.size }) (.loop fid s.base ps.toList assign body bid .normal) (by simp) (hob _ _ _ hh1)
    refine ⟨w.heap.size + 1, [markOf w.heap.size], _, w.heap.size :: own, β2, run_enterLoop_outer fn a.tmps ps assign body, ⟨by simp [hm.df.1], List.nodup_cons.2 ⟨(pushD_none (hm.hr.dfree (Nat.le_refl _))).1, hm.df.2.1⟩, fun b hb => ?_⟩, h1, by simpa using h2, by rw [pushD_cons_eq]; exact h3, h4⟩
    rcases List.mem_cons.1 hb with rfl | hb
    · exact (pushD_none (hm.hr.dfree (Nat.le_refl _))).2
    · exact hm.df.2.2 b hb
  | some b =>
    obtain ⟨r, hr⟩ := hro b rfl
    obtain ⟨β2, h1, h2, h3, h4⟩ := hm.hr.lay hfr (.loop { state := .ready, pending := none, fn, tmps := a.tmps, params := ps, assign, body, defers := r.defers }) (.loop fid s.base ps.toList assign body bid .normal) (by simp) (hob _ _ _ hm.hr)
    refine ⟨w.heap.size, [], _, own, β2, ?_, ⟨by simp [hm.df.1], hm.df.2⟩, h1, h2, h3, h4⟩
    unfold Instr.enterLoop
    simp only [Sem.run_bind, run_getLoop hr, run_newObj_alloc, Result.andThen, Sem.run_pure]

theorem ss_keep {E : Env} {w0 : World} {G0 : Gh} {outer : DD} {own : List Nat} {V nt m : Nat} {s : St} {a : Act} {w : World} {β : Bi} {G : Gh} (h : SS E w0 G0 outer V nt own s a w β G) : SS E w0 G0 outer V nt own (s.keep m) a w β G :=
  ⟨fun t d ht => h.fr t d (Tr.filt_sub ht), fun t d ht => h.dom t d (Tr.filt_sub ht), h.sz, h.hr, h.fresh, h.df⟩

theorem keepX_same (F : FI) (id : Nat) (s : St) : (s.keepX F id).objs = s.objs ∧ (s.keepX F id).next = s.next := by
  unfold St.keepX
  cases F.xm.find? fun p => Nat.beq p.1 id <;> exact ⟨rfl, rfl⟩

theorem ss_keepX {E : Env} {w0 : World} {G0 : Gh} {outer : DD} {own : List Nat} {V nt : Nat} {F : FI} {id : Nat} {s : St} {a : Act} {w : World} {β : Bi} {G : Gh} (h : SS E w0 G0 outer V nt own s a w β G) : SS E w0 G0 outer V nt own (s.keepX F id) a w β G := by
  unfold St.keepX
  cases F.xm.find? fun p => Nat.beq p.1 id with
  | none => exact h
  | some p => exact ss_keep h

theorem evC_sound (hE : ∀ t ti, E.ty t = some ti → TyOk P t ti) (hmix : P.follows .mixedOrders = true) {call : Nat → List DV → Option DV} (hp : PureOk P call) {callH callY : CallH} (hH : HeapOk P E callH) (hY : YieldOk P E callY)
    {rnd : Option Nat} {fid : Nat} {F : FI} (hF : E.fn fid = some F) (fuel : Nat) : ∀ (c : Code) (bid : Nat) (s : St) (ex : Ex) (s' : St), evC E rnd fid F call callH callY fuel bid c s = some (ex, s') →
      ∀ (own : List Nat) (a : Act) (w : World) (β : Bi) (G : Gh) (Q : Exit → Act → World → Prop), RndOk rnd ro β → SS E w0 G0 outer F.vmask F.nt own s a w β G → After E w0 G0 outer F.vmask F.nt s β G ex s' Q → c.wpIn (fw ro) n P Q a w := by
  intro c
  induction c with
  | skip =>
    intro bid s ex s' h own a w β G Q _ hm hq
    simp only [evC, Option.some.injEq, Prod.mk.injEq] at h
    obtain ⟨rfl, rfl⟩ := h
    exact wpIn_skip (hq own a w β G (Nat.le_refl _) hm (Go2.refl _ _ _ _))
  | label l =>
    intro bid s ex s' h own a w β G Q _ hm hq
    simp only [evC, Option.some.injEq, Prod.mk.injEq] at h
    obtain ⟨rfl, rfl⟩ := h
    exact wpIn_label (hq own a w β G (Nat.le_refl _) hm (Go2.refl _ _ _ _))
  | ret =>
    intro bid s ex s' h own a w β G Q _ hm hq
    simp only [evC, Option.some.injEq, Prod.mk.injEq] at h
    obtain ⟨rfl, rfl⟩ := h
    exact wpIn_ret (hq own a w β G (Nat.le_refl _) (ss_keep hm) (Go2.refl _ _ _ _))
  | exit id =>
    intro bid s ex s' h own a w β G Q _ hm hq
    simp only [evC, Option.some.injEq, Prod.mk.injEq] at h
    obtain ⟨rfl, rfl⟩ := h
    refine wpIn_exit (hq own a w β G ?_ ?_ ?_)
    · rw [(keepX_same F id s).2]; exact Nat.le_refl _
    · exact ss_keepX hm
    · rw [(keepX_same F id s).1]; exact Go2.refl _ _ _ _
  | scope c ih =>
    intro bid s ex s' h own a w β G Q hr hm hq
    simp only [evC] at h
    refine wpIn_scope_straight (ih bid s ex s' h own a w β G _ hr hm fun own' a' w' β' G' h1 h2 h3 => ?_)
    have := hq own' a' w' β' G' h1 h2 h3
    cases ex <;> exact this
  | block id c ih =>
    intro bid s ex s' h own a w β G Q hr hm hq
    simp only [evC] at h
    obtain ⟨⟨ex1, s1⟩, h1, h⟩ := some_bind h
    refine wpIn_block (ih id s ex1 s1 h1 own a w β G _ hr hm fun own' a' w' β' G' k1 k2 k3 => ?_)
    cases ex1 with
    | exit i =>
      simp only [exOf, Exit.inBlock]
      simp only [Tr.beq_dec] at h
      by_cases e : i = id
      · simp only [e, decide_true, cond_true, Option.some.injEq, Prod.mk.injEq] at h
        obtain ⟨rfl, rfl⟩ := h
        rw [if_pos e]
        exact hq own' a' w' β' G' k1 k2 k3
      · simp only [e, decide_false, cond_false, Option.some.injEq, Prod.mk.injEq] at h
        obtain ⟨rfl, rfl⟩ := h
        rw [if_neg e]
        exact hq own' a' w' β' G' k1 k2 k3
    | _ =>
      simp only [Option.some.injEq, Prod.mk.injEq] at h
      obtain ⟨rfl, rfl⟩ := h
      exact hq own' a' w' β' G' k1 k2 k3
  | seq x y ihx ihy =>
    intro bid s ex s' h own a w β G Q hr hm hq
    simp only [evC] at h
    obtain ⟨⟨ex1, s1⟩, h1, h⟩ := some_bind h
    refine wpIn_seq (ihx bid s ex1 s1 h1 own a w β G _ hr hm fun own' a' w' β' G' k1 k2 k3 => ?_)
    cases ex1 with
    | normal =>
      refine ihy bid s1 ex s' h own' a' w' β' G' Q (hr.mono k3.ext) k2 fun own'' a'' w'' β'' G'' m1 m2 m3 => ?_
      exact hq own'' a'' w'' β'' G'' (Nat.le_trans k1 m1) m2 (k3.trans (m3.less k1))
    | _ =>
      simp only [Option.some.injEq, Prod.mk.injEq] at h
      obtain ⟨rfl, rfl⟩ := h
      exact hq own' a' w' β' G' k1 k2 k3
  | cond x c d ihc ihd =>
    intro bid s ex s' h own a w β G Q hr hm hq
    simp only [evC] at h
    split at h
    · rename_i t ht
      have hv := rep_bool.1 (eval_rep hm.fr ht)
      cases t with
      | true => exact wpIn_cond hv (ihc bid s ex s' h own a w β G Q hr hm hq)
      | false => exact wpIn_cond hv (ihd bid s ex s' h own a w β G Q hr hm hq)
    · cases h
  | loop c ih =>
    intro bid s ex s' h own a w β G Q hr hm hq
    simp only [evC] at h
    obtain ⟨hint, _, h⟩ := some_bind h
    exact wpIn_loop_rounds fuel (iter_sound (rnd := rnd) hm.fresh (fun s1 ex1 s2 h1 own1 a1 w1 β1 G1 Q1 r1 m1 q1 => ih bid s1 ex1 s2 h1 own1 a1 w1 β1 G1 Q1 r1 m1 q1) hr hq fuel s own a w β G h hm (Go2.refl _ _ _ _))
  | region id ops draw =>
    intro bid s ex s' h own a w β G Q hr hm hq
    simp only [evC] at h
    obtain ⟨s1, h1, h⟩ := some_bind h
    simp only [Option.some.injEq, Prod.mk.injEq] at h
    obtain ⟨rfl, rfl⟩ := h
    unfold evRegion at h1
    obtain ⟨mf, h2, h1⟩ := some_bind h1
    cases h1
    cases draw with
    | false =>
      refine wpIn_region_list (seq_sound hE hp hH hY ops.toList 0 _ mf a w β G h2 (by simp) (fun j _ _ => hm.fresh _ (by omega)) (hm.mid ops.size) fun a' w' β' G' k1 k2 k3 => ?_)
      exact hq own a' w' β' G' (Nat.le_trans (Nat.le_add_right _ _) k1) k2.st k3
    | true =>
      refine wpIn_region_any hmix (draw_sound hE hp hH hY h2 (Nat.le_refl _) (fun j _ => hm.fresh _ (by omega)) ((hm.drew _).mid ops.size) fun a' w' β' G' k1 k2 k3 => ?_)
      exact hq own a' w' β' G' (Nat.le_trans (Nat.le_add_right _ _) k1) k2.st k3
  | rangeFunc f ps assign body _ _ =>
    intro bid s0 ex s' h own a w β G Q hr hm hq
    simp only [evC] at h
    obtain ⟨hin, h⟩ := bif_some h
    obtain ⟨s, hhint, h⟩ := some_bind h
    obtain ⟨β1, hm1, hg1, hle1⟩ := hint_sound hhint hm
    obtain ⟨fv, hfv, h⟩ := some_bind h
    split at h
    · rename_i g first caps
      obtain ⟨⟨rv, objs', nx'⟩, hcall, h⟩ := some_bind h
      simp only at h
      obtain ⟨hent, hcs⟩ := hH _ _ _ _ _ _ _ hcall
      obtain ⟨vf, vc, hv, hr1, hr2⟩ := rep_fn.1 (eval_rep hm1.fr hfv)
      have hro : ∀ b, ro = some b → ∃ r, w.heap[b]? = some (.loop r) := fun b hb => by
        cases rnd with
        | none => rw [show ro = none from hr] at hb; cases hb
        | some lo =>
          obtain ⟨b', e1, e2⟩ := hr
          rw [e1] at hb; cases hb
          simp only [inRound] at hin
          split at hin
          · rename_i hlo
            obtain ⟨b2, _, _, _, _, k1, k2, _⟩ := hm.hr.obj lo _ hlo
            rw [e2] at k1; cases k1
            exact ⟨_, k2⟩
          · cases hin
      refine wpIn_rangeFunc fun fn _ => ?_
      obtain ⟨l, mark, w1, own1, β2, hrun, hdf, hx2, hb2, hh2, hk2⟩ := enter_sound (P := P) (ro := ro) hF hm1 hro fn ps assign body bid
      have hget : ∀ i, (s.objs.set s.next (some (.loop fid s.base ps.toList assign body bid .normal))).get i = updF s.objs.get [(s.next, some (.loop fid s.base ps.toList assign body bid .normal))] i := fun i => by rw [Tr.get_set, updF_one]
      have hfr2 : ∀ id, id ≠ s.next → Keep1 β1 β2 s.objs.get (s.objs.set s.next (some (.loop fid s.base ps.toList assign body bid .normal))).get id := fun id hid hf => by
        obtain ⟨q1, q2, q3⟩ := hk2 id hid hf
        exact ⟨by rw [hget]; exact q1, q2, q3⟩
      have hrep : RepL β2 G (first ++ [.yld s.next] ++ caps) (vf.toArray ++ #[Value.func (.yield l) #[] #[]] ++ vc.toArray).toList := by
        have := repL_append' (repL_append' (RepL.mono hx2 _ _ hr1) (repL_cons.2 ⟨_, [], rfl, rep_yld.2 ⟨l, hb2, rfl⟩, repL_nil.2 rfl⟩)) (RepL.mono hx2 _ _ hr2)
        simpa using this
      have hC := hcs w0 G0 (pushD own1 outer) w1 β2 G _ (hh2.eq hget) (fun id hid => (hfr2 id (by omega)).fresh (hm1.fresh id (by omega))) hrep
      refine ⟨l, mark, w1, { target := .fn (.func g) vc.toArray, args := vf.toArray ++ #[.func (.yield l) #[] #[]] }, w1, g, _, w1, hrun, ?_, fun _ _ => trivial, hent _ _, fun hq => by simp [fw, Fence.wide] at hq, calls_fw (Calls.mono hC fun e w' he => ?_)⟩
      · have hcst : a.eval (.const (.func (.yield l) #[] #[])) = .func (.yield l) #[] #[] := rfl
        simp [resolve, hv, Deferred.ofValue, hcst]
      · obtain ⟨v, β3, G3, rfl, hle3, hgo3, hh3, hfr3, _⟩ := he
        split at h
        · rename_i fid' bs' ps' as' bo' bid' ex' hob
          obtain ⟨b3, tm3, df3, fn3, F3, k1, k2, _⟩ := hh3.obj s.next _ hob
          have hbl : β3.blk s.next = some l := hgo3.ext.blk _ _ hb2
          rw [hbl] at k1; cases k1
          have hdrop := hh3.drop (ob' := .loop { state := .exhausted, pending := jumpOf ex', fn := fn3, tmps := tm3, params := ps'.toArray, assign := as', body := bo', defers := df3 }) hob hbl k2 (by simp)
          have hst : (ex', ({ s with objs := objs'.set s.next none, next := nx' } : St)) = (ex, s') ∧ ex' ≠ .busy := by
            cases ex' <;> simp only [Option.some.injEq, reduceCtorEq] at h <;> exact ⟨h, by simp⟩
          obtain ⟨hst, hnb⟩ := hst
          simp only [Prod.mk.injEq] at hst
          obtain ⟨rfl, rfl⟩ := hst
          have hget3 : ∀ i, (objs'.set s.next none).get i = if i = s.next then none else objs'.get i := fun i => Tr.get_set _ _ _ _
          have hfin : ∀ id, Keep1 β3 β3 objs'.get (objs'.set s.next none).get id := fun id hf => ⟨by
            rw [hget3]
            by_cases e : id = s.next
            · rw [if_pos e]
            · rw [if_neg e]; exact hf, rfl, fun _ => rfl⟩
          have hend : (Instr.endLoop l).run P w' = .ok (jumpOf ex') (w'.putObj l (.loop { state := .exhausted, pending := jumpOf ex', fn := fn3, tmps := tm3, params := ps'.toArray, assign := as', body := bo', defers := df3 })) :=
            run_endLoop k2 (by cases ex' <;> simp at hnb ⊢)
          have hQ := hq own1 { a with defers := mark ++ a.defers } (w'.putObj l (.loop { state := .exhausted, pending := jumpOf ex', fn := fn3, tmps := tm3, params := ps'.toArray, assign := as', body := bo', defers := df3 })) β3 G3 (by show s0.next ≤ nx'; omega)
            ⟨hm1.fr.mono (hx2.trans hgo3.ext), hm1.dom, hm1.sz, hdrop.eq hget3, fun id hid => (hfin id).fresh (hfr3 id hid), hdf⟩
            (hg1.trans ⟨hx2.trans hgo3.ext, fun id hid => ((hfr2 id (by omega)).trans (hgo3.keep id (by omega))).trans (hfin id)⟩)
          refine ⟨_, _, hend, ?_⟩
          cases ex' with
          | normal => exact hQ
          | exit i => exact wpIn_exit hQ
          | ret => exact wpIn_ret hQ
          | busy => exact absurd rfl hnb
        · cases h
    · cases h
  | _ =>
    intro bid s ex s' h own a w β G Q hr hm hq
    simp [evC] at h

end
end Go.Ab
