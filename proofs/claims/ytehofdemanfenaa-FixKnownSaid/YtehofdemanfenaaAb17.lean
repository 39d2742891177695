/- What holds between two operations; what calls promise; a region in the order of its text. -/
import Derived.Test.YtehofdemanfenaaAb16
import Derived.TacticsIn
import Derived.LoopNIn
import Derived.RangeFuncLeaves
namespace Go.Ab
open Go.RowKit

/-- A fence that shuts nothing out, in a round or in none. -/
def fw (ro : Option Nat) : Fence := { Fence.wide with round := ro }

def markOf (d : Nat) : Deferred := { target := .collected d, args := #[] }

/-- From one state to a later one: what has a number below nx lies on, or lies not. -/
structure Go2 (nx : Nat) (β : Bi) (G : Gh) (β' : Bi) (G' : Gh) (h h' : Nat → Option AObj) : Prop where
  ext : Ext β G β' G'
  keep : ∀ id, id < nx → Keep1 β β' h h' id

theorem Go2.refl (nx : Nat) (β : Bi) (G : Gh) (h : Nat → Option AObj) : Go2 nx β G β G h h := ⟨Ext.refl β G, fun id _ => Keep1.refl β h id⟩
theorem Go2.trans {nx : Nat} {β β' β'' : Bi} {G G' G'' : Gh} {h h' h'' : Nat → Option AObj} (x : Go2 nx β G β' G' h h') (y : Go2 nx β' G' β'' G'' h' h'') : Go2 nx β G β'' G'' h h'' :=
  ⟨x.ext.trans y.ext, fun id hi => (x.keep id hi).trans (y.keep id hi)⟩
theorem Go2.less {nx nx' : Nat} {β β' : Bi} {G G' : Gh} {h h' : Nat → Option AObj} (x : Go2 nx β G β' G' h h') (hl : nx' ≤ nx) : Go2 nx' β G β' G' h h' := ⟨x.ext, fun id hi => x.keep id (Nat.lt_of_lt_of_le hi hl)⟩
theorem Go2.stay {nx : Nat} {β β' : Bi} {G G' : Gh} {h h' : Nat → Option AObj} (x : Go2 nx β G β' G' h h') (id : Nat) (hi : id < nx) (hf : Fresh β h id) : Fresh β' h' id := (x.keep id hi).fresh hf

/-- The state between two operations of an activation. -/
structure MI (E : Env) (w0 : World) (G0 : Gh) (outer : DD) (V nt : Nat) (own : List Nat) (ρ : Nat → Option DV) (base : Tr DV) (h : Nat → Option AObj) (nx : Nat) (a : Act) (w : World) (β : Bi) (G : Gh) : Prop where
  fr : FrM β G ρ a.tmps
  dom : ∀ t d, base.get t = some d → Nat.testBit V t = true
  sz : a.tmps.size = nt
  hr : HR E w0 G0 (pushD own outer) w β G h
  fresh : ∀ id, nx ≤ id → Fresh β h id
  df : a.defers = own.map markOf ∧ ApartD own outer

/-- A function that the machine enters. -/
def Enters (P : Program) (g : FuncId) : Prop := ∀ args w, (callFunc g args).run P w = .ok (.enter g args) w

/-- What a call of plain values promises. -/
def PureOk (P : Program) (call : Nat → List DV → Option DV) : Prop := ∀ g as d, call g as = some d → Enters P g ∧
  ∀ (w : World) (β : Bi) (G : Gh) (vs : Array Value), (∀ b o v, G b o = some v → w.cell? ⟨b, o, none⟩ = some v) → RepL β G as vs.toList → idfrees as = true →
    Calls P g vs w fun e w' => ∃ v G', e = .returned v ∧ Below w.heap.size w w' ∧ (∀ b, b < w.heap.size → G' b = G b) ∧ (∀ b o v, G' b o = some v → w'.cell? ⟨b, o, none⟩ = some v) ∧ idfree d = true ∧ Rep β G' d v

/-- What a call on the heap has left. -/
def HeapPost (E : Env) (w0 : World) (G0 : Gh) (D : DD) (β : Bi) (G : Gh) (objs : Tr AObj) (nx : Nat) (r : DV) (objs' : Tr AObj) (nx' : Nat) (e : Ending) (w' : World) : Prop :=
  ∃ v β' G', e = .returned v ∧ nx ≤ nx' ∧ Go2 nx β G β' G' objs.get objs'.get ∧ HR E w0 G0 D w' β' G' objs'.get ∧ (∀ id, nx' ≤ id → Fresh β' objs'.get id) ∧ Rep β' G' r v

def HeapOk (P : Program) (E : Env) (callH : CallH) : Prop := ∀ g as objs nx r objs' nx', callH g as objs nx = some (r, objs', nx') → Enters P g ∧
  ∀ (w0 : World) (G0 : Gh) (D : DD) (w : World) (β : Bi) (G : Gh) (vs : Array Value), HR E w0 G0 D w β G objs.get → (∀ id, nx ≤ id → Fresh β objs.get id) → RepL β G as vs.toList →
    Calls P g vs w (HeapPost E w0 G0 D β G objs nx r objs' nx')

def YieldOk (P : Program) (E : Env) (callY : CallH) : Prop := ∀ l as objs nx r objs' nx', callY l as objs nx = some (r, objs', nx') →
  ∀ (w0 : World) (G0 : Gh) (D : DD) (w : World) (β : Bi) (G : Gh) (vs : Array Value) (b : Nat), β.blk l = some b → HR E w0 G0 D w β G objs.get → (∀ id, nx ≤ id → Fresh β objs.get id) → RepL β G as vs.toList →
    ∃ lf tm as' bo, (Instr.yield b vs).run P w = .ok (.round b lf tm as' bo) w ∧ ∀ n, RoundIn Fence.wide n P b lf tm as' bo w (HeapPost E w0 G0 D β G objs nx r objs' nx')

section
variable {P : Program} {E : Env} {w0 : World} {G0 : Gh} {D : DD} {o : Oper} {a : Act} {w : World} {β : Bi} {G : Gh} {h : Nat → Option AObj} {nid : Nat} {ρ : Nat → Option DV} {ro : Option Nat} {n : Nat}

theorem calls_fw {g : FuncId} {args : Array Value} {R : Ending → World → Prop} (h : Calls P g args w R) : CallsIn (fw ro) n P g args w R := by
  have := (callsIn_wide (n := n)).2 h
  exact this

theorem round_fw {l : Nat} {f : FuncId} {tm : Array Value} {as bo : Code} {R : Ending → World → Prop} (h : RoundIn Fence.wide n P l f tm as bo w R) : RoundIn (fw ro) n P l f tm as bo w R := h

theorem HR.grow {w' : World} {G' : Gh} (hh : HR E w0 G0 D w β G h) (hb : Below w.heap.size w w') (hg : ∀ b, b < w.heap.size → G' b = G b) (hag : ∀ b o v, G' b o = some v → w'.cell? ⟨b, o, none⟩ = some v) :
    HR E w0 G0 D w' β G' h ∧ Ext β G β G' := by
  have hx : Ext β G β G' := ⟨fun b o v hq => by
    have hlt : b < w.heap.size := by
      rcases Nat.lt_or_ge b w.heap.size with h1 | h1
      · exact h1
      · rw [glt hh h1 o] at hq; cases hq
    rw [hg b hlt]; exact hq, fun _ _ h => h, fun _ _ _ h => h⟩
  refine ⟨⟨?_, ?_, hag, ?_, ?_, hh.inj, ?_⟩, hx⟩
  · exact hh.below.trans ⟨hb.os, hb.tape, hb.output, hb.size, fun k hk => hb.block k (by have := hh.below.size; omega)⟩
  · intro b hlt
    rw [← hh.g0 b hlt]; exact hg b (by have := hh.below.size; omega)
  · intro id ob ho
    refine ObjR.keep hx (fun _ => rfl) (fun b hown => ?_) (hh.obj id ob ho)
    have hlt := (hh.own id ob b ho hown).2.1
    exact ⟨hb.block b hlt, fun off => by rw [hg b hlt]⟩
  · intro id ob b ho hown
    obtain ⟨k1, k2, k3⟩ := hh.own id ob b ho hown
    exact ⟨k1, Nat.lt_of_lt_of_le k2 hb.size, k3⟩
  · intro d x hd
    obtain ⟨k1, k2, k3⟩ := hh.marks d x hd
    have hlt := (Array.getElem?_eq_some_iff.1 k2).1
    exact ⟨k1, (hb.block d hlt).trans k2, fun o => by rw [hg d hlt]; exact k3 o⟩

theorem evOp_not_defer {nid : Nat} {op : Op} {r : Out} (hd : evOp E nid ρ h op = some r) : ∀ c, op ≠ .defer c := fun c hc => by
  subst hc; simp [evOp] at hd

/-- What an operation leaves, told to the walk. -/
def StepOk (P : Program) (E : Env) (w0 : World) (G0 : Gh) (D : DD) (ro : Option Nat) (n : Nat) (o : Oper) (a : Act) (w : World) (β : Bi) (G : Gh) (h : Nat → Option AObj) (nid : Nat) (r : Out) : Prop :=
  ∀ (K : Act → World → Prop) (Q : Exit → Act → World → Prop), (∀ v w' β' G', (∀ d, r.val = some d → Rep β' G' d v) → Ext β G β' G' → HR E w0 G0 D w' β' G' (updF h r.upd) → Kept β β' h (updF h r.upd) nid → K (a.put o.dst v) w') → o.wpIn (fw ro) n P a w K Q

theorem OpRes.step {r : Out} (hnd : ∀ c, o.op ≠ .defer c) (hr : OpRes P E w0 G0 D o a w β G h nid r) : StepOk P E w0 G0 D ro n o a w β G h nid r := fun K Q hk => by
  obtain ⟨nx, v, w', β', G', h1, h2, h3, h4, h5, h6⟩ := hr
  refine ⟨fun f _ => trivial, ?_⟩
  rw [Oper.semAt_eq _ _ _ hnd, h1]
  rcases h2 with rfl | ⟨rfl, rfl⟩
  · rw [Oper.uponIn_value]; exact hk v w' β' G' h3 h4 h5 h6
  · rw [Oper.uponIn_skip]; exact hk undef w' β' G' h3 h4 h5 h6

theorem repL_append' {ds es : List DV} {as bs : List Value} (h1 : RepL β G ds as) (h2 : RepL β G es bs) : RepL β G (ds ++ es) (as ++ bs) := repL_append.2 ⟨as, bs, rfl, h1, h2⟩

/-- The machine at a call of a function value. -/
theorem target_fn (hE : ∀ t ti, E.ty t = some ti → TyOk P t ti) (hf : FrM β G ρ a.tmps) {c : Call} {g : FuncId} {x y : List DV} {as : List DV} (ho : o.op = .call c) (ht : target E ρ c = some (.fn (.func g) x y, as)) (he : Enters P g) :
    ∃ vs : Array Value, (execOp a.eval o).run P w = .ok (.enter g vs) w ∧ RepL β G as vs.toList := by
  unfold target at ht
  split at ht
  · rename_i f hc
    obtain ⟨df, h1, ht⟩ := some_bind ht
    split at ht
    · rename_i g' first caps
      obtain ⟨as', h2, ht⟩ := some_bind ht
      cases ht
      obtain ⟨vf, vc, hv, hr1, hr2⟩ := rep_fn.1 (eval_rep hf h1)
      refine ⟨vf.toArray ++ c.args.map a.eval ++ vc.toArray, ?_, ?_⟩
      · unfold execOp; rw [ho]
        have h9 := he (vf.toArray ++ c.args.map a.eval ++ vc.toArray) w
        simpa [resolve, hc, hv, Deferred.ofValue, invoke] using h9
      · have := repL_append' (repL_append' hr1 (evals_rep hf h2)) hr2
        simpa using this
    · obtain ⟨as', h2, ht⟩ := some_bind ht
      cases ht
    · cases ht
  · rename_i rv m hc
    obtain ⟨df, h1, ht⟩ := some_bind ht
    split at ht
    · rename_i t v
      obtain ⟨ti, hti, ht⟩ := some_bind ht
      obtain ⟨g', hg, ht⟩ := some_bind ht
      obtain ⟨as', h2, ht⟩ := some_bind ht
      cases ht
      obtain ⟨u, hu, hr⟩ := rep_iface.1 (eval_rep hf h1)
      refine ⟨#[u] ++ c.args.map a.eval, ?_, ?_⟩
      · unfold execOp; rw [ho]
        have h8 := (hE t ti hti).meth m g hg u (c.args.map a.eval) w
        have h9 := he (#[u] ++ c.args.map a.eval) w
        rw [h9] at h8
        have h10 : (#[Value.iface t u] ++ c.args.map a.eval).extract 1 (#[Value.iface t u] ++ c.args.map a.eval).size = c.args.map a.eval := by
          rw [Array.extract_append]
          simp
        have h11 : (#[Value.iface t u] ++ c.args.map a.eval)[0]? = some (.iface t u) := by
          rw [Array.getElem?_append_left (by simp)]; rfl
        simp only [resolve, hc, hu]
        show ((Pure.pure ({ target := .fn (.method m) #[], args := #[Value.iface t u] ++ c.args.map a.eval } : Deferred) : Sem Deferred) >>= fun d => invoke d.target d.args).run P w = _
        simp only [pure_bind]
        unfold invoke
        simp only [h11, h10]
        exact h8
      · have := repL_cons.2 ⟨u, _, rfl, hr, evals_rep hf h2⟩
        simpa using this
    · cases ht
  · cases ht

theorem target_yld (hf : FrM β G ρ a.tmps) {c : Call} {l : Nat} {as : List DV} (ho : o.op = .call c) (ht : target E ρ c = some (.yld l, as)) :
    ∃ (vs : Array Value) (b : Nat), β.blk l = some b ∧ execOp a.eval o = Instr.yield b vs ∧ RepL β G as vs.toList := by
  unfold target at ht
  split at ht
  · rename_i f hc
    obtain ⟨df, h1, ht⟩ := some_bind ht
    split at ht
    · obtain ⟨as', h2, ht⟩ := some_bind ht
      cases ht
    · rename_i id
      obtain ⟨as', h2, ht⟩ := some_bind ht
      cases ht
      obtain ⟨b, hb, hv⟩ := rep_yld.1 (eval_rep hf h1)
      refine ⟨c.args.map a.eval, b, hb, ?_, by simpa using evals_rep hf h2⟩
      unfold execOp; rw [ho]
      simp [resolve, hc, hv, Deferred.ofValue, invoke]
    · cases ht
  · obtain ⟨df, h1, ht⟩ := some_bind ht
    split at ht
    · obtain ⟨ti, hti, ht⟩ := some_bind ht
      obtain ⟨g', hg, ht⟩ := some_bind ht
      obtain ⟨as', h2, ht⟩ := some_bind ht
      cases ht
    · cases ht
  · cases ht

theorem isCall_some {op : Op} {c : Call} (h : isCall op = some c) : op = .call c := by
  unfold isCall at h
  split at h
  · split at h
    · cases h; rfl
    · cases h; rfl
    · cases h
  · cases h

theorem evCall_sound (hE : ∀ t ti, E.ty t = some ti → TyOk P t ti) {call : Nat → List DV → Option DV} (hp : PureOk P call) (hf : FrM β G ρ a.tmps) (hh : HR E w0 G0 D w β G h) {c : Call} (ho : o.op = .call c) {r : Out} (hd : evCall E call ρ h c = some r) :
    StepOk P E w0 G0 D ro n o a w β G h nid r := fun K Q hk => by
  unfold evCall at hd
  obtain ⟨tg, ht, hd⟩ := some_bind hd
  split at hd
  · rename_i g x y as
    obtain ⟨fs, hfs, hd⟩ := some_bind hd
    obtain ⟨d, hcall, hd⟩ := some_bind hd
    cases hd
    obtain ⟨hent, hcs⟩ := hp g fs d hcall
    obtain ⟨vs, hrun, hrep⟩ := target_fn (w := w) hE hf ho ht hent
    obtain ⟨G1, hx1, hh1, hs1⟩ := show_rows hh (rowsOfs as)
    obtain ⟨hr1, hid⟩ := frzs_rep hx1 (show_same h _) hfs hs1 hrep
    have hC := hcs w β G1 vs hh1.agree hr1 hid
    refine ⟨fun f _ => trivial, ?_⟩
    rw [Oper.semAt_eq _ _ _ (by rw [ho]; simp), hrun, Oper.uponIn_enter]
    refine ⟨fun hq => by simp [fw, Fence.wide] at hq, calls_fw (Calls.mono hC fun e w' he => ?_)⟩
    obtain ⟨v, G', rfl, hb, hg, hag, _, hrv⟩ := he
    obtain ⟨hh2, hx2⟩ := hh1.grow hb hg hag
    refine hk v w' β G' (fun d' hd' => by cases hd'; exact hrv) (hx1.trans hx2) hh2 (show_kept _)
  · cases hd

theorem evAny_sound (hE : ∀ t ti, E.ty t = some ti → TyOk P t ti) {call : Nat → List DV → Option DV} (hp : PureOk P call) (hf : FrM β G ρ a.tmps) (hh : HR E w0 G0 D w β G h) (hfr : Fresh β h nid) {r : Out}
    (hd : evAny E call nid ρ h o.op = some r) : StepOk P E w0 G0 D ro n o a w β G h nid r := by
  unfold evAny at hd
  split at hd
  · rename_i c hc
    exact evCall_sound hE hp hf hh (isCall_some hc) hd
  · exact (evOp_sound hE hf hh hfr hd).step (evOp_not_defer hd)

end
end Go.Ab
