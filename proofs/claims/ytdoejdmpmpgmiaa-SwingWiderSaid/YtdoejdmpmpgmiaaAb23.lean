/- Functions: what the evaluator answers a call answers. -/
import Derived.Test.YtdoejdmpmpgmiaaAb22
set_option linter.unusedSectionVars false
set_option linter.unusedVariables false
set_option linter.unusedSimpArgs false
namespace Go.Ab
open Go.RowKit

/-- What the table says of a function is what the program says. -/
structure FnOk (P : Program) (f : FuncId) (F : FI) : Prop where
  fn : ∃ fn, P.funcs[f]? = some fn ∧ fn.body = some F.body ∧ fn.ntmps = F.nt ∧ fn.results.toList = F.nres
  ent : Enters P f

def AllRun {α γ : Type} (P : Program) (w : World) (f : α → Sem γ) : List α → List γ → Prop
  | [], out => out = []
  | x :: xs, out => ∃ b out', out = b :: out' ∧ (f x).run P w = .ok b w ∧ AllRun P w f xs out'

section
variable {P : Program} {E : Env} {w0 : World} {G0 : Gh} {outer own D : List Nat} {V nt : Nat} {a : Act} {w : World} {β : Bi} {G : Gh} {ro : Option Nat} {n : Nat} {h : Nat → Option AObj}

theorem sem_assoc {α γ δ : Type} (x : Sem α) (f : α → Sem γ) (g : γ → Sem δ) : (x.bind f).bind g = x.bind fun a => (f a).bind g := by
  induction x <;> simp only [Sem.bind] <;> first | rfl | (congr 1; funext y; apply_assumption) | (congr 1)

theorem sem_id {α : Type} (x : Sem α) : x.bind Sem.pure = x := by
  induction x <;> simp only [Sem.bind] <;> first | rfl | (congr 1; funext y; apply_assumption) | (congr 1)

instance : LawfulMonad Sem := LawfulMonad.mk' Sem (fun x => sem_id x) (fun _ _ => rfl) (fun x f g => sem_assoc x f g)

theorem run_list {α γ : Type} (f : α → Sem γ) : ∀ (l : List α) (out : List γ), AllRun P w f l out → (l.mapM f).run P w = .ok out w
  | [], out, h => by simp only [AllRun] at h; subst h; rfl
  | x :: xs, out, h => by
    obtain ⟨b, out', rfl, h1, h2⟩ := h
    rw [List.mapM_cons, Sem.run_bind, h1]
    simp only [Result.andThen]
    rw [Sem.run_bind, run_list f xs out' h2]
    rfl

theorem addr_of {ti : TI} {da d : DV} {u : Value} (hr : Rep β G da u) (hd : loadD ti h da = some d) : ∃ A, u = .pointer (some A) := by
  unfold loadD at hd
  split at hd
  · obtain ⟨b, _, rfl⟩ := rep_ptr.1 hr; exact ⟨_, rfl⟩
  · obtain ⟨b, _, _, _, rfl⟩ := rep_rptr.1 hr; exact ⟨_, rfl⟩
  · obtain ⟨_, b, o, rfl, _⟩ := rep_pub.1 hr; exact ⟨_, rfl⟩
  · cases hd

def resF (tm : Array Value) : ResultVar → Sem Value
  | .tmp t => pure (tm.getD t undef)
  | .cell a t => do loadVar t (← asAddr (tm.getD a undef))

theorem results_eq (fn : Func) (tm : Array Value) : results fn tm = (do let vs ← fn.results.mapM (resF tm); pure (if h : vs.size = 1 then vs[0] else .tuple vs)) := by
  have : (fun (x : ResultVar) => (match x with | .tmp t => pure (tm.getD t undef) | .cell a t => do loadVar t (← asAddr (tm.getD a undef)) : Sem Value)) = resF tm := by
    funext x; cases x <;> rfl
  rw [← this]
  rfl

theorem resD_sound (hE : ∀ t ti, E.ty t = some ti → TyOk P t ti) {base : Nat → Option DV} {tm : Array Value} (hf : FrM β G base tm) (hh : HR E w0 G0 D w β G h) : ∀ (rs : List ResultVar) (vs : List DV), resD E base h rs = some vs →
    ∃ out, AllRun P w (resF tm) rs out ∧ RepL β G vs out
  | [], vs, hd => by simp only [resD, Option.some.injEq] at hd; subst hd; exact ⟨[], rfl, repL_nil.2 rfl⟩
  | .tmp t :: rs, vs, hd => by
    simp only [resD] at hd
    obtain ⟨d, h1, hd⟩ := some_bind hd
    obtain ⟨ds, h2, hd⟩ := some_bind hd
    cases hd
    obtain ⟨out, h3, h4⟩ := resD_sound hE hf hh rs ds h2
    obtain ⟨v, h5, h6⟩ := hf t d h1
    refine ⟨v :: out, ⟨v, out, rfl, ?_, h3⟩, repL_cons.2 ⟨v, out, rfl, h6, h4⟩⟩
    simp [resF, h5]
  | .cell b t :: rs, vs, hd => by
    simp only [resD] at hd
    obtain ⟨ti, hti, hd⟩ := some_bind hd
    obtain ⟨da, h1, hd⟩ := some_bind hd
    obtain ⟨d, h7, hd⟩ := some_bind hd
    obtain ⟨ds, h2, hd⟩ := some_bind hd
    cases hd
    obtain ⟨out, h3, h4⟩ := resD_sound hE hf hh rs ds h2
    obtain ⟨u, h5, h6⟩ := hf b da h1
    obtain ⟨A, rfl⟩ := addr_of h6 h7
    obtain ⟨v, h8, h9⟩ := load_sound hE hh (hE t ti hti) (hE t ti hti).ko h6 h7
    refine ⟨v :: out, ⟨v, out, rfl, ?_, h3⟩, repL_cons.2 ⟨v, out, rfl, h9, h4⟩⟩
    have h10 : (loadVar t A).run P w = .ok v w := by simpa [Instr.loadAt, Instr.sureAddr] using h8
    simp [resF, h5, asAddr, h10]

theorem results_sound (hE : ∀ t ti, E.ty t = some ti → TyOk P t ti) {base : Nat → Option DV} {tm : Array Value} (hf : FrM β G base tm) (hh : HR E w0 G0 D w β G h) {fn : Func} {rs : List ResultVar} (hrs : fn.results.toList = rs) {vs : List DV} (hd : resD E base h rs = some vs) :
    ∃ v, (results fn tm).run P w = .ok v w ∧ Rep β G (pack vs) v := by
  obtain ⟨out, h1, h2⟩ := resD_sound (P := P) hE hf hh rs vs hd
  rw [← hrs] at h1
  have h3 := run_list (P := P) (w := w) _ fn.results.toList out h1
  refine ⟨if h : out.toArray.size = 1 then out.toArray[0] else .tuple out.toArray, ?_, ?_⟩
  · rw [results_eq, Array.mapM_eq_mapM_toList, Sem.run_bind]
    have h4 : ∀ (z : Sem (List Value)), z.run P w = .ok out w → (Functor.map List.toArray z).run P w = .ok out.toArray w := fun z hz => by
      rw [← LawfulMonad.bind_pure_comp, Sem.run_bind, hz]; rfl
    rw [h4 _ h3]
    rfl
  · have hl := repL_len h2
    match vs, out, h2, hl with
    | [], [], _, _ => exact rep_tup.2 ⟨[], by simp, repL_nil.2 rfl⟩
    | [d], [v], h2, _ =>
      obtain ⟨v', vs', e, h6, _⟩ := repL_cons.1 h2
      cases e
      simpa [pack] using h6
    | d :: e :: ds, u :: v :: out, h2, _ =>
      refine rep_tup.2 ⟨u :: v :: out, by simp, h2⟩

/-- Marks are taken: what they lay on is no object's. -/
theorem HR.unmark {d : Nat} (hh : HR E w0 G0 (d :: D) w β G h) (hd : d ∉ D) : HR E w0 G0 D (w.putObj d (.deferred none)) β G h := by
  obtain ⟨k1, k2⟩ := hh.marks d (by simp)
  have hother : ∀ i o b, h i = some o → Owns β i o b → b ≠ d := fun i o b hi hb e => (hh.own i o b hi hb).2.2 (by simp [e])
  refine ⟨hh.below.trans ⟨rfl, rfl, rfl, by simp, fun k hk => World.putObj_heap_other (by omega)⟩, hh.g0, fun c off v hg => ?_, fun i x hi => ?_, fun i x c hi hc => ?_, hh.inj, fun e he => ?_⟩
  · have hc := hh.agree c off v hg
    by_cases e : c = d
    · subst e
      unfold World.cell? at hc
      rw [k2] at hc
      cases hc
    · exact (World.cell?_of_block (w := w) (w' := w.putObj d (.deferred none)) (a := ⟨c, off, none⟩) (World.putObj_heap_other e)).trans hc
  · exact ObjR.keep (Ext.refl _ _) (fun _ => rfl) (fun c hc => ⟨World.putObj_heap_other (hother i x c hi hc), fun _ => rfl⟩) (hh.obj i x hi)
  · obtain ⟨m1, m2, m3⟩ := hh.own i x c hi hc
    exact ⟨m1, by simpa using m2, fun hx => m3 (by simp [hx])⟩
  · obtain ⟨m1, m2⟩ := hh.marks e (by simp [he])
    exact ⟨m1, (World.putObj_heap_other (fun q => hd (by rw [← q]; exact he))).trans m2⟩

theorem HR.lessD {D' : List Nat} (hh : HR E w0 G0 D w β G h) (hs : ∀ d, d ∈ D' → d ∈ D) : HR E w0 G0 D' w β G h :=
  ⟨hh.below, hh.g0, hh.agree, hh.obj, fun i o b hi hb => ⟨(hh.own i o b hi hb).1, (hh.own i o b hi hb).2.1, fun hd => (hh.own i o b hi hb).2.2 (hs b hd)⟩, hh.inj, fun d hd => hh.marks d (hs d hd)⟩

theorem leaves_marks {F : Fence} {fn : Func} {tm : Array Value} {R : Ending → World → Prop} (hR : ∀ w, HR E w0 G0 outer w β G h → ∃ v, (results fn tm).run P w = .ok v w ∧ R (.returned v) w) :
    ∀ (own : List Nat) (w : World), (own ++ outer).Nodup → HR E w0 G0 (own ++ outer) w β G h → LeavesInM F n P fn tm R (own.map markOf) .returning w
  | [], w, _, hh => hR w hh
  | d :: own, w, hn, hh => by
    have hn' := List.nodup_cons.1 hn
    refine ⟨by simp, .inl ⟨d, w.putObj d (.deferred none), rfl, run_takeDeferred (hh.marks d (by simp)).2, ?_⟩⟩
    exact leaves_marks hR own _ hn'.2 (hh.unmark hn'.1)

theorem argBase_get {V : Nat} : ∀ (vs : List DV) (k : Nat) (b : Tr DV) (t : Nat) (d : DV), (argBase V k vs b).get t = some d → (k ≤ t ∧ vs[t - k]? = some d ∧ Nat.testBit V t = true) ∨ b.get t = some d
  | [], _, _, _, _, h => .inr h
  | v :: vs, k, b, t, d, h => by
    simp only [argBase] at h
    rcases argBase_get vs (k + 1) _ t d h with ⟨h1, h2, h3⟩ | h1
    · exact .inl ⟨by omega, by rw [show t - k = (t - (k + 1)) + 1 by omega]; simpa using h2, h3⟩
    · cases hv : Nat.testBit V k with
      | false => rw [hv] at h1; exact .inr h1
      | true =>
        rw [hv] at h1
        simp only [cond_true, Tr.get_set] at h1
        by_cases e : t = k
        · rw [if_pos e] at h1
          subst e
          exact .inl ⟨Nat.le_refl _, by simpa using h1, hv⟩
        · rw [if_neg e] at h1; exact .inr h1

theorem setParams_sound {V nt : Nat} : ∀ (ps : List Nat) (vs : List DV) (b b' : Tr DV) (us : List Value) (tm : Array Value), setParams V nt ps vs b = some b' → RepL β G vs us → FrM β G b.get tm → tm.size = nt → (∀ t d, b.get t = some d → Nat.testBit V t = true) →
    ps.length = us.length ∧ FrM β G b'.get ((ps.zip us).foldl (fun tmps (t, a) => tmps.setIfInBounds t a) tm) ∧ ((ps.zip us).foldl (fun tmps (t, a) => tmps.setIfInBounds t a) tm).size = nt ∧ ∀ t d, b'.get t = some d → Nat.testBit V t = true
  | [], [], b, b', us, tm, h, hr, hf, hs, hd => by
    simp only [setParams, Option.some.injEq] at h; subst h
    rw [repL_nil] at hr; subst hr
    exact ⟨rfl, hf, hs, hd⟩
  | p :: ps, v :: vs, b, b', us, tm, h, hr, hf, hs, hd => by
    simp only [setParams] at h
    obtain ⟨hlt, h⟩ := bif_some h
    rw [Tr.blt_dec] at hlt
    have hlt : p < nt := by simpa using hlt
    obtain ⟨u, us', rfl, h1, h2⟩ := repL_cons.1 hr
    have hb1 : FrM β G (bif Nat.testBit V p then b.set p (some v) else b).get (tm.setIfInBounds p u) ∧ ∀ t d, (bif Nat.testBit V p then b.set p (some v) else b).get t = some d → Nat.testBit V t = true := by
      cases hv : Nat.testBit V p with
      | true =>
        simp only [cond_true]
        refine ⟨fun t d ht => ?_, fun t d ht => ?_⟩
        · rw [Tr.get_set] at ht
          by_cases e : t = p
          · rw [if_pos e] at ht; cases ht
            exact ⟨u, by rw [e, Array.getElem?_setIfInBounds_self_of_lt (by omega)], h1⟩
          · rw [if_neg e] at ht
            obtain ⟨x, h3, h4⟩ := hf t d ht
            exact ⟨x, by rw [Array.getElem?_setIfInBounds_ne (fun q => e q.symm)]; exact h3, h4⟩
        · rw [Tr.get_set] at ht
          by_cases e : t = p
          · rw [e]; exact hv
          · rw [if_neg e] at ht; exact hd t d ht
      | false =>
        simp only [cond_false]
        refine ⟨fun t d ht => ?_, hd⟩
        have hne : p ≠ t := fun e => by have := hd t d ht; rw [← e, hv] at this; cases this
        obtain ⟨x, h3, h4⟩ := hf t d ht
        exact ⟨x, by rw [Array.getElem?_setIfInBounds_ne hne]; exact h3, h4⟩
    obtain ⟨k1, k2, k3, k4⟩ := setParams_sound ps vs _ b' us' (tm.setIfInBounds p u) h h2 hb1.1 (by simpa using hs) hb1.2
    exact ⟨by simp [k1], k2, k3, k4⟩
  | [], _ :: _, _, _, _, _, h, _, _, _, _ => by cases h
  | _ :: _, [], _, _, _, _, h, _, _, _, _ => by cases h

end
end Go.Ab
