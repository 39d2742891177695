/- Regions of typed operations. Conditions: the tables are right (XOk); what calls come to is right (SpecsOk, CallOk). -/
import Derived.Test.YtdoejdmpmpgmiaaTv7
import Derived.Test.YtdoejdmpmpgmiaaAb18
set_option linter.unusedSectionVars false
set_option linter.unusedVariables false
set_option linter.unusedSimpArgs false
set_option linter.unusedSectionVars false
namespace Go.Ab
variable {S : Nat → Type} {R : Type}

/-- From some fuel on. -/
def Evt (p : Nat → Prop) : Prop := ∃ N, ∀ n, N ≤ n → p n
theorem Evt.and {p q : Nat → Prop} (hp : Evt p) (hq : Evt q) : Evt fun n => p n ∧ q n := by
  obtain ⟨a, ha⟩ := hp
  obtain ⟨b, hb⟩ := hq
  exact ⟨max a b, fun n hn => ⟨ha n (by omega), hb n (by omega)⟩⟩
theorem Evt.mono {p q : Nat → Prop} (hp : Evt p) (h : ∀ n, p n → q n) : Evt q := by
  obtain ⟨a, ha⟩ := hp
  exact ⟨a, fun n hn => h n (ha n hn)⟩
theorem Evt.of {p : Nat → Prop} (h : ∀ n, p n) : Evt p := ⟨0, fun n _ => h n⟩
theorem Evt.succ {p : Nat → Prop} (hp : Evt fun n => p (n + 1)) : Evt p := by
  obtain ⟨a, ha⟩ := hp
  refine ⟨a + 1, fun n hn => ?_⟩
  cases n with
  | zero => omega
  | succ n => exact ha n (by omega)

/-- The loops that lie on the heap stand where they say. -/
def WfL (E : Env) (o : Option (TObj S)) : Prop := match o with
  | some (.loop fid _ ps as bo _ _ _ po) => ∃ F f, E.fn fid = some F ∧ Code.sub F.body po = some (.rangeFunc f ps.toArray as bo)
  | _ => True
def WfO (E : Env) (o : Tr (TObj S)) : Prop := ∀ i, WfL E (o.get i)

theorem wfL_noLoop {E : Env} {x : Option (TObj S)} (h : isLoop x = false) : WfL E x := by
  cases x with
  | none => trivial
  | some o => cases o <;> first | trivial | cases h

theorem WfO.set {E : Env} {o : Tr (TObj S)} (h : WfO E o) {i : Nat} {x : Option (TObj S)} (hx : WfL E x) : WfO E (o.set i x) := fun j => by
  rw [Tr.get_set]
  split
  · exact hx
  · exact h j

theorem WfO.upd {E : Env} : ∀ {u : List (Nat × Option (TObj S))} {o : Tr (TObj S)}, WfO E o → NoLoop u → WfO E (updT o u)
  | [], _, h, _ => h
  | (i, x) :: u, o, h, hu => by
    simp only [updT]
    exact WfO.upd (h.set (wfL_noLoop (hu (i, x) (by simp)))) (fun p hp => hu p (by simp [hp]))

def SpecsOk (X : TEnv S) (cs : Specs S R) : Prop := ∀ g as k r, cs g as k = some r → ∃ d, Evt (fun n => evF X.E n g (dvl X.T as) = some (dv X.T d)) ∧ k d = some r

def CallOk (X : TEnv S) (b : Bool) (callH : CallHT S R) : Prop := ∀ path g as objs next k r, callH path g as objs next k = some r → WfO X.E objs →
  ∃ v objs' next', Evt (fun n => evX X.E n b g (dvl X.T as) (objs.mapv (dvO X.T)) next = some (dv X.T v, objs'.mapv (dvO X.T), next')) ∧ WfO X.E objs' ∧ k v objs' next' = some r

def dvLoc (T : TS S) (l : List (Nat × Option (TV S))) : Loc := l.map fun p => (p.1, p.2.map (dv T))
def dvM (T : TS S) (m : MidT S) : Mid := ⟨m.base.mapv (dv T), dvLoc T m.loc, m.objs.mapv (dvO T), m.next⟩
def dvSt (T : TS S) (s : StT S) : St := ⟨s.base.mapv (dv T), s.objs.mapv (dvO T), s.next⟩

section
variable (T : TS S)
theorem find_dv : ∀ (l : List (Nat × Option (TV S))) (t : Nat), Loc.find (dvLoc T l) t = (findT l t).map (Option.map (dv T))
  | [], t => rfl
  | (s, v) :: l, t => by
    simp only [dvLoc, List.map_cons, Loc.find, findT]
    cases Nat.beq s t with
    | true => rfl
    | false => exact find_dv l t

theorem slot_dv (V : Nat) (b : Tr (TV S)) (l : List (Nat × Option (TV S))) : slotOf V (b.mapv (dv T)) (dvLoc T l) = dvr T (slotT V b l) := by
  funext t
  unfold slotOf slotT dvr
  cases hv : Nat.testBit V t with
  | true => simp only [hv, cond_true]; exact mapv_get _ _ _
  | false =>
    simp only [hv, cond_false, find_dv]
    cases findT l t with
    | none => rfl
    | some v => rfl

theorem upd_dv : ∀ (u : List (Nat × Option (TObj S))) (o : Tr (TObj S)), updObjs (o.mapv (dvO T)) (dvu T u) = (updT o u).mapv (dvO T)
  | [], o => rfl
  | (i, x) :: u, o => by
    simp only [dvu, List.map_cons, updObjs, updT]
    rw [← mapv_set]
    exact upd_dv u _

theorem put_dv (V nt : Nat) (m : MidT S) (dst : Option Tmp) (v : Option (TV S)) : (dvM T m).put V nt dst (v.map (dv T)) = dvM T (m.put V nt dst v) := by
  unfold Mid.put MidT.put
  cases dst with
  | none => rfl
  | some d =>
    simp only
    cases (!Nat.blt d nt) with
    | true => rfl
    | false =>
      cases Nat.testBit V d with
      | true => simp only [cond_false, cond_true, dvM, mapv_set]
      | false => simp only [cond_false, dvM, dvLoc, List.map_cons]

theorem putU_dv (V nt : Nat) (m : MidT S) (dst : Option Tmp) (o : TOut S) : ({ dvM T m with objs := updObjs (dvM T m).objs (dvOut T o).upd } : Mid).put V nt dst (dvOut T o).val = dvM T (({ m with objs := updT m.objs o.upd } : MidT S).put V nt dst o.val) := by
  rw [← put_dv]
  simp only [dvM, dvOut, upd_dv]

theorem objs_get (m : MidT S) : (dvM T m).objs.get = dvh T m.objs.get := funext fun i => mapv_get _ _ _
end

theorem putT_objs (V nt : Nat) (m : MidT S) (dst : Option Tmp) (v : Option (TV S)) : (m.put V nt dst v).objs = m.objs := by
  unfold MidT.put
  cases dst with
  | none => rfl
  | some d =>
    simp only
    cases (!Nat.blt d nt) with
    | true => rfl
    | false => cases Nat.testBit V d <;> rfl

theorem slotT_put (V nt : Nat) (m : MidT S) (dst : Option Tmp) (v : Option (TV S)) (t : Nat) :
    slotT V (m.put V nt dst v).base (m.put V nt dst v).loc t = if dst = some t ∧ t < nt then v else slotT V m.base m.loc t := by
  unfold MidT.put
  cases dst with
  | none => simp
  | some d =>
    simp only [Tr.blt_dec]
    by_cases hl : d < nt
    · simp only [hl, decide_true, Bool.not_true, cond_false]
      cases hv : Nat.testBit V d with
      | true =>
        simp only [cond_true]
        unfold slotT
        by_cases e : d = t
        · subst e; simp [hv, hl, Tr.get_set]
        · have : ¬ t = d := fun h => e h.symm
          simp [e, Tr.get_set, this]
      | false =>
        simp only [cond_false]
        unfold slotT
        by_cases e : d = t
        · subst e; simp [hv, hl, findT]
        · simp [e, findT, Tr.beq_dec]
    · simp only [hl, decide_false, Bool.not_false, cond_true]
      by_cases e : d = t
      · subst e; simp [hl]
      · simp [e]

/-! Bools that are known -/
def KnOk (kn : List (Nat × Bool)) (ρ : Nat → Option (TV S)) : Prop := ∀ t b0 b, knF kn t = some b0 → ρ t = some (.bool b) → b = b0

theorem ovK_eq {kn : List (Nat × Bool)} {ρ : Nat → Option (TV S)} (h : KnOk kn ρ) : (fun t => ovK kn t (ρ t)) = ρ := by
  funext t
  unfold ovK
  cases kn with
  | nil => rfl
  | cons p l =>
    simp only
    cases hv : ρ t with
    | none => rfl
    | some v =>
      cases v <;> simp only
      rename_i b
      cases hk : knF (p :: l) t with
      | none => rfl
      | some b0 => rw [h t b0 b hk hv]

theorem knF_del (kn : List (Nat × Bool)) (d t : Nat) : knF (knDel kn (some d)) t = if t = d then none else knF kn t := by
  unfold knDel
  induction kn with
  | nil => simp [knF]
  | cons p l ih =>
    simp only [List.filter_cons]
    by_cases e : p.1 = d
    · subst e
      simp only [Tr.beq_dec, decide_true, Bool.not_true, Bool.false_eq_true, if_false]
      simp only [Tr.beq_dec] at ih
      rw [ih]
      simp only [knF, Tr.beq_dec]
      by_cases e2 : t = p.1
      · simp [e2]
      · have : ¬ p.1 = t := fun h => e2 h.symm
        simp [e2, this]
    · simp only [Tr.beq_dec] at ih ⊢
      simp only [e, decide_false, Bool.not_false, if_true, knF, Tr.beq_dec]
      by_cases e2 : p.1 = t
      · subst e2; simp [e]
      · simp only [e2, decide_false, cond_false]; exact ih

theorem knOk_del {kn : List (Nat × Bool)} {ρ ρ' : Nat → Option (TV S)} {dst : Option Tmp} (h : KnOk kn ρ) (hρ : ∀ t v, dst ≠ some t → ρ' t = some v → ρ t = some v) : KnOk (knDel kn dst) ρ' := fun t b0 b hk hv => by
  cases dst with
  | none => exact h t b0 b hk (hρ t _ (by simp) hv)
  | some d =>
    rw [knF_del] at hk
    by_cases e : t = d
    · rw [if_pos e] at hk; cases hk
    · rw [if_neg e] at hk
      exact h t b0 b hk (hρ t _ (fun q => e (by cases q; rfl)) hv)

theorem knOk_put {kn : List (Nat × Bool)} {V nt : Nat} {m : MidT S} {dst : Option Tmp} {v : Option (TV S)} (h : KnOk kn (slotT V m.base m.loc)) : KnOk (knDel kn dst) (slotT V (m.put V nt dst v).base (m.put V nt dst v).loc) :=
  knOk_del h fun t w hne hw => by
    rw [slotT_put, if_neg (fun q => hne q.1)] at hw; exact hw

theorem want_sim (T : TS S) {ops : Array Oper} {ρ : Nat → Option (TV S)} {o : Oper} {kn : List (Nat × Bool)} (hkn : KnOk kn ρ) {f : Bool → List (Nat × Bool) → Option R} {r : R} (h : wantK ops ρ o kn f = some r) :
    ∃ want kn', wantedD ops (dvr T ρ) o = some want ∧ KnOk kn' ρ ∧ (∀ t b, knF kn' t = some b → knF kn t = some b ∨ ρ t = some (.bool b)) ∧ f want kn' = some r := by
  unfold wantK at h
  unfold wantedD
  split at h
  · rename_i hg
    rw [hg]; exact ⟨true, kn, rfl, hkn, fun t b hb => .inl hb, h⟩
  · rename_i j want hg
    rw [hg]
    simp only
    split at h
    · rename_i t ht
      rw [ht]
      simp only [dvr]
      split at h
      · rename_i b hb
        rw [hb]
        simp only [Option.map_some, dv]
        have hk2 : KnOk ((t, b) :: kn) ρ := fun t' b0 b' hk hv => by
          simp only [knF, Tr.beq_dec] at hk
          by_cases e : t = t'
          · subst e; simp at hk; subst hk; rw [hb] at hv; cases hv; rfl
          · simp [e] at hk; exact hkn t' b0 b' hk hv
        have hk3 : ∀ t' b', knF ((t, b) :: kn) t' = some b' → knF kn t' = some b' ∨ ρ t' = some (.bool b') := fun t' b' hk => by
          simp only [knF, Tr.beq_dec] at hk
          by_cases e : t = t'
          · subst e; simp at hk; subst hk; exact .inr hb
          · simp [e] at hk; exact .inl hk
        cases b with
        | true => exact ⟨_, _, rfl, hk2, hk3, h⟩
        | false => exact ⟨_, _, rfl, hk2, hk3, h⟩
      · rename_i v hv hne
        rw [hne]
        simp only [Option.map_some]
        have : ∀ b, dv T v ≠ .bool b := fun b hb => by
          cases v <;> simp [dv] at hb
          exact hv _ rfl
        refine ⟨false, kn, ?_, hkn, fun t b hb => .inl hb, h⟩
        split
        · rename_i b hb
          injection hb with hb
          exact absurd hb (this _)
        · rfl
        · rename_i hq; cases hq
      · cases h
    · cases h

/-! One operation -/
theorem target_sim {T : TS S} {ρ : Nat → Option (TV S)} {c : Call} {tgt : TV S × List (TV S)} (h : targetT ρ c = some tgt) : target (dvr T ρ) c = some (dv T tgt.1, dvl T tgt.2) := by
  unfold targetT at h
  unfold target
  split at h
  · rename_i f hc
    rw [hc]
    obtain ⟨v, h1, h⟩ := some_bind h
    simp only [opnd_dv, h1, Option.map_some, Option.bind_some]
    split at h
    · obtain ⟨as, h2, h⟩ := some_bind h
      cases h
      simp only [dv, opnds_dv, h2, Option.map_some, Option.bind_some, dvl_append, dvl]
    · obtain ⟨as, h2, h⟩ := some_bind h
      cases h
      simp only [dv, opnds_dv, h2, Option.map_some, Option.bind_some]
    · cases h
  · cases h

theorem pur_dv (T : TS S) (E : Env) (tgt : TV S × List (TV S)) : purT E (dv T tgt.1, dvl T tgt.2) = purTT E tgt := by
  obtain ⟨v, as⟩ := tgt
  cases v <;> simp only [dv, purT, purTT]
  rename_i f a c
  cases f <;> rfl

section
variable {X : TEnv S} (hX : XOk X) {cs : Specs S R} (hcs : SpecsOk X cs)
include hX hcs

/-- An operation is one of plain values, or a call on the heap. -/
theorem step_sim {nid : Nat} {ρ : Nat → Option (TV S)} {h : Nat → Option (TObj S)} {op : Op} {k : KOut S R} {ki : TV S × List (TV S) → Option R} {r : R} (hk : stepK X cs nid ρ h op k ki = some r) :
    (∃ o : TOut S, Evt (fun n => stepD X.E (evF X.E n) nid (dvr X.T ρ) (dvh X.T h) op = some (some (dvOut X.T o))) ∧ NoLoop o.upd ∧ k o = some r) ∨
    (∃ c tgt, isCall op = some c ∧ (∀ call, stepD X.E call nid (dvr X.T ρ) (dvh X.T h) op = some none) ∧ target (dvr X.T ρ) c = some (dv X.T tgt.1, dvl X.T tgt.2) ∧ ki tgt = some r) := by
  unfold stepK at hk
  split at hk
  · rename_i hc
    obtain ⟨o, h1, h2, h3⟩ := op_sim hX hk
    refine .inl ⟨o, Evt.of fun n => ?_, h2, h3⟩
    unfold stepD
    rw [hc, h1]; rfl
  · rename_i c hc
    obtain ⟨tgt, h1, hk⟩ := some_bind hk
    have h2 := target_sim (T := X.T) h1
    cases hp : purTT X.E tgt with
    | false =>
      rw [hp] at hk
      refine .inr ⟨c, tgt, hc, fun call => ?_, h2, hk⟩
      unfold stepD
      rw [hc]
      simp only [h2, Option.bind_some, pur_dv, hp, cond_false]
    | true =>
      rw [hp] at hk
      simp only [cond_true] at hk
      unfold callK at hk
      split at hk
      · rename_i g x y as
        obtain ⟨fs, h3, hk⟩ := some_bind hk
        obtain ⟨d, h4, hk⟩ := hcs _ _ _ _ hk
        refine .inl ⟨_, h4.mono fun n hn => ?_, noLoop_show _ _, hk⟩
        unfold stepD
        rw [hc]
        simp only [h2, Option.bind_some]
        rw [show purT X.E (dv X.T (TV.fn (Fn.func g) x y, as).1, dvl X.T (TV.fn (Fn.func g) x y, as).2) = true from (pur_dv X.T X.E _).trans hp]
        simp only [cond_true]
        unfold evCall
        rw [h2]
        simp only [Option.bind_some, dv, frzs_dvl hX.t, h3, Option.map_some, hn]
        simp [dvOut, show_dv, rows_dvl hX.t]
      · cases hk

theorem seq_sim {callH callY : CallHT S R} (hH : CallOk X false callH) (hY : CallOk X true callY) {path : List Nat} {V nt : Nat} {ops : Array Oper} {b : Nat} :
    ∀ (os : List Oper) (k : Nat) (kn : List (Nat × Bool)) (m : MidT S) (kk : MidT S → Option R) (r : R), seqK X cs callH callY path V nt ops b k os kn m kk = some r → KnOk kn (slotT V m.base m.loc) → WfO X.E m.objs →
      ∃ m', Evt (fun n => evSeq X.E (evF X.E n) (evX X.E n false) (evX X.E n true) V nt ops b k os (dvM X.T m) = some (dvM X.T m')) ∧ WfO X.E m'.objs ∧ kk m' = some r
  | [], k, kn, m, kk, r, h, _, hw => ⟨m, Evt.of fun _ => rfl, hw, h⟩
  | o :: os, k, kn, m, kk, r, h, hkn, hw => by
    simp only [seqK] at h
    rw [ovK_eq hkn] at h
    obtain ⟨want, kn', h1, hkn', _, h⟩ := want_sim X.T hkn h
    cases want with
    | false =>
      simp only [cond_false] at h
      obtain ⟨m', h2, h3, h4⟩ := seq_sim hH hY os (k + 1) _ _ kk r h (knOk_put hkn') (by rw [putT_objs]; exact hw)
      refine ⟨m', h2.mono fun n hn => ?_, h3, h4⟩
      simp only [evSeq]
      have e1 : slotOf V (dvM X.T m).base (dvM X.T m).loc = dvr X.T (slotT V m.base m.loc) := slot_dv X.T V m.base m.loc
      rw [e1, h1]
      simp only [Option.bind_some, cond_false]
      have e2 := put_dv X.T V nt m o.dst (some (.tup []))
      simp only [Option.map_some, dv, dvl] at e2
      rw [e2]; exact hn
    | true =>
      simp only [cond_true] at h
      rw [ovK_eq hkn'] at h
      have e1 : slotOf V (dvM X.T m).base (dvM X.T m).loc = dvr X.T (slotT V m.base m.loc) := slot_dv X.T V m.base m.loc
      rcases step_sim hX hcs h with ⟨q, h2, h3, h⟩ | ⟨c, tgt, h2, h3, h4, h⟩
      · obtain ⟨m', h5, h6, h7⟩ := seq_sim hH hY os (k + 1) _ _ kk r h (knOk_put (m := { m with objs := updT m.objs q.upd }) hkn') (by rw [putT_objs]; exact hw.upd h3)
        refine ⟨m', (h2.and h5).mono fun n hn => ?_, h6, h7⟩
        simp only [evSeq]
        rw [e1, h1]
        simp only [Option.bind_some, cond_true, objs_get]
        rw [hn.1]
        simp only [Option.bind_some]
        rw [putU_dv]; exact hn.2
      · obtain ⟨f, as⟩ := tgt
        simp only [impK] at h
        split at h
        · rename_i g x y as' he
          cases he
          obtain ⟨v, objs', next', h5, h6, h⟩ := hH _ _ _ _ _ _ _ h hw
          obtain ⟨m', h7, h8, h9⟩ := seq_sim hH hY os (k + 1) _ _ kk r h (knOk_put (m := { m with objs := objs', next := next' }) hkn') (by rw [putT_objs]; exact h6)
          refine ⟨m', (h5.and h7).mono fun n hn => ?_, h8, h9⟩
          simp only [evSeq]
          rw [e1, h1]
          simp only [Option.bind_some, cond_true, objs_get, h3, h2, h4, dv]
          simp only [evImpure]
          have e3 : evX X.E n false g (dvl X.T as) (dvM X.T m).objs (dvM X.T m).next = _ := hn.1
          rw [e3]
          simp only [Option.bind_some]
          have e2 := put_dv X.T V nt { m with objs := objs', next := next' } o.dst (some v)
          simp only [Option.map_some] at e2
          have e4 : ({ dvM X.T m with objs := objs'.mapv (dvO X.T), next := next' } : Mid) = dvM X.T { m with objs := objs', next := next' } := rfl
          rw [e4, e2]; exact hn.2
        · rename_i id as' he
          cases he
          obtain ⟨v, objs', next', h5, h6, h⟩ := hY _ _ _ _ _ _ _ h hw
          obtain ⟨m', h7, h8, h9⟩ := seq_sim hH hY os (k + 1) _ _ kk r h (knOk_put (m := { m with objs := objs', next := next' }) hkn') (by rw [putT_objs]; exact h6)
          refine ⟨m', (h5.and h7).mono fun n hn => ?_, h8, h9⟩
          simp only [evSeq]
          rw [e1, h1]
          simp only [Option.bind_some, cond_true, objs_get, h3, h2, h4, dv]
          simp only [evImpure]
          have e3 : evX X.E n true id (dvl X.T as) (dvM X.T m).objs (dvM X.T m).next = _ := hn.1
          rw [e3]
          simp only [Option.bind_some]
          have e2 := put_dv X.T V nt { m with objs := objs', next := next' } o.dst (some v)
          simp only [Option.map_some] at e2
          have e4 : ({ dvM X.T m with objs := objs'.mapv (dvO X.T), next := next' } : Mid) = dvM X.T { m with objs := objs', next := next' } := rfl
          rw [e4, e2]; exact hn.2
        · cases h
end
end Go.Ab
