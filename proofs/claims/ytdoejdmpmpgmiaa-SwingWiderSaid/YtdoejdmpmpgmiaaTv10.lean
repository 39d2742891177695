/- The head of a loop. Conditions: the tables are right (XOk). -/
import Derived.Test.YtdoejdmpmpgmiaaTv9
set_option linter.unusedSectionVars false
set_option linter.unusedVariables false
set_option linter.unusedSimpArgs false
set_option linter.unusedSectionVars false
namespace Go.Ab
variable {S : Nat → Type} {R : Type}

section
variable (T : TS S)

theorem cellAt_dvs (hT : TOk T) {cs : List (TV S)} {off : Nat} {o : Option (TV S)} (h : cellAt T cs off = some o) : (o = none ∧ (dvs T cs)[off]? = none) ∨ (∃ c d, o = some c ∧ (dvs T cs)[off]? = some d ∧ ((isArrT c = false ∧ d = dv T c) ∨ (c = .bool false ∧ plain d = true))) := by
  unfold cellAt at h
  obtain ⟨r, h1, h⟩ := some_bind h
  obtain ⟨h2, h3⟩ := dropW_dvs hT h1
  have e : (dvs T cs)[off]? = (dvs T r)[0]? := by rw [← h3]; simp
  cases r with
  | nil => cases h; exact .inl ⟨rfl, by rw [e, dvs_nil]; rfl⟩
  | cons c r =>
    simp only at h
    cases ha : isArrT c with
    | true =>
      rw [ha] at h
      obtain ⟨h4, h⟩ := bif_some h
      cases h
      have h4 : 0 < wd T c := by simpa [Tr.blt_dec] using h4
      rw [← cell1_len hT c] at h4
      refine .inr ⟨_, (cell1 T c)[0], rfl, ?_, .inr ⟨rfl, ?_⟩⟩
      · rw [e, dvs_cons, List.getElem?_append_left h4, List.getElem?_eq_getElem h4]
      · have hp : (cell1 T c).all plain = true := by
          cases c <;> simp only [isArrT, Bool.false_eq_true] at ha
          · exact acl_plain hT _ _ _
          · exact hT.plain _ _
        exact List.all_eq_true.1 hp _ (List.getElem_mem h4)
    | false =>
      rw [ha] at h
      cases h
      refine .inr ⟨c, dv T c, rfl, ?_, .inl ⟨ha, rfl⟩⟩
      rw [e, dvs_cons]
      cases c <;> simp [cell1, isArrT] at ha ⊢

theorem acc_sim (hT : TOk T) {o : Tr (TObj S)} {b : Tr (TV S)} {a : Acc} {x : Option (Nat × Nat)} (h : accT T o b a = some x) : accSrc (o.mapv (dvO T)) (b.mapv (dv T)) a = x := by
  cases a with
  | slot t e =>
    simp only [accT] at h
    simp only [accSrc, mapv_get]
    cases hb : b.get t with
    | none => rw [hb] at h; cases h; rfl
    | some v =>
      rw [hb] at h
      cases v <;> simp only [Option.some.injEq] at h <;> subst h <;> simp [dv]
  | cell t off e =>
    simp only [accT] at h
    simp only [accSrc, mapv_get]
    cases hb : b.get t with
    | none => rw [hb] at h; cases h; rfl
    | some v =>
      rw [hb] at h
      cases v with
      | ptr q p =>
        cases p with
        | zero =>
          simp only [Option.map_some, dv]
          simp only at h
          cases ho : o.get q with
          | none => rw [ho] at h; cases h; rfl
          | some ob =>
            rw [ho] at h
            cases ob with
            | cells ct cs =>
              simp only at h
              simp only [Option.map_some, dvO]
              obtain ⟨oc, h1, h⟩ := some_bind h
              rcases cellAt_dvs T hT h1 with ⟨rfl, h2⟩ | ⟨c, d, rfl, h2, h3⟩
              · rw [h2]; cases h; rfl
              · rw [h2]
                rcases h3 with ⟨_, rfl⟩ | ⟨rfl, h3⟩
                · cases c <;> simp only [Option.some.injEq] at h <;> subst h <;> simp [dv]
                · cases h
                  cases d <;> simp [plain] at h3 <;> rfl
            | _ => simp only [Option.some.injEq] at h; subst h; simp [dvO]
        | succ p => simp only [Option.some.injEq] at h; subst h; simp [dv]
      | ap => cases h
      | _ => simp only [Option.some.injEq] at h; subst h; simp [dv]

theorem accs_sim (hT : TOk T) {o : Tr (TObj S)} {b : Tr (TV S)} : ∀ {as : List Acc} {L : List (Option (Nat × Nat))}, accsT T o b as = some L → as.map (accSrc (o.mapv (dvO T)) (b.mapv (dv T))) = L
  | [], L, h => by cases h; rfl
  | a :: as, L, h => by
    simp only [accsT] at h
    obtain ⟨x, h1, h⟩ := some_bind h
    obtain ⟨xs, h2, h⟩ := some_bind h
    cases h
    rw [List.map_cons, acc_sim T hT h1, accs_sim hT h2]
end

theorem splice_set : ∀ (cs : List DV) (off : Nat) (v : DV), off < cs.length → splice cs off [v] = cs.set off v
  | [], off, v, h => by simp at h
  | c :: cs, 0, v, h => by cases cs <;> simp [splice]
  | c :: cs, n + 1, v, h => by
    simp only [splice, List.set_cons_succ]
    rw [splice_set cs n v (by simpa using h)]

theorem ents_mapv {α β : Type} (f : α → β) : ∀ (t : Tr α) (a b : Nat), (t.mapv f).ents a b = (t.ents a b).map fun p => (p.1, f p.2)
  | .leaf, _, _ => rfl
  | .node l v r, a, b => by
    simp only [Tr.mapv, Tr.ents, ents_mapv f l, ents_mapv f r, List.map_append]
    cases v <;> rfl

theorem refsVs_append : ∀ (a b : List DV), refsVs (a ++ b) = refsVs a ++ refsVs b
  | [], b => by simp [refsVs]
  | c :: a, b => by simp only [List.cons_append, refsVs, refsVs_append a b, List.append_assoc]
theorem plains_refs : ∀ {cs : List DV}, cs.all plain = true → refsVs cs = []
  | [], _ => rfl
  | c :: cs, h => by
    simp only [List.all_cons, Bool.and_eq_true] at h
    simp only [refsVs, plains_refs h.2, List.append_nil]
    cases c <;> simp [plain, refsV] at h ⊢

section
variable {T : TS S} (hT : TOk T)
include hT
mutual
theorem refs_dv : ∀ v : TV S, refsV (dv T v) = refsT v
  | .rs _ _ => by simp [dv, refsV, refsT]
  | .agg cs => by simp only [dv, refsV, refsT]; exact refs_dvs cs
  | .tup cs => by simp only [dv, refsV, refsT]; exact refs_dvl cs
  | .fn _ a c => by simp only [dv, refsV, refsT, refs_dvl a, refs_dvl c]
  | .iface _ v => by simp only [dv, refsV, refsT]; exact refs_dv v
  | .bool _ => rfl | .int _ _ => rfl | .str _ => rfl | .nilp => rfl | .nils => rfl
  | .sl0 => by simp [dv, refsV, refsT] | .sl _ _ => by simp [dv, refsV, refsT]
  | .arr _ _ _ => by simp [dv, refsV, refsT] | .stc _ _ => by simp [dv, refsV, refsT]
  | .ptr _ _ => by simp [dv, refsV, refsT] | .ap _ _ _ _ _ => by simp [dv, refsV, refsT] | .rptr _ _ _ _ _ => by simp [dv, refsV, refsT]
  | .pub _ => by simp [dv, refsV, refsT] | .map _ => by simp [dv, refsV, refsT] | .iter _ => by simp [dv, refsV, refsT] | .yld _ => by simp [dv, refsV, refsT]
  | .nilfn => by simp [dv, refsV, refsT] | .nilmap => by simp [dv, refsV, refsT] | .nilif => by simp [dv, refsV, refsT]
theorem refs_dvs : ∀ cs : List (TV S), refsVs (dvs T cs) = refsTs cs
  | [] => by simp [dvs, refsVs, refsTs]
  | c :: cs => by
    rw [dvs_cons, refsVs_append, refsTs, refs_dvs cs]
    have h := refs_dv c
    cases c <;> simp only [cell1, refsVs, List.append_nil] <;> first | rw [h] | skip
    · rw [plains_refs (acl_plain hT _ _ _)]; rfl
    · rw [plains_refs (hT.plain _ _)]; rfl
theorem refs_dvl : ∀ cs : List (TV S), refsVs (dvl T cs) = refsTs cs
  | [] => by simp [dvl, refsVs, refsTs]
  | c :: cs => by simp only [dvl, refsVs, refsTs, refs_dv c, refs_dvl cs]
end

theorem refsO_dv (o : TObj S) : refsO (dvO T o) = refsOT o := by
  cases o <;> simp only [dvO, refsO, refsOT]
  · exact refs_dvs hT _
  · rw [ents_mapv, List.flatMap_map]
    congr 1
    funext p
    exact refs_dv hT p.2

theorem extra_dv (o : Tr (TObj S)) (b : Tr (TV S)) (n0 keep : Nat) (A : List (Option (Nat × Nat))) : extraL (o.mapv (dvO T)) (b.mapv (dv T)) n0 keep A = extraT o b n0 keep A := by
  unfold extraL extraT
  have e1 : rowNow (o.mapv (dvO T)).get = rowNowT o.get := by
    funext p
    unfold rowNow rowNowT
    rw [mapv_get]
    cases o.get p.1 with
    | none => rfl
    | some x => cases x <;> rfl
  rw [e1, ents_mapv, ents_mapv, List.flatMap_map, List.flatMap_map]
  congr 2
  · congr 1
    funext p
    simp only [refsO_dv hT]
  · congr 1
    funext p
    simp only [refs_dv hT]
end

theorem tm_wf {E : Env} {g : Nat → TObj S → Option (Option (TObj S))} {t t' : Tr (TObj S)} (h : t.tm g 1 0 = some t') (hw : WfO E t) (hg : ∀ k x y, g k x = some y → WfL E (some x) → WfL E y) : WfO E t' := fun i => by
  rcases Tr.tm_get1 h i with ⟨_, h2⟩ | ⟨x, y, h1, h2, h3⟩
  · rw [h2]; trivial
  · rw [h3]; have := hw i; rw [h1] at this; exact hg i x y h2 this

section
variable {X : TEnv S} (hX : XOk X)
include hX

theorem renO_sim {n0 : Nat} {L : List (Option (Nat × Nat))} {x y : TObj S} (h : renOT n0 L x = some y) : renObj n0 L (dvO X.T x) = some (dvO X.T y) := by
  cases x with
  | cells t cs =>
    simp only [renOT] at h
    obtain ⟨cs', h1, h⟩ := some_bind h
    cases h
    simp only [dvO, renObj, rens_dvs hX.t, h1, Option.map_some, Option.bind_some]
  | loop fid b ps as bo bid ex pa po =>
    simp only [renOT] at h
    obtain ⟨b', h1, h⟩ := some_bind h
    cases h
    simp only [dvO, renObj]
    have := mapv_tm (dv X.T) (fun _ d => (renT n0 L d).bind fun d => some (some d)) (fun _ d => (ren n0 L d).bind fun d => some (some d)) (fun k x y hxy => by
      obtain ⟨z, h2, h3⟩ := some_bind hxy
      cases h3
      simp only [ren_dv hX.t, h2, Option.map_some, Option.bind_some]) b 1 0 b' h1
    rw [this]; rfl
  | row => cases h; rfl
  | map => cases h; rfl
  | siter => cases h; rfl

theorem addRows_sim {o : Tr (TObj S)} {n0 : Nat} : ∀ {L : List (Option (Nat × Nat))} {j : Nat} {no r : Tr (TObj S)}, addRowsT o n0 j L no = some r → WfO X.E no → addRows (o.mapv (dvO X.T)) n0 j L (no.mapv (dvO X.T)) = some (r.mapv (dvO X.T)) ∧ WfO X.E r
  | [], j, no, r, h, hw => by cases h; exact ⟨rfl, hw⟩
  | none :: L, j, no, r, h, hw => by simp only [addRowsT] at h; simp only [addRows]; exact addRows_sim h hw
  | some (id, v) :: L, j, no, r, h, hw => by
    simp only [addRowsT] at h
    simp only [addRows, mapv_get]
    cases ho : o.get id with
    | none => rw [ho] at h; cases h
    | some ob =>
      rw [ho] at h
      cases ob <;> simp only [reduceCtorEq] at h
      rename_i e t es p u
      obtain ⟨h1, h⟩ := bif_some h
      obtain ⟨h2, h3⟩ := addRows_sim h (hw.set (x := some (.row e t es p 0)) trivial)
      simp only [Option.map_some, dvO, h1, cond_true]
      rw [mapv_set] at h2
      exact ⟨h2, h3⟩

theorem nilRows_sim {n0 : Nat} : ∀ {as : List Acc} {j : Nat} {b : Tr (TV S)} {no : Tr (TObj S)} {r : Tr (TV S) × Tr (TObj S)}, nilRowsT X n0 j as (b, no) = some r → WfO X.E no →
    nilRows X.E n0 j as (b.mapv (dv X.T), no.mapv (dvO X.T)) = some (r.1.mapv (dv X.T), r.2.mapv (dvO X.T)) ∧ WfO X.E r.2
  | [], j, b, no, r, h, hw => by cases h; exact ⟨rfl, hw⟩
  | .slot t e :: as, j, b, no, r, h, hw => by
    simp only [nilRowsT] at h
    simp only [nilRows, mapv_get]
    cases hb : b.get t with
    | none => rw [hb] at h; exact nilRows_sim h hw
    | some v =>
      rw [hb] at h
      cases v with
      | nils =>
        simp only at h
        obtain ⟨ei, h1, h⟩ := some_bind h
        obtain ⟨te, h2, h⟩ := some_bind h
        obtain ⟨h3, h⟩ := bif_some h
        obtain ⟨h4, h5⟩ := nilRows_sim h (hw.set (x := some (.row e te [] 0 0)) trivial)
        simp only [Option.map_some, dv, h1, Option.bind_some]
        have h6 : (Nat.blt 0 ei.size && (Option.map (dvO X.T) (no.get (n0 + j))).isNone) = true := by
          rw [← h3]; cases no.get (n0 + j) <;> rfl
        rw [h6]
        simp only [cond_true]
        rw [mapv_set, mapv_set] at h4
        exact ⟨h4, h5⟩
      | _ => simp only [Option.map_some, dv]; exact nilRows_sim h hw
  | .cell t off e :: as, j, b, no, r, h, hw => by
    simp only [nilRowsT] at h
    simp only [nilRows, mapv_get]
    cases hb : b.get t with
    | none => rw [hb] at h; exact nilRows_sim h hw
    | some v =>
      rw [hb] at h
      cases v with
      | ptr q p =>
        cases p with
        | zero =>
          simp only [Option.map_some, dv]
          simp only at h
          cases ho : no.get q with
          | none => rw [ho] at h; exact nilRows_sim h hw
          | some ob =>
            rw [ho] at h
            cases ob with
            | cells ct cs =>
              simp only at h
              simp only [Option.map_some, dvO]
              obtain ⟨oc, hc, h⟩ := some_bind h
              have other : (∀ d, (dvs X.T cs)[off]? = some d → d ≠ .nils) → nilRowsT X n0 (j + 1) as (b, no) = some r → (match (dvs X.T cs)[off]? with
                  | some .nils => (X.E.ty e).bind fun ei => bif Nat.blt 0 ei.size && (Option.map (dvO X.T) (no.get (n0 + j))).isNone then nilRows X.E n0 (j + 1) as (b.mapv (dv X.T), ((no.mapv (dvO X.T)).set q (some (.cells ct ((dvs X.T cs).set off (.rs (n0 + j) 0))))).set (n0 + j) (some (.row e [] 0 0))) else none
                  | _ => nilRows X.E n0 (j + 1) as (b.mapv (dv X.T), no.mapv (dvO X.T))) = some (r.1.mapv (dv X.T), r.2.mapv (dvO X.T)) ∧ WfO X.E r.2 := fun hn hh => by
                obtain ⟨g1, g2⟩ := nilRows_sim hh hw
                refine ⟨?_, g2⟩
                split
                · rename_i hq; exact absurd rfl (hn _ hq)
                · exact g1
              rcases cellAt_dvs X.T hX.t hc with ⟨rfl, h2⟩ | ⟨c, d, rfl, h2, h3⟩
              · exact other (fun d hd => by rw [h2] at hd; cases hd) h
              · by_cases hcn : c = .nils
                · subst hcn
                  rcases h3 with ⟨_, rfl⟩ | ⟨h3, _⟩
                  · simp only at h
                    obtain ⟨ei, h1, h⟩ := some_bind h
                    obtain ⟨te, h4, h⟩ := some_bind h
                    obtain ⟨cs', h5, h⟩ := some_bind h
                    obtain ⟨h6, h⟩ := bif_some h
                    obtain ⟨h7, h8⟩ := spliceW_dvs hX.t h5
                    have h9 : dvs X.T cs' = (dvs X.T cs).set off (.rs (n0 + j) 0) := by
                      rw [← h8, ← splice_set _ _ _ (List.getElem?_eq_some_iff.1 h2).1]
                      simp [dvs, dv]
                    obtain ⟨h10, h11⟩ := nilRows_sim h ((hw.set (x := some (.cells ct cs')) trivial).set (x := some (.row e te [] 0 0)) trivial)
                    rw [h2]
                    simp only [dv, h1, Option.bind_some]
                    have h12 : (Nat.blt 0 ei.size && (Option.map (dvO X.T) (no.get (n0 + j))).isNone) = true := by
                      rw [← h6]; cases no.get (n0 + j) <;> rfl
                    rw [h12]
                    simp only [cond_true]
                    rw [mapv_set, mapv_set] at h10
                    simp only [Option.map_some, dvO, h9] at h10
                    exact ⟨h10, h11⟩
                  · cases h3
                · refine other (fun d' hd' => ?_) ?_
                  · rw [h2] at hd'; cases hd'
                    rcases h3 with ⟨_, rfl⟩ | ⟨_, h3⟩
                    · cases c <;> simp [dv] at hcn ⊢
                    · intro e; subst e; simp [plain] at h3
                  · cases c <;> first | exact h | exact absurd rfl hcn
            | _ => simp only [Option.map_some, dvO]; exact nilRows_sim h hw
        | succ p => simp only [Option.map_some, dv]; exact nilRows_sim h hw
      | ap => cases h
      | _ => simp only [Option.map_some, dv]; exact nilRows_sim h hw

theorem norm0_sim {hint : Hint} {n0 : Nat} {s s' : StT S} (h : norm0T X hint n0 s = some s') (hw : WfO X.E s.objs) : norm0 X.E hint n0 (dvSt X.T s) = some (dvSt X.T s') ∧ WfO X.E s'.objs := by
  unfold norm0T at h
  obtain ⟨A, h1, h⟩ := some_bind h
  have hx := extra_dv hX.t s.objs s.base n0 hint.keep A
  generalize extraT s.objs s.base n0 hint.keep A = XL at h hx
  simp only at h
  generalize hLd : XL.map some ++ A = L at h
  obtain ⟨h2, h⟩ := bif_some h
  obtain ⟨b, h3, h⟩ := some_bind h
  obtain ⟨o, h4, h⟩ := some_bind h
  obtain ⟨o2, h5, h⟩ := some_bind h
  obtain ⟨r, h6, h⟩ := some_bind h
  cases h
  have e1 := accs_sim X.T hX.t h1
  have e2 := mapv_tm (dv X.T) _ (fun t d => bif Nat.testBit hint.keep t then (ren n0 L d).bind fun d => some (some d) else some none) (fun k x y hxy => by
    cases hk : Nat.testBit hint.keep k with
    | true =>
      rw [hk] at hxy
      obtain ⟨z, h7, h8⟩ := some_bind hxy
      cases h8
      simp only [cond_true, ren_dv hX.t, h7, Option.map_some, Option.bind_some]
    | false => rw [hk] at hxy; cases hxy; rfl) s.base 1 0 b h3
  have e3 := mapv_tm (dvO X.T) _ (fun i x => bif Nat.blt i n0 && !moved i L then (renObj n0 L x).bind fun x => some (some x) else some none) (fun k x y hxy => by
    cases hk : (Nat.blt k n0 && !moved k L) with
    | true =>
      rw [hk] at hxy
      obtain ⟨z, h7, h8⟩ := some_bind hxy
      cases h8
      simp only [cond_true, renO_sim hX h7, Option.map_some, Option.bind_some]
    | false => rw [hk] at hxy; cases hxy; rfl) s.objs 1 0 o h4
  have w1 : WfO X.E o := tm_wf h4 hw fun k x y hxy hx => by
    cases hk : (Nat.blt k n0 && !moved k L) with
    | true =>
      rw [hk] at hxy
      obtain ⟨z, h7, h8⟩ := some_bind hxy
      cases h8
      cases x with
      | loop fid bb ps as bo bid ex pa po =>
        simp only [renOT] at h7
        obtain ⟨b', _, h9⟩ := some_bind h7
        cases h9
        exact hx
      | cells t cs =>
        simp only [renOT] at h7
        obtain ⟨b', _, h9⟩ := some_bind h7
        cases h9
        trivial
      | row => cases h7; trivial
      | map => cases h7; trivial
      | siter => cases h7; trivial
    | false => rw [hk] at hxy; cases hxy; trivial
  obtain ⟨e4, w2⟩ := addRows_sim hX h5 w1
  obtain ⟨e5, w3⟩ := nilRows_sim hX h6 w2
  refine ⟨?_, w3⟩
  unfold norm0
  simp only [dvSt]
  rw [e1, hx, hLd, h2]
  simp only [cond_true]
  rw [e2]
  simp only [Option.bind_some]
  rw [e3]
  simp only [Option.bind_some]
  rw [e4]
  simp only [Option.bind_some]
  rw [e5]; rfl

omit hX in
theorem lift_dv (T : TS S) (x : TObj S) : dvO T (liftT x) = liftO (dvO T x) := by cases x <;> rfl

omit hX in
theorem mapv_mapv {α β γ : Type} (f : α → β) (g : β → γ) : ∀ (t : Tr α), (t.mapv f).mapv g = t.mapv fun x => g (f x)
  | .leaf => rfl
  | .node l v r => by simp only [Tr.mapv, mapv_mapv f g l, mapv_mapv f g r, Option.map_map]; rfl

omit hX in
theorem lift_wf {E : Env} {o : Tr (TObj S)} (hw : WfO E o) : WfO E (o.mapv liftT) := fun i => by
  rw [mapv_get]
  have := hw i
  cases hq : o.get i with
  | none => trivial
  | some x => rw [hq] at this; cases x <;> exact this

theorem norm_sim {hint : Hint} {n0 : Nat} {s s' : StT S} (h : normT X hint n0 s = some s') (hw : WfO X.E s.objs) : norm X.E hint n0 (dvSt X.T s) = some (dvSt X.T s') ∧ WfO X.E s'.objs := by
  unfold normT at h
  obtain ⟨s1, h1, h⟩ := some_bind h
  cases h
  obtain ⟨k1, k2⟩ := norm0_sim hX h1 hw
  unfold norm
  rw [k1]
  cases hint.raw with
  | true => exact ⟨rfl, k2⟩
  | false =>
    refine ⟨?_, lift_wf k2⟩
    simp only [Option.bind_some, cond_false, dvSt]
    congr 2
    rw [mapv_mapv, mapv_mapv]
    congr 1
    funext x
    exact (lift_dv X.T x).symm
end
end Go.Ab
