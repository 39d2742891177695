/- Each typed operation is the abstract one: building, growing, looking up. Conditions: the tables are right (XOk). -/
import Derived.Test.YtdoejdmpmpgmiaaTv5
set_option linter.unusedSectionVars false
set_option linter.unusedVariables false
set_option linter.unusedSimpArgs false
set_option linter.unusedSectionVars false
namespace Go.Ab
variable {S : Nat → Type} {R : Type} {X : TEnv S} (hX : XOk X)
include hX

theorem map_len_all {t : Ty} {n : Nat} (hn : tsz X.T t = n) (xs : List (Val S t)) : (xs.map (dcl X.T t)).all (fun c => Nat.beq c.length n) = true := by
  rw [List.all_eq_true]
  intro c hc
  obtain ⟨x, _, rfl⟩ := List.mem_map.1 hc
  rw [dcl_len hX.t, hn]; exact Nat.beq_refl n

theorem append_sim {nid : Nat} {h : Nat → Option (TObj S)} {t : TypeId} {s x : TV S} {k : KOut S R} {r : R} (hk : appendK X nid h t s x k = some r) :
    Sim X.T (appendD X.E nid (dvh X.T h) t (dv X.T s) (dv X.T x)) k r := by
  unfold appendK at hk
  obtain ⟨ti, h1, hk⟩ := some_bind hk
  unfold appendD
  rw [h1]
  simp only [Option.bind_some]
  split at hk
  · rename_i e he
    simp only [he]
    obtain ⟨ei, h2, hk⟩ := some_bind hk
    obtain ⟨te, h3, hk⟩ := some_bind hk
    obtain ⟨xs, h4, hk⟩ := some_bind hk
    obtain ⟨h5, hk⟩ := bif_some hk
    have hsz := (hX.code e te ei h3 h2).1
    rw [h2, elems_sim h4]
    simp only [Option.bind_some, h5, cond_true]
    cases s with
    | nils =>
      cases xs with
      | nil => exact sim_ret hk rfl
      | cons y ys =>
        simp only at hk
        obtain ⟨h6, hk⟩ := bif_some hk
        refine ⟨_, ?_, noLoop_cons rfl noLoop_nil, hk⟩
        simp only [dv, List.map_cons]
        rw [← List.map_cons, map_len_all hX hsz.symm, List.length_map, h6]
        simp [dvOut, dvu, dvO, dv]
    | rs id v =>
      simp only at hk
      obtain ⟨o, ho, hk⟩ := some_bind hk
      cases o <;> simp only [reduceCtorEq] at hk
      rename_i e' te' es p u
      obtain ⟨h6, hk⟩ := bif_some hk
      split at hk
      · rename_i q
        subst q
        obtain ⟨h7, hk⟩ := bif_some hk
        refine ⟨_, ?_, noLoop_cons rfl noLoop_nil, hk⟩
        simp only [dv, dvh, ho, Option.map_some, Option.bind_some, dvO]
        rw [h6, map_len_all hX hsz.symm, List.length_map, List.length_map, h7]
        simp [dvOut, dvu, dvO, dv]
      · cases hk
    | _ => cases hk
  · cases hk

theorem parts_sim (ρ : Nat → Option (TV S)) : ∀ {ps : List (Nat × Operand)} {vs : List (Nat × TV S)}, partsT ρ ps = some vs → partsD (dvr X.T ρ) ps = some (vs.map fun p => (p.1, dv X.T p.2))
  | [], vs, h => by cases h; rfl
  | (i, x) :: ps, vs, h => by
    simp only [partsT] at h
    obtain ⟨v, h1, h⟩ := some_bind h
    obtain ⟨vs', h2, h⟩ := some_bind h
    cases h
    simp only [partsD, opnd_dv, h1, Option.map_some, Option.bind_some, parts_sim ρ h2, List.map_cons]

theorem fillSt_sim {fs : List (Nat × Nat)} : ∀ {ps : List (Nat × TV S)} {cs r : List (TV S)}, fillStT X fs ps cs = some r → fillStruct fs X.E (ps.map fun p => (p.1, dv X.T p.2)) (dvs X.T cs) = some (dvs X.T r)
  | [], cs, r, h => by cases h; rfl
  | (i, v) :: ps, cs, r, h => by
    simp only [fillStT] at h
    obtain ⟨⟨ft, off⟩, h1, h⟩ := some_bind h
    obtain ⟨ti, h2, h⟩ := some_bind h
    obtain ⟨h3, h⟩ := bif_some h
    obtain ⟨cs', h4, h⟩ := some_bind h
    simp only at h2 h4
    obtain ⟨h5, h6⟩ := spliceW_dvs hX.t h4
    have h7 := Nat.eq_of_beq_eq_true h3
    have hle : Nat.ble (off + ti.size) (dvs X.T cs).length = true := by rw [Nat.ble_eq, dvs_len hX.t]; omega
    simp only [List.map_cons, fillStruct, h1, Option.bind_some, h2, cellsOf_dv, dvs_len hX.t (cellsT v), h3, hle, Bool.and_self, cond_true, h6]
    exact fillSt_sim h

theorem fillAr_sim {t : Ty} {n : Nat} : ∀ {ps : List (Nat × TV S)} {a a' : Nat → Val S t}, fillArT X t n ps a = some a' → fillArray (tsz X.T t) (ps.map fun p => (p.1, dv X.T p.2)) (acl X.T t n a) = some (acl X.T t n a')
  | [], a, a', h => by cases h; rfl
  | (i, v) :: ps, a, a', h => by
    simp only [fillArT] at h
    obtain ⟨x, h1, h⟩ := some_bind h
    obtain ⟨h2, h⟩ := bif_some h
    have h2 : i < n := by simpa [Tr.blt_dec] using h2
    have h3 : cellsOf (dv X.T v) = dcl X.T t x := by
      rw [tdecV_dv hX.t h1]
      cases t <;> rfl
    have hin : i * tsz X.T t + tsz X.T t ≤ n * tsz X.T t := by
      have := Nat.mul_le_mul_right (tsz X.T t) h2
      rw [Nat.succ_mul] at this; exact this
    have h4 : splice (acl X.T t n a) (i * tsz X.T t) (dcl X.T t x) = acl X.T t n (fun j => bif Nat.beq j i then x else a j) := by
      rw [spliceT_eq _ _ _ (by rw [acl_len hX.t, dcl_len hX.t]; exact hin), acl_upd h2, acl_split h2, dcl_len hX.t]
      have hl : ((List.range i).flatMap fun j => dcl X.T t (a j)).length = i * tsz X.T t := acl_len hX.t t i a
      generalize ((List.range i).flatMap fun j => dcl X.T t (a j)) = P1 at *
      rw [List.take_append_of_le_length (by omega), List.take_of_length_le (by omega), List.drop_append, List.drop_eq_nil_of_le (by omega), List.nil_append, hl, Nat.add_sub_cancel_left, List.drop_append, List.drop_eq_nil_of_le (by rw [dcl_len hX.t]; exact Nat.le_refl _), dcl_len hX.t, Nat.sub_self, List.drop_zero, List.nil_append, List.append_assoc]
    have hb : Nat.beq (dcl X.T t x).length (tsz X.T t) = true := by rw [dcl_len hX.t]; exact Nat.beq_refl _
    have hle : Nat.ble (i * tsz X.T t + tsz X.T t) (acl X.T t n a).length = true := by rw [Nat.ble_eq, acl_len hX.t]; exact hin
    simp only [List.map_cons, fillArray, h3, hb, hle, Bool.and_self, cond_true, h4]
    exact fillAr_sim h

theorem rows_sim {h : Nat → Option (TObj S)} {t : Ty} : ∀ {k : Nat} {ps : List (Nat × TV S)} {xs : List (Val S t)}, rowsT X h t k ps = some xs → rowsD (dvh X.T h) (tsz X.T t) k (ps.map fun p => (p.1, dv X.T p.2)) = some (xs.map (dcl X.T t))
  | _, [], xs, hr => by cases hr; rfl
  | k, (i, v) :: ps, xs, hr => by
    simp only [rowsT] at hr
    obtain ⟨h1, hr⟩ := bif_some hr
    obtain ⟨c, h2, hr⟩ := some_bind hr
    obtain ⟨x, h3, hr⟩ := some_bind hr
    obtain ⟨r, h4, hr⟩ := some_bind hr
    cases hr
    have h5 := tdec_dvs hX.t h3
    simp only [List.map_cons, rowsD, cellsOf_dv, dvs_len hX.t, h1, cond_true, frzs_dvs hX.t, h2, Option.map_some, Option.bind_some, h5, plains_cell (dcl_plain hX.t t x), rows_sim h4]

theorem rowsOfs_parts : ∀ (vs : List (Nat × TV S)), rowsOfs ((vs.map fun p => (p.1, dv X.T p.2)).map (·.2)) = rowsOfsT (vs.map (·.2))
  | [] => rfl
  | v :: vs => by simp only [List.map_cons, rowsOfs, rowsOfsT, rows_dv hX.t, rowsOfs_parts vs]

/-! Maps -/
omit hX in
theorem keyEq_scal {T : TS S} {t : Ty} {e : Val S t → Val S t → Bool} (hs : scalEq t = some e) (x y : Val S t) : keyEq (dval T t x) (dval T t y) = some (e x y) := by
  cases t <;> simp only [scalEq, reduceCtorEq] at hs <;> cases hs <;> simp [dval, keyEq]

theorem mfind_sim {kt et : Ty} {e : Val S kt → Val S kt → Bool} (hs : scalEq kt = some e) (key : Val S kt) : ∀ m : List (Val S kt × Val S et),
    mapFind (dval X.T kt key) (m.map fun p => (dval X.T kt p.1, dval X.T et p.2)) = some ((mfind e key m).map (dval X.T et))
  | [] => rfl
  | (k', v) :: m => by
    simp only [List.map_cons, mapFind, keyEq_scal hs, Option.bind_some, mfind]
    cases e key k' with
    | true => rfl
    | false => simp only [cond_false]; exact mfind_sim hs key m

theorem mput_sim {kt et : Ty} {e : Val S kt → Val S kt → Bool} (hs : scalEq kt = some e) (key : Val S kt) (x : Val S et) : ∀ m : List (Val S kt × Val S et),
    mapPut (dval X.T kt key) (dval X.T et x) (m.map fun p => (dval X.T kt p.1, dval X.T et p.2)) = some ((mput e key x m).map fun p => (dval X.T kt p.1, dval X.T et p.2))
  | [] => rfl
  | (k', v) :: m => by
    simp only [List.map_cons, mapPut, keyEq_scal hs, Option.bind_some, mput]
    cases e key k' with
    | true => simp
    | false => simp only [cond_false, mput_sim hs key x m, Option.bind_some, List.map_cons]

omit hX in
theorem keyFits_sim {T : TS S} {k : TK} {t : Ty} (h : keyFitsT k t = true) (x : Val S t) : keyFits k (dval T t x) = true := by
  cases k <;> cases t <;> simp [keyFitsT] at h <;> simp [dval, keyFits]

omit hX in
theorem dval_cell {T : TS S} {t : Ty} (h : isAggT t = false) (x : Val S t) : isCell (dval T t x) = true ∧ idfree (dval T t x) = true := by
  cases t <;> simp [isAggT] at h <;> simp [dval, isCell, idfree]

theorem len_sim {k : TK} {h : Nat → Option (TObj S)} {d v : TV S} (hl : lenT k h d = some v) : lenD k (dvh X.T h) (dv X.T d) = some (dv X.T v) := by
  unfold lenT at hl
  split at hl <;> first | (cases hl; done) | skip
  · cases hl; simp [dv, lenD]
  · cases hl; simp [dv, lenD]
  · obtain ⟨o, ho, hl⟩ := some_bind hl
    cases o <;> simp only [reduceCtorEq] at hl
    cases hl
    simp [dv, lenD, dvh, ho, dvO]
  · cases hl; simp [dv, lenD, elemsOf]
  · cases hl; simp [dv, lenD, elemsOf]
  · cases hl; simp [dv, lenD, elemsOf]
  · obtain ⟨o, ho, hl⟩ := some_bind hl
    cases o <;> simp only [reduceCtorEq] at hl
    obtain ⟨h1, hl⟩ := bif_some hl
    cases hl
    simp [dv, lenD, dvh, ho, dvO, elemsOf, h1]
  · cases hl; simp [dv, lenD]

theorem fold_sim {f : TV S → TV S → Option (TV S)} {g : DV → DV → Option DV} (hf : ∀ x y z, f x y = some z → g (dv X.T x) (dv X.T y) = some (dv X.T z)) : ∀ {xs : List (TV S)} {x z : TV S}, foldT f x xs = some z → foldD g (dv X.T x) (dvl X.T xs) = some (dv X.T z)
  | [], x, z, h => by cases h; simp [dvl, foldD]
  | y :: ys, x, z, h => by
    simp only [foldT] at h
    obtain ⟨w, h1, h⟩ := some_bind h
    simp only [dvl, foldD, hf _ _ _ h1, Option.bind_some]
    exact fold_sim hf h

theorem min_sim (x y z : TV S) (h : min2T x y = some z) : min2D (dv X.T x) (dv X.T y) = some (dv X.T z) := by
  unfold min2T at h
  split at h
  · cases h; simp [dv, min2D]
  · cases h
theorem max_sim (x y z : TV S) (h : max2T x y = some z) : max2D (dv X.T x) (dv X.T y) = some (dv X.T z) := by
  unfold max2T at h
  split at h
  · cases h; simp [dv, max2D]
  · cases h

omit hX in
theorem byte_get (s : ByteArray) (i : Nat) (hi : i < s.size) : (s[i]?).bind (fun b => ret (.int .u8 b.toNat)) = ret (.int .u8 (s.toList.getD i 0).toNat) := by
  have h1 : s[i]? = some s[i] := by simp [hi]
  rw [h1]
  have h2 : s.toList.getD i 0 = s[i] := by
    rw [List.getD_eq_getElem?_getD]
    simp [ByteArray.toList_eq, hi]
    rfl
  rw [h2]; rfl
end Go.Ab
