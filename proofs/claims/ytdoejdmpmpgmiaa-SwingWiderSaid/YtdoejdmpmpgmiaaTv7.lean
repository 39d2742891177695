/- Each typed operation is the abstract one. Conditions: the tables are right (XOk). -/
import Derived.Test.YtdoejdmpmpgmiaaTv6
set_option linter.unusedSectionVars false
set_option linter.unusedVariables false
set_option linter.unusedSimpArgs false
set_option linter.unusedSectionVars false
namespace Go.Ab
variable {S : Nat → Type} {R : Type} {X : TEnv S} (hX : XOk X)
include hX

/-- The operations with the most to them. -/
theorem big_sim {nid : Nat} {ρ : Nat → Option (TV S)} {h : Nat → Option (TObj S)} {op : Op} {k : KOut S R} {r : R} (hk : opK X nid ρ h op k = some r)
    (hop : (∃ t ps, op = .build t ps) ∨ (∃ t n ps, op = .buildSlice t n ps) ∨ (∃ t x lo hi, op = .slice t x lo hi none) ∨ (∃ t x i, op = .indexAddr t x i) ∨ (∃ t x i, op = .index t x i) ∨ (∃ t m x ok, op = .lookup t m x ok) ∨ (∃ t m x v, op = .mapUpdate t m x v)) :
    Sim X.T (evOp X.E nid (dvr X.T ρ) (dvh X.T h) op) k r := by
  rcases hop with ⟨t, ps, rfl⟩ | ⟨t, n, ps, rfl⟩ | ⟨t, x, lo, hi, rfl⟩ | ⟨t, x, i, rfl⟩ | ⟨t, x, i, rfl⟩ | ⟨t, m, x, ok, rfl⟩ | ⟨t, m, x, v, rfl⟩
  · simp only [opK] at hk
    obtain ⟨ti, h1, hkk⟩ := some_bind hk; replace hk := hkk; clear hkk
    obtain ⟨vs, h2, hkk⟩ := some_bind hk; replace hk := hkk; clear hkk
    obtain ⟨z, h3, hkk⟩ := some_bind hk; replace hk := hkk; clear hkk
    have hz := hX.zero t z ti h3 h1
    simp only [evOp, h1, Option.bind_some, parts_sim hX ρ h2]
    split at hk
    · rename_i fs he
      obtain ⟨cs, h4, hkk⟩ := some_bind hk; replace hk := hkk; clear hkk
      simp only [he]
      rw [← hz, fillSt_sim hX h4]
      exact sim_ret hk rfl
    · rename_i len e he
      obtain ⟨ei, hei, hkk⟩ := some_bind hk; replace hk := hkk; clear hkk
      obtain ⟨te, h4, hkk⟩ := some_bind hk; replace hk := hkk; clear hkk
      split at hk
      · rename_i te' n a
        split at hk
        · rename_i q
          subst q
          obtain ⟨a', h5, hkk⟩ := some_bind hk; replace hk := hkk; clear hkk
          simp only [he]
          have hsz := (hX.code e te' ei h4 hei).1
          have hz' : ti.zero = acl X.T te' n a := by rw [← hz]; simp [dvs]
          simp only [hei, Option.bind_some]
          rw [hz', hsz, fillAr_sim hX h5]
          refine sim_ret hk ?_
          simp [dv, dvs, ret]
        · cases hk
      · cases hk
    · cases hk
  · simp only [opK] at hk
    obtain ⟨ti, h1, hkk⟩ := some_bind hk; replace hk := hkk; clear hkk
    simp only [evOp, h1, Option.bind_some]
    split at hk
    · rename_i e he
      obtain ⟨ei, h2, hkk⟩ := some_bind hk; replace hk := hkk; clear hkk
      obtain ⟨te, h3, hkk⟩ := some_bind hk; replace hk := hkk; clear hkk
      obtain ⟨vs, h4, hkk⟩ := some_bind hk; replace hk := hkk; clear hkk
      obtain ⟨es, h5, hkk⟩ := some_bind hk; replace hk := hkk; clear hkk
      obtain ⟨h6, hkk⟩ := bif_some hk; replace hk := hkk; clear hkk
      have hsz := (hX.code e te ei h3 h2).1
      simp only [he, h2, Option.bind_some, parts_sim hX ρ h4]
      rw [hsz, rows_sim hX h5]
      simp only [Option.bind_some, List.length_map]
      rw [hsz] at h6
      rw [h6]
      refine ⟨_, ?_, noLoop_cons rfl (noLoop_show _ _), hk⟩
      simp only [cond_true, dvOut, dvu, List.map_cons, Option.map_some, dvO, dv, show_dv, rowsOfs_parts hX]
    · cases hk
  · simp only [opK] at hk
    obtain ⟨ti, h1, hkk⟩ := some_bind hk; replace hk := hkk; clear hkk
    obtain ⟨d, h2, hkk⟩ := some_bind hk; replace hk := hkk; clear hkk
    obtain ⟨lo', h3, hkk⟩ := some_bind hk; replace hk := hkk; clear hkk
    obtain ⟨hi', h4, hkk⟩ := some_bind hk; replace hk := hkk; clear hkk
    simp only [evOp, h1, Option.bind_some, opnd_dv, h2, Option.map_some, opt_dv, h3, h4]
    split at hk
    · rename_i s he
      simp only [he, dv]
      obtain ⟨hh, h5, hkk⟩ := bound_sim (T := X.T) hk; replace hk := hkk; clear hkk
      obtain ⟨l, h6, hkk⟩ := bound_sim (T := X.T) hk; replace hk := hkk; clear hkk
      simp only [subStr, h5, h6, Option.bind_some]
      exact sim_ret hk rfl
    · rename_i d e he
      obtain ⟨ei, h5, hkk⟩ := some_bind hk; replace hk := hkk; clear hkk
      obtain ⟨te, h6, hkk⟩ := some_bind hk; replace hk := hkk; clear hkk
      obtain ⟨es, h7, hkk⟩ := some_bind hk; replace hk := hkk; clear hkk
      obtain ⟨h8, hkk⟩ := bif_some hk; replace hk := hkk; clear hkk
      obtain ⟨hh, h9, hkk⟩ := bound_sim (T := X.T) hk; replace hk := hkk; clear hkk
      obtain ⟨l, h10, hkk⟩ := bound_sim (T := X.T) hk; replace hk := hkk; clear hkk
      have hsz := (hX.code e te ei h6 h5).1
      simp only [he, h5, Option.bind_some, elems_sim h7, map_len_all hX hsz.symm, h8, Bool.and_self, cond_true, subSl, List.length_map, h9, h10]
      refine ⟨_, ?_, noLoop_show _ _, hk⟩
      simp only [dvOut, Option.map_some, dv, List.map_drop, List.map_take, show_dv, rows_dv hX.t]
    · cases hk
  · simp only [opK] at hk
    obtain ⟨ti, h1, hkk⟩ := some_bind hk; replace hk := hkk; clear hkk
    obtain ⟨d, h2, hkk⟩ := some_bind hk; replace hk := hkk; clear hkk
    obtain ⟨i', h3, hkk⟩ := some_bind hk; replace hk := hkk; clear hkk
    simp only [evOp, h1, Option.bind_some, opnd_dv, h2, Option.map_some, h3]
    split at hk
    · rename_i len e he
      obtain ⟨ei, h4, hkk⟩ := some_bind hk; replace hk := hkk; clear hkk
      simp only [he, h4, Option.bind_some]
      cases d with
      | ptr id o =>
        simp only at hk
        obtain ⟨j, h5, h6, hkk⟩ := idx_sim (T := X.T) hk; replace hk := hkk; clear hkk
        obtain ⟨_, hkk⟩ := bif_some hk; replace hk := hkk; clear hkk
        simp only [h5, Option.bind_some, dv, addrOff]
        exact sim_ret hk (by simp [dv, ret])
      | pub cs0 =>
        simp only at hk
        split at hk
        · rename_i t' n a cs hcs
          obtain ⟨h5, hkk⟩ := bif_some hk; replace hk := hkk; clear hkk
          obtain ⟨j, h6, h7, hkk⟩ := idx_sim (T := X.T) hk; replace hk := hkk; clear hkk
          simp only [Bool.and_eq_true] at h5
          have e1 := Nat.eq_of_beq_eq_true h5.1
          have e2 := Nat.eq_of_beq_eq_true h5.2
          subst e1
          have hl : ((List.range j).flatMap fun j => dcl X.T t' (a j)).length = j * tsz X.T t' := acl_len hX.t t' j a
          have hcut : (dvs X.T cs0).drop (j * ei.size) = dvs X.T (tcl X.T t' (a j) ++ .arr t' (n - (j + 1)) (fun m => a (j + 1 + m)) :: cs) := by
            rw [← hdF_dvs hX.t 10 cs0, hcs, dvs_append, dvs_cons, dvs_cons, tcl_dcl hX.t, ← e2]
            simp only [cell1]
            rw [acl_split h7, List.append_assoc, List.drop_append, hl, Nat.sub_self, List.drop_eq_nil_of_le (by omega), List.nil_append, List.drop_zero, List.append_assoc]
            congr 2
            unfold acl
            rw [List.range'_eq_map_range, List.flatMap_map]
          simp only [h6, Option.bind_some, dv, addrOff, hcut]
          exact sim_ret hk (by simp [dv, ret])
        · cases hk
      | _ => cases hk
    · rename_i e he
      obtain ⟨ei, h4, hkk⟩ := some_bind hk; replace hk := hkk; clear hkk
      simp only [he, h4, Option.bind_some]
      cases d with
      | sl te xs =>
        simp only at hk
        obtain ⟨h5, hkk⟩ := bif_some hk; replace hk := hkk; clear hkk
        obtain ⟨j, h6, h7, hkk⟩ := idx_sim (T := X.T) hk; replace hk := hkk; clear hkk
        simp only [Bool.and_eq_true] at h5
        have e1 := Nat.eq_of_beq_eq_true h5.1
        have hg : xs.getD j (tdf X.T te) = xs[j] := by simp [List.getD_eq_getElem?_getD, h7]
        rw [hg] at hk
        simp only [dv, List.length_map, h6, Option.bind_some, List.getElem?_map, List.getElem?_eq_getElem h7, Option.map_some]
        have h8 : Nat.beq (dcl X.T te xs[j]).length ei.size = true := by rw [dcl_len hX.t, e1]; exact Nat.beq_refl _
        rw [h8, h5.2]
        exact sim_ret hk (by simp [dv, tcl_dcl hX.t, ret])
      | rs id v =>
        simp only at hk
        obtain ⟨o, ho, hkk⟩ := some_bind hk; replace hk := hkk; clear hkk
        cases o <;> simp only [reduceCtorEq] at hk
        obtain ⟨h5, hkk⟩ := bif_some hk; replace hk := hkk; clear hkk
        obtain ⟨j, h6, h7, hkk⟩ := idx_sim (T := X.T) hk; replace hk := hkk; clear hkk
        simp only [dv, dvh, ho, Option.map_some, Option.bind_some, dvO, List.length_map, h6, h5, cond_true]
        exact sim_ret hk rfl
      | _ => cases hk
    · cases hk
  · simp only [opK] at hk
    obtain ⟨ti, h1, hkk⟩ := some_bind hk; replace hk := hkk; clear hkk
    obtain ⟨d, h2, hkk⟩ := some_bind hk; replace hk := hkk; clear hkk
    obtain ⟨i', h3, hkk⟩ := some_bind hk; replace hk := hkk; clear hkk
    simp only [evOp, h1, Option.bind_some, opnd_dv, h2, Option.map_some, h3]
    split at hk
    · rename_i len e te n a he
      obtain ⟨ei, h4, hkk⟩ := some_bind hk; replace hk := hkk; clear hkk
      obtain ⟨h5, hkk⟩ := bif_some hk; replace hk := hkk; clear hkk
      obtain ⟨j, h6, h7, hkk⟩ := idx_sim (T := X.T) hk; replace hk := hkk; clear hkk
      simp only [Bool.and_eq_true] at h5
      have e1 := Nat.eq_of_beq_eq_true h5.1.1
      have e2 := Nat.eq_of_beq_eq_true h5.1.2
      have e3 := eq_of_beq h5.2
      subst e1
      simp only [he, h4, Option.bind_some, dv, h6]
      have hp : partOf ei (dvs X.T [.arr te n a]) (j * ei.size) = some (dval X.T te (a j)) := by
        have hl : ((List.range j).flatMap fun j => dcl X.T te (a j)).length = j * tsz X.T te := acl_len hX.t te j a
        have hd := dcl_len hX.t te (a j)
        have hal := acl_len hX.t te n a
        have hin : j * tsz X.T te + tsz X.T te ≤ n * tsz X.T te := by
          have := Nat.mul_le_mul_right (tsz X.T te) h7
          rw [Nat.succ_mul] at this; exact this
        simp only [dvs, List.append_nil]
        unfold partOf
        rw [← e2, e3]
        have hle : Nat.ble (j * tsz X.T te + tsz X.T te) (acl X.T te n a).length = true := by rw [Nat.ble_eq, hal]; exact hin
        have hdrop : (acl X.T te n a).drop (j * tsz X.T te) = dcl X.T te (a j) ++ (List.range' (j + 1) (n - (j + 1))).flatMap fun j => dcl X.T te (a j) := by
          rw [acl_split h7, List.drop_append, hl, Nat.sub_self, List.drop_eq_nil_of_le (by omega)]; rfl
        cases hag : isAggT te with
        | true =>
          simp only [cond_true, hle, hdrop]
          rw [List.take_append_of_le_length (by omega), List.take_of_length_le (by omega)]
          cases te <;> simp [isAggT] at hag <;> rfl
        | false =>
          simp only [cond_false]
          have : (acl X.T te n a)[j * tsz X.T te]? = ((acl X.T te n a).drop (j * tsz X.T te))[0]? := by simp
          rw [this, hdrop, dcl_scal _ hag]; rfl
      rw [hp]
      exact sim_ret hk (by rw [tval_dval hX.t]; rfl)
    · rename_i s he
      obtain ⟨j, h6, h7, hkk⟩ := idx_sim (T := X.T) hk; replace hk := hkk; clear hkk
      simp only [he, dv, h6, Option.bind_some, byte_get s j h7]
      exact sim_ret hk rfl
    · cases hk
  · simp only [opK] at hk
    obtain ⟨ti, h1, hkk⟩ := some_bind hk; replace hk := hkk; clear hkk
    obtain ⟨mv, h2, hkk⟩ := some_bind hk; replace hk := hkk; clear hkk
    obtain ⟨kv, h3, hkk⟩ := some_bind hk; replace hk := hkk; clear hkk
    simp only [evOp, h1, Option.bind_some, opnd_dv, h2, Option.map_some, h3]
    split at hk
    · rename_i kt e id he
      obtain ⟨ei, h4, hkk⟩ := some_bind hk; replace hk := hkk; clear hkk
      obtain ⟨ki, h5, hkk⟩ := some_bind hk; replace hk := hkk; clear hkk
      obtain ⟨z, h6, hkk⟩ := some_bind hk; replace hk := hkk; clear hkk
      obtain ⟨o, ho, hkk⟩ := some_bind hk; replace hk := hkk; clear hkk
      cases o <;> simp only [reduceCtorEq] at hk
      rename_i kc ec es
      obtain ⟨h7, hkk⟩ := bif_some hk; replace hk := hkk; clear hkk
      obtain ⟨key, h8, hkk⟩ := some_bind hk; replace hk := hkk; clear hkk
      obtain ⟨zv, h9, hkk⟩ := some_bind hk; replace hk := hkk; clear hkk
      obtain ⟨eq, h10, hkk⟩ := some_bind hk; replace hk := hkk; clear hkk
      simp only [Bool.and_eq_true, Bool.not_eq_true'] at h7
      obtain ⟨⟨⟨q1, q2⟩, q3⟩, q4⟩ := h7
      have hz := hX.zero e z ei h6 h4
      have hkey := tdecV_dv hX.t h8
      have hzd : ei.zero = [dval X.T ec zv] := by rw [← hz, tdec_dvs hX.t h9, dcl_scal _ q4]
      simp only [he, h4, h5, Option.bind_some, dv, dvh, ho, Option.map_some, dvO, hkey, keyFits_sim q1, q2, q3, Bool.not_false, Bool.and_self, cond_true, mfind_sim hX h10, hzd]
      cases hm : mfind eq key es with
      | none =>
        rw [hm] at hk
        cases ok
        · exact sim_ret hk (by simp [tval_dval hX.t])
        · exact sim_ret hk (by simp [dv, dvl, tval_dval hX.t])
      | some v =>
        rw [hm] at hk
        cases ok
        · exact sim_ret hk (by simp [tval_dval hX.t])
        · exact sim_ret hk (by simp [dv, dvl, tval_dval hX.t])
    · cases hk
  · simp only [opK] at hk
    obtain ⟨ti, h1, hkk⟩ := some_bind hk; replace hk := hkk; clear hkk
    obtain ⟨mv, h2, hkk⟩ := some_bind hk; replace hk := hkk; clear hkk
    obtain ⟨kv, h3, hkk⟩ := some_bind hk; replace hk := hkk; clear hkk
    obtain ⟨vv, h3', hkk⟩ := some_bind hk; replace hk := hkk; clear hkk
    simp only [evOp, h1, Option.bind_some, opnd_dv, h2, Option.map_some, h3, h3']
    split at hk
    · rename_i kt e id he
      obtain ⟨ki, h5, hkk⟩ := some_bind hk; replace hk := hkk; clear hkk
      obtain ⟨o, ho, hkk⟩ := some_bind hk; replace hk := hkk; clear hkk
      cases o <;> simp only [reduceCtorEq] at hk
      rename_i kc ec es
      obtain ⟨h7, hkk⟩ := bif_some hk; replace hk := hkk; clear hkk
      obtain ⟨key, h8, hkk⟩ := some_bind hk; replace hk := hkk; clear hkk
      obtain ⟨_, _, hkk⟩ := some_bind hk; replace hk := hkk; clear hkk
      obtain ⟨xv, h9, hkk⟩ := some_bind hk; replace hk := hkk; clear hkk
      obtain ⟨eq, h10, hkk⟩ := some_bind hk; replace hk := hkk; clear hkk
      simp only [Bool.and_eq_true, Bool.not_eq_true'] at h7
      obtain ⟨q1, q4⟩ := h7
      have hkey := tdecV_dv hX.t h8
      have hval := tdecV_dv hX.t h9
      obtain ⟨c1, c2⟩ := dval_cell q4 xv
      simp only [he, h5, Option.bind_some, dv, dvh, ho, Option.map_some, dvO, hkey, hval, keyFits_sim q1, c1, c2, Bool.and_self, cond_true, mput_sim hX h10]
      refine ⟨_, ?_, noLoop_cons rfl noLoop_nil, hk⟩
      rw [c1, c2]
      simp [dvOut, dvu, dvO, dv, dvl]
    · cases hk

theorem op_sim {nid : Nat} {ρ : Nat → Option (TV S)} {h : Nat → Option (TObj S)} {op : Op} {k : KOut S R} {r : R} (hk : opK X nid ρ h op k = some r) :
    Sim X.T (evOp X.E nid (dvr X.T ρ) (dvh X.T h) op) k r := by
  cases op with
  | build t ps => exact big_sim hX hk (.inl ⟨_, _, rfl⟩)
  | buildSlice t n ps => exact big_sim hX hk (.inr (.inl ⟨_, _, _, rfl⟩))
  | slice t x lo hi mx =>
    cases mx with
    | none => exact big_sim hX hk (.inr (.inr (.inl ⟨_, _, _, _, rfl⟩)))
    | some _ => cases hk
  | indexAddr t x i => exact big_sim hX hk (.inr (.inr (.inr (.inl ⟨_, _, _, rfl⟩))))
  | index t x i => exact big_sim hX hk (.inr (.inr (.inr (.inr (.inl ⟨_, _, _, rfl⟩)))))
  | lookup t m x ok => exact big_sim hX hk (.inr (.inr (.inr (.inr (.inr (.inl ⟨_, _, _, _, rfl⟩))))))
  | mapUpdate t m x v => exact big_sim hX hk (.inr (.inr (.inr (.inr (.inr (.inr ⟨_, _, _, _, rfl⟩))))))
  | move x =>
    obtain ⟨v, h1, hk⟩ := some_bind hk
    simp only [evOp, opnd_dv, h1, Option.map_some, Option.bind_some]
    exact sim_ret hk rfl
  | assign x =>
    obtain ⟨v, h1, hk⟩ := some_bind hk
    simp only [evOp, opnd_dv, h1, Option.map_some, Option.bind_some]
    exact sim_ret hk rfl
  | pick c a b =>
    obtain ⟨v, h1, hk⟩ := some_bind hk
    cases v <;> simp only [reduceCtorEq] at hk
    rename_i c
    simp only [evOp, opnd_dv, h1, Option.map_some, Option.bind_some, dv]
    unfold pickK at hk
    split at hk
    · rename_i x y ha hb
      rw [ha, hb]
      cases c <;> exact sim_ret hk rfl
    · cases c with
      | true =>
        simp only [cond_true] at hk ⊢
        obtain ⟨v, h2, hk⟩ := some_bind hk
        rw [h2]; exact sim_ret hk rfl
      | false =>
        simp only [cond_false] at hk ⊢
        obtain ⟨v, h2, hk⟩ := some_bind hk
        rw [h2]; exact sim_ret hk rfl
  | alloc t =>
    obtain ⟨ti, h1, hk⟩ := some_bind hk
    obtain ⟨z, h2, hk⟩ := some_bind hk
    refine ⟨_, ?_, noLoop_cons rfl noLoop_nil, hk⟩
    simp only [evOp, h1, Option.bind_some, dvOut, dvu, List.map_cons, List.map_nil, Option.map_some, dv, dvO, pack1_dvs hX, hX.zero t z ti h2 h1]
  | box t x =>
    obtain ⟨v, h1, hk⟩ := some_bind hk
    obtain ⟨h2, hk⟩ := bif_some hk
    refine ⟨_, ?_, noLoop_cons rfl noLoop_nil, hk⟩
    have h3 := cellsT_cell hX h2
    rw [cellsOf_dv] at h3
    simp only [evOp, opnd_dv, h1, Option.map_some, Option.bind_some, cellsOf_dv, h3, cond_true, dvOut, dvu, List.map_cons, List.map_nil, dv, dvO, pack1_dvs hX]
  | load t a =>
    obtain ⟨ti, h1, hk⟩ := some_bind hk
    obtain ⟨v, h2, hk⟩ := some_bind hk
    simp only [evOp, h1, opnd_dv, h2, Option.map_some, Option.bind_some]
    exact load_sim hX hk
  | store t a x =>
    obtain ⟨ti, h1, hk⟩ := some_bind hk
    obtain ⟨v, h2, hk⟩ := some_bind hk
    obtain ⟨u, h3, hk⟩ := some_bind hk
    simp only [evOp, h1, opnd_dv, h2, h3, Option.map_some, Option.bind_some]
    exact store_sim hX hk
  | nilCheck x =>
    obtain ⟨v, h1, hk⟩ := some_bind hk
    simp only [evOp, opnd_dv, h1, Option.map_some, Option.bind_some]
    cases v <;> simp only [reduceCtorEq] at hk <;> exact sim_ret hk rfl
  | binOp op t x y u =>
    obtain ⟨a, h1, hk⟩ := some_bind hk
    obtain ⟨b, h2, hk⟩ := some_bind hk
    simp only [evOp, opnd_dv, h1, h2, Option.map_some, Option.bind_some]
    exact bin_sim hX hk
  | unOp op t x =>
    obtain ⟨a, h1, hk⟩ := some_bind hk
    simp only [evOp, opnd_dv, h1, Option.map_some, Option.bind_some]
    exact un_sim hk
  | convert s d x =>
    obtain ⟨ts, h1, hk⟩ := some_bind hk
    obtain ⟨td, h2, hk⟩ := some_bind hk
    obtain ⟨v, h3, hk⟩ := some_bind hk
    simp only [evOp, h1, h2, opnd_dv, h3, Option.map_some, Option.bind_some]
    split at hk
    · rename_i he; simp only [he, dv]; exact sim_ret hk rfl
    · rename_i he; simp only [he, dv]; exact sim_ret hk rfl
    · cases hk
  | makeFunc f a c =>
    obtain ⟨as, h1, hk⟩ := some_bind hk
    obtain ⟨bs, h2, hk⟩ := some_bind hk
    simp only [evOp, opnds_dv, h1, h2, Option.map_some, Option.bind_some]
    exact sim_ret hk (by simp [dv, ret])
  | makeMap t sz =>
    cases sz with
    | some _ => cases hk
    | none =>
      obtain ⟨ti, h1, hk⟩ := some_bind hk
      split at hk
      · obtain ⟨kt, h2, hk⟩ := some_bind hk
        obtain ⟨et, h3, hk⟩ := some_bind hk
        refine ⟨_, ?_, noLoop_cons rfl noLoop_nil, hk⟩
        simp [evOp, dvOut, dvu, dv, dvO]
      · cases hk
  | fieldAddr s x f =>
    obtain ⟨ti, h1, hk⟩ := some_bind hk
    obtain ⟨v, h2, hk⟩ := some_bind hk
    simp only [evOp, h1, opnd_dv, h2, Option.map_some, Option.bind_some]
    split at hk
    · rename_i fs he
      obtain ⟨⟨ft, off⟩, h3, hk⟩ := some_bind hk
      obtain ⟨fi, h4, hk⟩ := some_bind hk
      obtain ⟨h5, hk⟩ := bif_some hk
      obtain ⟨w, h6, hk⟩ := some_bind hk
      simp only at h4 h6
      simp only [he, h3, h4, Option.bind_some, h5, cond_true, addrT_dv hX.t h6]
      exact sim_ret hk rfl
    · cases hk
  | field s x f =>
    obtain ⟨ti, h1, hk⟩ := some_bind hk
    obtain ⟨v, h2, hk⟩ := some_bind hk
    simp only [evOp, h1, opnd_dv, h2, Option.map_some, Option.bind_some]
    split at hk
    · rename_i fs cs he
      obtain ⟨⟨ft, off⟩, h3, hk⟩ := some_bind hk
      obtain ⟨fi, h4, hk⟩ := some_bind hk
      obtain ⟨w, h6, hk⟩ := some_bind hk
      simp only at h4 h6
      simp only [he, dv, h3, h4, Option.bind_some, (partT_dvs hX.t h6).1]
      exact sim_ret hk rfl
    · cases hk
  | range t x =>
    obtain ⟨ti, h1, hk⟩ := some_bind hk
    obtain ⟨v, h2, hk⟩ := some_bind hk
    simp only [evOp, h1, opnd_dv, h2, Option.map_some, Option.bind_some]
    split at hk
    · rename_i s he
      refine ⟨_, ?_, noLoop_cons rfl noLoop_nil, hk⟩
      simp [he, dvOut, dvu, dv, dvO]
    · cases hk
  | next it b =>
    cases b with
    | false => cases hk
    | true =>
      obtain ⟨v, h1, hk⟩ := some_bind hk
      cases v <;> simp only [reduceCtorEq] at hk
      rename_i id
      obtain ⟨o, ho, hk⟩ := some_bind hk
      cases o <;> simp only [reduceCtorEq] at hk
      rename_i s pos
      simp only [evOp, opnd_dv, h1, Option.map_some, Option.bind_some, dv, dvh, ho, dvO]
      cases hp : decide (pos < s.size) with
      | true =>
        rw [hp] at hk
        refine ⟨_, ?_, noLoop_cons rfl noLoop_nil, hk⟩
        simp [dvOut, dvu, dv, dvl, dvO]
      | false =>
        rw [hp] at hk
        exact sim_ret hk (by simp [dv, dvl])
  | extract t i =>
    obtain ⟨v, h1, hk⟩ := some_bind hk
    cases v <;> simp only [reduceCtorEq] at hk
    rename_i vs
    obtain ⟨w, h2, hk⟩ := some_bind hk
    simp only [evOp, opnd_dv, h1, Option.map_some, Option.bind_some, dv, dvl_map, List.getElem?_map, h2]
    exact sim_ret hk rfl
  | call c =>
    simp only [opK] at hk
    split at hk
    · rename_i hc
      split at hk
      · rename_i x t ts hx ht
        obtain ⟨ti, h1, hk⟩ := some_bind hk
        obtain ⟨v, h2, hk⟩ := some_bind hk
        obtain ⟨w, h3, hk⟩ := some_bind hk
        simp only [evOp, hc, hx, ht, h1, opnd_dv, h2, Option.map_some, Option.bind_some, len_sim hX h3]
        exact sim_ret hk rfl
      · cases hk
    · rename_i hc
      split at hk
      · rename_i s x t t' hx ht
        obtain ⟨h0, hk⟩ := bif_some hk
        obtain ⟨v, h2, hk⟩ := some_bind hk
        obtain ⟨w, h3, hk⟩ := some_bind hk
        simp only [evOp, hc, hx, ht, h0, cond_true, opnd_dv, h2, h3, Option.map_some, Option.bind_some]
        exact append_sim hX hk
      · cases hk
    · rename_i hc
      obtain ⟨vs, h1, hk⟩ := some_bind hk
      simp only [evOp, hc, opnds_dv, h1, Option.map_some, Option.bind_some]
      split at hk
      · obtain ⟨w, h2, hk⟩ := some_bind hk
        simp only [dvl, fold_sim hX (min_sim hX) h2, Option.bind_some]
        exact sim_ret hk rfl
      · cases hk
    · rename_i hc
      obtain ⟨vs, h1, hk⟩ := some_bind hk
      simp only [evOp, hc, opnds_dv, h1, Option.map_some, Option.bind_some]
      split at hk
      · obtain ⟨w, h2, hk⟩ := some_bind hk
        simp only [dvl, fold_sim hX (max_sim hX) h2, Option.bind_some]
        exact sim_ret hk rfl
      · cases hk
    · cases hk
  | _ => cases hk
end Go.Ab
