/- Each typed operation is the abstract one: all operations. Conditions: the tables are right (XOk). -/
import Derived.Test.YtdoejdmpmpgmiaaTv4
import Derived.Test.YtdoejdmpmpgmiaaAb26
set_option linter.unusedSectionVars false
set_option linter.unusedVariables false
set_option linter.unusedSimpArgs false
set_option linter.unusedSectionVars false
namespace Go.Ab
variable {S : Nat → Type} {R : Type}

theorem acl_split {T : TS S} {t : Ty} {n i : Nat} (h : i < n) (a : Nat → Val S t) :
    acl T t n a = ((List.range i).flatMap fun j => dcl T t (a j)) ++ (dcl T t (a i) ++ (List.range' (i + 1) (n - (i + 1))).flatMap fun j => dcl T t (a j)) := by
  unfold acl
  rw [range_cut h, List.flatMap_append, List.flatMap_cons]

theorem acl_upd {T : TS S} {t : Ty} {n i : Nat} (h : i < n) (a : Nat → Val S t) (x : Val S t) :
    acl T t n (fun j => bif Nat.beq j i then x else a j) = ((List.range i).flatMap fun j => dcl T t (a j)) ++ (dcl T t x ++ (List.range' (i + 1) (n - (i + 1))).flatMap fun j => dcl T t (a j)) := by
  rw [acl_split h]
  have e1 : ∀ j ∈ List.range i, dcl T t ((fun j => bif Nat.beq j i then x else a j) j) = dcl T t (a j) := fun j hj => by
    have : j < i := List.mem_range.1 hj
    have hb : Nat.beq j i = false := by rw [Tr.beq_dec]; simp; omega
    simp [hb]
  have e2 : ∀ j ∈ List.range' (i + 1) (n - (i + 1)), dcl T t ((fun j => bif Nat.beq j i then x else a j) j) = dcl T t (a j) := fun j hj => by
    have := List.mem_range'_1.1 hj
    have hb : Nat.beq j i = false := by rw [Tr.beq_dec]; simp; omega
    simp [hb]
  have e3 : Nat.beq i i = true := Nat.beq_refl i
  simp only [e3, cond_true]
  congr 1
  · rw [List.flatMap_def, List.flatMap_def, List.map_congr_left e1]
  · congr 1
    rw [List.flatMap_def, List.flatMap_def, List.map_congr_left e2]

variable {X : TEnv S} (hX : XOk X)
include hX

theorem pack1_dvs (t : TypeId) (cs : List (TV S)) : dvs X.T (pack1 X t cs) = dvs X.T cs := by
  unfold pack1
  cases X.code t with
  | none => rfl
  | some c =>
    simp only
    cases hd : tdec X.T c cs with
    | none => rfl
    | some x => simp only; rw [tcl_dcl hX.t, tdec_dvs hX.t hd]

theorem cellsT_cell {v : TV S} (h : (cellsT v).all isCellT = true) : (cellsOf (dv X.T v)).all isCell = true := by
  rw [cellsOf_dv]
  generalize cellsT v = cs at h
  induction cs with
  | nil => simp [dvs]
  | cons c cs ih =>
    simp only [List.all_cons, Bool.and_eq_true] at h
    rw [dvs_cons, List.all_append, ih h.2, Bool.and_true]
    cases c <;> simp only [isCellT, Bool.false_eq_true] at h <;> simp only [cell1, dv, List.all_cons, List.all_nil, isCell, Bool.and_true]
    · exact plains_cell (acl_plain hX.t _ _ _)
    · exact plains_cell (hX.t.plain _ _)
    · exact absurd h.1 (by simp)
    · exact absurd h.1 (by simp)

theorem store_sim {ti : TI} {h : Nat → Option (TObj S)} {a v : TV S} {k : KOut S R} {r : R} (hk : storeK X ti h a v k = some r) :
    Sim X.T ((storeD ti (dvh X.T h) (dv X.T a) (dv X.T v)).bind fun u => some ⟨some (.tup []), u⟩) k r := by
  unfold storeK at hk
  have h0 := (bif_some hk).1
  replace hk := (bif_some hk).2
  simp only [Bool.and_eq_true] at h0
  have hc : (Nat.beq (cellsOf (dv X.T v)).length ti.size && (cellsOf (dv X.T v)).all isCell) = true := by
    rw [cellsT_cell hX h0.2, cellsOf_dv, dvs_len hX.t, h0.1]; rfl
  have hsz := Nat.eq_of_beq_eq_true h0.1
  unfold storeD
  rw [hc]
  simp only [cond_true]
  cases a with
  | ptr id off =>
    simp only at hk
    obtain ⟨o, ho, hk⟩ := some_bind hk
    cases o <;> simp only [reduceCtorEq] at hk
    rename_i ct cs
    obtain ⟨cs', h1, hk⟩ := some_bind hk
    obtain ⟨h2, h3⟩ := spliceW_dvs hX.t h1
    have hle : Nat.ble (off + ti.size) (dvs X.T cs).length = true := by rw [Nat.ble_eq, dvs_len hX.t]; omega
    refine ⟨_, ?_, ?_, hk⟩
    · simp only [dv, dvh, ho, Option.map_some, Option.bind_some, dvO, hle, cond_true, cellsOf_dv, h3]
      simp [dvOut, dvu, dvO, dv, dvl, pack1_dvs hX]
    · exact noLoop_cons rfl noLoop_nil
  | ap id base i e off =>
    simp only at hk
    obtain ⟨o, ho, hk⟩ := some_bind hk
    cases o <;> simp only [reduceCtorEq] at hk
    rename_i ct cs
    obtain ⟨A, hA, hk⟩ := some_bind hk
    obtain ⟨t, n, ar⟩ := A
    simp only at hk
    obtain ⟨h1, hk⟩ := bif_some hk
    obtain ⟨h2, hk⟩ := bif_some hk
    obtain ⟨c, h3, hk⟩ := some_bind hk
    obtain ⟨x, h4, hk⟩ := some_bind hk
    obtain ⟨cs', h5, hk⟩ := some_bind hk
    have h1 := Nat.eq_of_beq_eq_true h1
    have h2 : i < n := by simpa [Tr.blt_dec] using h2
    obtain ⟨h6, h7⟩ := spliceW_dvs hX.t h3
    obtain ⟨h8, h9⟩ := spliceW_dvs hX.t h5
    rw [tcl_dcl hX.t, tdec_dvs hX.t h4] at h7
    unfold arrAt at hA
    obtain ⟨q, h10, hA⟩ := some_bind hA
    split at hA
    · rename_i t' n' a' q' hq'
      cases hA
      obtain ⟨h11, h12⟩ := dropW_dvs hX.t h10
      rw [← hdF_dvs hX.t 10 q, hq'] at h12
      rw [← dvs_len hX.t q, ← hdF_dvs hX.t 10 q, hq', dvs_len hX.t] at h11
      have hlenT : wds X.T (tcl X.T t (ar i)) = tsz X.T t := by rw [← dvs_len hX.t, tcl_dcl hX.t, dcl_len hX.t]
      rw [hlenT] at h6
      have hlen := dvs_len hX.t cs
      rw [h11] at hlen
      simp only [wds, wd] at hlen
      have hin : i * tsz X.T t + tsz X.T t ≤ n * tsz X.T t := by
        have := Nat.mul_le_mul_right (tsz X.T t) h2
        rw [Nat.succ_mul] at this; exact this
      have hle : Nat.ble (base + i * e + off + ti.size) (dvs X.T cs).length = true := by rw [Nat.ble_eq, h1]; omega
      have hnew : splice (dvs X.T cs) (base + i * e + off) (dvs X.T (cellsT v)) = dvs X.T cs' := by
        rw [← h9]
        have hv2 : (dvs X.T (cellsT v)).length = wds X.T (cellsT v) := dvs_len hX.t _
        rw [spliceT_eq _ _ _ (by rw [hv2, h1]; omega)]
        have hcut : ∀ m, (dvs X.T cs).drop (base + m) = (acl X.T t n ar ++ dvs X.T q').drop m := fun m => by
          rw [← List.drop_drop, h12, dvs_cons]; rfl
        have hal : (acl X.T t n (fun j => bif Nat.beq j i then x else ar j)).length = n * tsz X.T t := acl_len hX.t t n _
        have harr : dvs X.T [.arr t n (fun j => bif Nat.beq j i then x else ar j)] = acl X.T t n (fun j => bif Nat.beq j i then x else ar j) := by simp [dvs]
        rw [harr, spliceT_eq _ _ _ (by rw [hal]; omega), hal]
        have hpre : (dvs X.T cs).take (base + i * e + off) = (dvs X.T cs).take base ++ (acl X.T t n ar ++ dvs X.T q').take (i * e + off) := by
          have := hcut 0
          rw [Nat.add_zero, List.drop_zero] at this
          rw [← this, Nat.add_assoc, List.take_add]
        have hq : (dvs X.T cs).drop (base + n * tsz X.T t) = dvs X.T q' := by
          rw [hcut, List.drop_append, acl_len hX.t, Nat.sub_self, List.drop_eq_nil_of_le (by rw [acl_len hX.t]; exact Nat.le_refl _)]; rfl
        rw [hpre, hq, Nat.add_assoc base, Nat.add_assoc base, hcut, hv2, acl_upd h2 ar x, ← h7, spliceT_eq _ _ _ (by rw [hv2, dcl_len hX.t]; omega), acl_split h2 ar, hv2]
        have hl : ((List.range i).flatMap fun j => dcl X.T t (ar j)).length = i * tsz X.T t := acl_len hX.t t i ar
        have hd := dcl_len hX.t t (ar i)
        generalize ((List.range i).flatMap fun j => dcl X.T t (ar j)) = P1 at *
        generalize ((List.range' (i + 1) (n - (i + 1))).flatMap fun j => dcl X.T t (ar j)) = P2 at *
        generalize dcl X.T t (ar i) = M at *
        generalize dvs X.T (cellsT v) = Vv at *
        have e1 : ((P1 ++ (M ++ P2)) ++ dvs X.T q').take (i * e + off) = P1 ++ M.take off := by
          rw [List.append_assoc, List.take_append, hl, h1, List.take_of_length_le (by rw [hl]; omega), Nat.add_sub_cancel_left, List.append_assoc, List.take_append_of_le_length (by rw [hd]; omega)]
        have e2 : ((P1 ++ (M ++ P2)) ++ dvs X.T q').drop (i * e + off + wds X.T (cellsT v)) = M.drop (off + wds X.T (cellsT v)) ++ P2 ++ dvs X.T q' := by
          rw [List.append_assoc, List.drop_append, hl, h1, List.drop_eq_nil_of_le (by rw [hl]; omega), List.nil_append, show i * tsz X.T t + off + wds X.T (cellsT v) - i * tsz X.T t = off + wds X.T (cellsT v) by omega, List.append_assoc, List.drop_append_of_le_length (by rw [hd]; omega), List.append_assoc]
        rw [e1, e2]
        simp only [List.append_assoc]
      refine ⟨_, ?_, ?_, hk⟩
      · simp only [dv, dvh, ho, Option.map_some, Option.bind_some, dvO, hle, cond_true, cellsOf_dv, hnew]
        simp [dvOut, dvu, dvO, dv, dvl, pack1_dvs hX]
      · exact noLoop_cons rfl noLoop_nil
    · cases hA
  | rptr id v' i e off =>
    simp only at hk
    obtain ⟨o, ho, hk⟩ := some_bind hk
    cases o <;> simp only [reduceCtorEq] at hk
    rename_i et t xs p u
    obtain ⟨h1, hk⟩ := bif_some hk
    obtain ⟨h2, hk⟩ := bif_some hk
    obtain ⟨c, h3, hk⟩ := some_bind hk
    obtain ⟨x, h4, hk⟩ := some_bind hk
    simp only [Bool.and_eq_true] at h1
    obtain ⟨⟨⟨hu, he⟩, hp⟩, hf⟩ := h1
    have h2 : i < xs.length := by simpa [Tr.blt_dec] using h2
    have he' := Nat.eq_of_beq_eq_true he
    obtain ⟨h6, h7⟩ := spliceW_dvs hX.t h3
    have hw : wds X.T (tcl X.T t (xs.getD i (tdf X.T t))) = tsz X.T t := by rw [← dvs_len hX.t, tcl_dcl hX.t, dcl_len hX.t]
    rw [hw] at h6
    rw [tcl_dcl hX.t, tdec_dvs hX.t h4] at h7
    have hget : (xs.map (dcl X.T t))[i]? = some (dcl X.T t (xs.getD i (tdf X.T t))) := by
      rw [List.getElem?_map, List.getElem?_eq_getElem h2, List.getD_eq_getElem?_getD, List.getElem?_eq_getElem h2]; rfl
    have hle : Nat.ble (off + ti.size) (dcl X.T t (xs.getD i (tdf X.T t))).length = true := by rw [Nat.ble_eq, dcl_len hX.t]; omega
    have hb : (Nat.beq u v' && Nat.beq (dcl X.T t (xs.getD i (tdf X.T t))).length e && Nat.beq p 0 && idfrees (cellsOf (dv X.T v)) && Nat.ble (off + ti.size) (dcl X.T t (xs.getD i (tdf X.T t))).length) = true := by
      rw [hle, hu, dcl_len hX.t, he, hp, cellsOf_dv, idfrees_dvs hX.t, hf]; rfl
    refine ⟨_, ?_, noLoop_cons rfl noLoop_nil, hk⟩
    simp only [dv, dvh, ho, Option.map_some, Option.bind_some, dvO, hget, hb, cond_true]
    rw [cellsOf_dv, h7]
    simp [dvOut, dvu, dvO, dv, dvl, List.map_set]
  | _ => cases hk
end Go.Ab
