/- What the typed evaluator's values are among the abstract ones: laws of cells. Conditions: the structs' tables are right (TOk). -/
import Derived.Test.YtdoejdmpmpgmiaaTv1
import Derived.Test.YtdoejdmpmpgmiaaAb5
set_option linter.unusedSectionVars false
set_option linter.unusedVariables false
set_option linter.unusedSimpArgs false
namespace Go.Ab

/-- Plain cells: they name no object. -/
def plain : DV → Bool
  | .bool _ | .int _ _ | .str _ | .sl _ => true
  | _ => false

variable {S : Nat → Type}

structure TOk (T : TS S) : Prop where
  cells : ∀ i x, dvs T (T.cells i x) = T.dcells i x
  len : ∀ i x, (T.dcells i x).length = T.size i
  rd : ∀ i cs x r, T.rd i cs = some (x, r) → dvs T cs = T.dcells i x ++ dvs T r
  plain : ∀ i x, (T.dcells i x).all plain = true

structure XOk (X : TEnv S) : Prop where
  t : TOk X.T
  zero : ∀ t z ti, X.zero t = some z → X.E.ty t = some ti → dvs X.T z = ti.zero
  code : ∀ t c ti, X.code t = some c → X.E.ty t = some ti → ti.size = tsz X.T c ∧ ti.isAgg = isAggT c

/-- One cell's own ones. -/
def cell1 (T : TS S) : TV S → List DV
  | .arr t n a => acl T t n a
  | .stc i x => T.dcells i x
  | c => [dv T c]

theorem dvs_cons (T : TS S) (c : TV S) (cs : List (TV S)) : dvs T (c :: cs) = cell1 T c ++ dvs T cs := by
  cases c <;> simp [dvs, cell1]

theorem dvs_nil (T : TS S) : dvs T [] = [] := by simp [dvs]

theorem dvs_append (T : TS S) : ∀ (a b : List (TV S)), dvs T (a ++ b) = dvs T a ++ dvs T b
  | [], b => by simp [dvs]
  | c :: a, b => by rw [List.cons_append, dvs_cons, dvs_cons, dvs_append T a b, List.append_assoc]

theorem dvl_append (T : TS S) : ∀ (a b : List (TV S)), dvl T (a ++ b) = dvl T a ++ dvl T b
  | [], b => by simp [dvl]
  | c :: a, b => by simp only [List.cons_append, dvl, dvl_append T a b]

theorem dvl_map (T : TS S) : ∀ (a : List (TV S)), dvl T a = a.map (dv T)
  | [] => by simp [dvl]
  | c :: a => by simp only [List.map_cons, dvl, dvl_map T a]

section
variable {T : TS S} (hT : TOk T)
include hT

theorem dcl_len : ∀ (t : Ty) (x : Val S t), (dcl T t x).length = tsz T t
  | .bool, _ => rfl
  | .int _, _ => rfl
  | .str, _ => rfl
  | .sl _, _ => by simp [dcl, tsz]
  | .st i, x => hT.len i x
  | .arr n t, a => by
    simp only [dcl, tsz, List.length_flatMap]
    have : (List.map (fun j => (dcl T t (a j)).length) (List.range n)) = List.map (fun _ => tsz T t) (List.range n) := List.map_congr_left fun j _ => dcl_len t (a j)
    rw [this, List.map_const', List.sum_replicate_nat, List.length_range]

theorem dcl_plain : ∀ (t : Ty) (x : Val S t), (dcl T t x).all plain = true
  | .bool, _ => rfl
  | .int _, _ => rfl
  | .str, _ => rfl
  | .sl _, _ => by simp [dcl, plain]
  | .st i, x => hT.plain i x
  | .arr n t, a => by
    rw [List.all_eq_true]
    intro c hc
    simp only [dcl, List.mem_flatMap] at hc
    obtain ⟨j, _, hc⟩ := hc
    exact List.all_eq_true.1 (dcl_plain t (a j)) c hc

theorem acl_len (t : Ty) (n : Nat) (a : Nat → Val S t) : (acl T t n a).length = n * tsz T t := dcl_len hT (.arr n t) a
theorem acl_plain (t : Ty) (n : Nat) (a : Nat → Val S t) : (acl T t n a).all plain = true := dcl_plain hT (.arr n t) a

theorem tcl_dcl : ∀ (t : Ty) (x : Val S t), dvs T (tcl T t x) = dcl T t x
  | .bool, _ => by simp [tcl, dvs, dv, dcl]
  | .int _, _ => by simp [tcl, dvs, dv, dcl]
  | .str, _ => by simp [tcl, dvs, dv, dcl]
  | .sl _, _ => by simp [tcl, dvs, dv, dcl]
  | .st i, x => by simp only [tcl, dvs, List.append_nil, dcl]
  | .arr n t, a => by simp only [tcl, dvs, List.append_nil]; rfl

theorem tval_dval : ∀ (t : Ty) (x : Val S t), dv T (tval T t x) = dval T t x
  | .bool, _ => by simp [tval, dv, dval]
  | .int _, _ => by simp [tval, dv, dval]
  | .str, _ => by simp [tval, dv, dval]
  | .sl _, _ => by simp [tval, dv, dval]
  | .st i, x => by simp only [tval, dv, dval, dvs, List.append_nil]
  | .arr n t, a => by simp [tval, dv, dval, dvs]

theorem cell1_len (c : TV S) : (cell1 T c).length = wd T c := by
  cases c <;> simp [cell1, wd]
  · rename_i t n a
    exact acl_len hT t n a
  · rename_i i x
    exact hT.len i x

theorem dvs_len : ∀ (cs : List (TV S)), (dvs T cs).length = wds T cs
  | [] => by simp [dvs, wds]
  | c :: cs => by rw [dvs_cons, List.length_append, cell1_len hT c, dvs_len cs, wds]

theorem stc_dvs (i : Nat) (x : S i) (r : List (TV S)) : dvs T (T.cells i x ++ r) = dvs T (.stc i x :: r) := by
  rw [dvs_append, hT.cells]; simp [dvs]

theorem stc_wds (i : Nat) (x : S i) (r : List (TV S)) : wds T (T.cells i x ++ r) = wds T (.stc i x :: r) := by
  rw [← dvs_len hT, ← dvs_len hT, stc_dvs hT]

theorem dropF_dvs : ∀ (f : Nat) {cs r : List (TV S)} {n : Nat}, dropF T f cs n = some r → wds T cs = n + wds T r ∧ (dvs T cs).drop n = dvs T r
  | 0, _, _, _, h => by cases h
  | f + 1, [], r, n, h => by
    simp only [dropF] at h
    obtain ⟨h1, h⟩ := bif_some h
    cases h
    have := Nat.eq_of_beq_eq_true h1
    subst this
    simp [wds, dvs]
  | f + 1, c :: cs, r, n, h => by
    simp only [dropF] at h
    cases h0 : Nat.beq n 0 with
    | true =>
      rw [h0] at h; cases h
      have := Nat.eq_of_beq_eq_true h0
      subst this; simp
    | false =>
      rw [h0] at h
      simp only [cond_false] at h
      cases h1 : Nat.ble (wd T c) n with
      | true =>
        rw [h1] at h
        simp only [cond_true] at h
        obtain ⟨h2, h3⟩ := dropF_dvs f h
        have h1 := Nat.le_of_ble_eq_true h1
        refine ⟨by rw [wds]; omega, ?_⟩
        rw [dvs_cons, ← h3, List.drop_append, cell1_len hT c, List.drop_eq_nil_of_le (by rw [cell1_len hT c]; exact h1), List.nil_append]
      | false =>
        rw [h1] at h
        simp only [cond_false] at h
        split at h
        · rename_i i x
          obtain ⟨h2, h3⟩ := dropF_dvs f h
          rw [stc_wds hT] at h2
          rw [stc_dvs hT] at h3
          exact ⟨h2, h3⟩
        · cases h
theorem dropW_dvs {cs r : List (TV S)} {n : Nat} (h : dropW T cs n = some r) : wds T cs = n + wds T r ∧ (dvs T cs).drop n = dvs T r := dropF_dvs hT 400 h

theorem takeF_dvs : ∀ (f : Nat) {cs r : List (TV S)} {n : Nat}, takeF T f cs n = some r → wds T r = n ∧ (dvs T cs).take n = dvs T r
  | 0, _, _, _, h => by cases h
  | f + 1, [], r, n, h => by
    simp only [takeF] at h
    obtain ⟨h1, h⟩ := bif_some h
    cases h
    have := Nat.eq_of_beq_eq_true h1
    subst this
    simp [wds, dvs]
  | f + 1, c :: cs, r, n, h => by
    simp only [takeF] at h
    cases h0 : Nat.beq n 0 with
    | true =>
      rw [h0] at h; cases h
      have := Nat.eq_of_beq_eq_true h0
      subst this; simp [wds, dvs]
    | false =>
      rw [h0] at h
      simp only [cond_false] at h
      cases h1 : Nat.ble (wd T c) n with
      | true =>
        rw [h1] at h
        simp only [cond_true] at h
        obtain ⟨r', h2, h⟩ := some_bind h
        cases h
        obtain ⟨h3, h4⟩ := takeF_dvs f h2
        have h1 := Nat.le_of_ble_eq_true h1
        refine ⟨by rw [wds]; omega, ?_⟩
        rw [dvs_cons, dvs_cons, ← h4, List.take_append, cell1_len hT c, List.take_of_length_le (by rw [cell1_len hT c]; exact h1)]
      | false =>
        rw [h1] at h
        simp only [cond_false] at h
        split at h
        · rename_i i x
          obtain ⟨h2, h3⟩ := takeF_dvs f h
          rw [stc_dvs hT] at h3
          exact ⟨h2, h3⟩
        · cases h
theorem takeW_dvs {cs r : List (TV S)} {n : Nat} (h : takeW T cs n = some r) : wds T r = n ∧ (dvs T cs).take n = dvs T r := takeF_dvs hT 400 h

theorem hdF_dvs : ∀ (n : Nat) (cs : List (TV S)), dvs T (hdF T n cs) = dvs T cs
  | 0, cs => by cases cs with
    | nil => rfl
    | cons c cs => cases c <;> rfl
  | n + 1, [] => rfl
  | n + 1, c :: cs => by
    cases c <;> first | rfl | skip
    simp only [hdF]
    rw [hdF_dvs n, stc_dvs hT]

theorem xpF_dvs : ∀ (n : Nat) (cs : List (TV S)), dvs T (xpF T n cs) = dvs T cs
  | 0, cs => by cases cs with
    | nil => rfl
    | cons c cs => cases c <;> rfl
  | n + 1, [] => rfl
  | n + 1, c :: cs => by
    by_cases hc : ∃ i x, c = .stc i x
    · obtain ⟨i, x, rfl⟩ := hc
      simp only [xpF]
      rw [xpF_dvs n, stc_dvs hT]
    · have : xpF T (n + 1) (c :: cs) = c :: xpF T n cs := by
        cases c <;> first | rfl | exact absurd ⟨_, _, rfl⟩ hc
      rw [this, dvs_cons, dvs_cons, xpF_dvs n]

omit hT in
theorem spliceT_eq : ∀ (cs : List DV) (off : Nat) (vs : List DV), off + vs.length ≤ cs.length → splice cs off vs = cs.take off ++ vs ++ cs.drop (off + vs.length)
  | cs, off, [], _ => by
    cases cs <;> simp [splice]
  | [], off, v :: vs, h => by simp at h
  | c :: cs, 0, v :: vs, h => by
    simp only [splice, List.take_zero, List.nil_append, List.cons_append, Nat.zero_add, List.length_cons, List.drop_succ_cons]
    rw [spliceT_eq cs 0 vs (by simp at h; omega)]
    simp
  | c :: cs, n + 1, v :: vs, h => by
    simp only [splice, List.take_succ_cons, List.cons_append]
    rw [spliceT_eq cs n (v :: vs) (by simp at h ⊢; omega)]
    rw [show n + 1 + (v :: vs).length = (n + (v :: vs).length) + 1 by omega, List.drop_succ_cons]

theorem spliceW_dvs {cs vs r : List (TV S)} {off : Nat} (h : spliceW T cs off vs = some r) : off + wds T vs ≤ wds T cs ∧ splice (dvs T cs) off (dvs T vs) = dvs T r := by
  unfold spliceW at h
  obtain ⟨a, h1, h⟩ := some_bind h
  obtain ⟨b, h2, h⟩ := some_bind h
  cases h
  obtain ⟨h3, h4⟩ := takeW_dvs hT h1
  obtain ⟨h5, h6⟩ := dropW_dvs hT h2
  refine ⟨by omega, ?_⟩
  rw [spliceT_eq _ _ _ (by rw [dvs_len hT, dvs_len hT]; omega), dvs_append, dvs_append, ← h4, ← h6, dvs_len hT vs]

omit hT in
theorem cellsOf_dv (v : TV S) : cellsOf (dv T v) = dvs T (cellsT v) := by
  cases v <;> simp [dv, cellsOf, cellsT, dvs]

theorem partT_dvs {ti : TI} {cs : List (TV S)} {off : Nat} {v : TV S} (h : partT T ti cs off = some v) : partOf ti (dvs T cs) off = some (dv T v) ∧ isArrT v = false := by
  unfold partT at h
  obtain ⟨r, h1, h⟩ := some_bind h
  obtain ⟨h2, h3⟩ := dropW_dvs hT h1
  unfold partOf
  cases ha : ti.isAgg with
  | true =>
    rw [ha] at h
    simp only [cond_true] at h ⊢
    obtain ⟨p, h4, h⟩ := some_bind h
    cases h
    obtain ⟨h5, h6⟩ := takeW_dvs hT h4
    have hle : ti.size ≤ wds T r := by
      have := congrArg List.length h6
      rw [List.length_take, dvs_len hT, dvs_len hT] at this
      omega
    have : Nat.ble (off + ti.size) (dvs T cs).length = true := by rw [Nat.ble_eq, dvs_len hT]; omega
    rw [this, h3, h6]
    simp [dv, isArrT]
  | false =>
    rw [ha] at h
    simp only [cond_false] at h ⊢
    rw [← hdF_dvs hT 10 r] at h3
    cases hr : hdF T 10 r with
    | nil => rw [hr] at h; cases h
    | cons c r =>
      rw [hr] at h h3
      simp only at h
      cases hc : isArrT c with
      | true => rw [hc] at h; cases h
      | false =>
        rw [hc] at h; cases h
        refine ⟨?_, hc⟩
        have : (dvs T cs)[off]? = (List.drop off (dvs T cs))[0]? := by simp
        rw [this, h3, dvs_cons]
        cases v <;> simp [cell1, isArrT] at hc ⊢

omit hT in
theorem rdSl_dvs {t : Ty} {cs r : List (TV S)} {x : List (Val S t)} (h : rdSl t cs = some (x, r)) : dvs T cs = .sl (x.map (dcl T t)) :: dvs T r := by
  unfold rdSl at h
  cases cs with
  | nil => cases h
  | cons c cs =>
    simp only at h
    obtain ⟨xs, h1, h⟩ := some_bind h
    cases h
    unfold asSl at h1
    split at h1
    · cases h1; simp [dvs, dv]
    · split at h1
      · rename_i e; subst e; cases h1; simp [dvs, dv]
      · cases h1
    · cases h1

omit hT in
theorem rdBool_dvs {cs r : List (TV S)} {x : Bool} (h : rdBool cs = some (x, r)) : dvs T cs = [.bool x] ++ dvs T r := by
  unfold rdBool at h
  split at h
  · cases h; simp [dvs, dv]
  · cases h
omit hT in
theorem rdInt_dvs {k : IntKind} {cs r : List (TV S)} {x : Int} (h : rdInt k cs = some (x, r)) : dvs T cs = [.int k x] ++ dvs T r := by
  unfold rdInt at h
  split at h
  · obtain ⟨h1, h⟩ := bif_some h
    cases h
    have := eq_of_beq h1
    subst this
    simp [dvs, dv]
  · cases h
omit hT in
theorem rdStr_dvs {cs r : List (TV S)} {x : ByteArray} (h : rdStr cs = some (x, r)) : dvs T cs = [.str x] ++ dvs T r := by
  unfold rdStr at h
  split at h
  · cases h; simp [dvs, dv]
  · cases h
omit hT in
theorem rdArr_dvs {n : Nat} {t : Ty} {cs r : List (TV S)} {x : Nat → Val S t} (h : rdArr n t cs = some (x, r)) : dvs T cs = acl T t n x ++ dvs T r := by
  unfold rdArr at h
  split at h
  · split at h
    · rename_i e
      obtain ⟨h1, h⟩ := bif_some h
      cases h
      have := Nat.eq_of_beq_eq_true h1
      subst this e
      rw [dvs_cons]; rfl
    · cases h
  · cases h

omit hT in
theorem ahead_dvs0 {T0 : TS S} (hc : ∀ i (x : S i), dvs T (T0.cells i x) = T.dcells i x) (i : Nat) : ∀ (n : Nat) (cs : List (TV S)), dvs T (ahead T0 i n cs) = dvs T cs
  | 0, cs => by cases cs with
    | nil => rfl
    | cons c cs => cases c <;> rfl
  | n + 1, [] => rfl
  | n + 1, c :: cs => by
    cases c <;> first | rfl | skip
    rename_i j x
    simp only [ahead]
    cases Nat.beq j i with
    | true => rfl
    | false => simp only [cond_false]; rw [ahead_dvs0 hc i n, dvs_append, hc]; rfl

theorem ahead_dvs (i : Nat) : ∀ (n : Nat) (cs : List (TV S)), dvs T (ahead T i n cs) = dvs T cs
  | 0, cs => by cases cs with
    | nil => rfl
    | cons c cs => cases c <;> rfl
  | n + 1, [] => rfl
  | n + 1, c :: cs => by
    cases c <;> first | rfl | skip
    rename_i j x
    simp only [ahead]
    cases Nat.beq j i with
    | true => rfl
    | false => simp only [cond_false]; rw [ahead_dvs i n, stc_dvs hT]

omit hT in
theorem rdW_dvs {i : Nat} {f : List (TV S) → Option (S i × List (TV S))} (hf : ∀ cs x r, f cs = some (x, r) → dvs T cs = T.dcells i x ++ dvs T r) {cs r : List (TV S)} {x : S i} (h : rdW i f cs = some (x, r)) : dvs T cs = T.dcells i x ++ dvs T r := by
  unfold rdW at h
  split at h
  · split at h
    · rename_i e; subst e; cases h; simp [dvs]
    · cases h
  · exact hf _ _ _ h

theorem trd_dvs {t : Ty} {cs r : List (TV S)} {x : Val S t} (h : trd T t cs = some (x, r)) : dvs T cs = dcl T t x ++ dvs T r := by
  cases t with
  | bool =>
    simp only [trd, rdBool] at h
    split at h
    · cases h; simp [dvs, dv, dcl]
    · cases h
  | int k =>
    simp only [trd, rdInt] at h
    split at h
    · obtain ⟨h1, h⟩ := bif_some h
      cases h
      have := eq_of_beq h1
      subst this
      simp [dvs, dv, dcl]
    · cases h
  | str =>
    simp only [trd, rdStr] at h
    split at h
    · cases h; simp [dvs, dv, dcl]
    · cases h
  | sl t =>
    simp only [trd] at h
    rw [rdSl_dvs h]; rfl
  | arr n t =>
    simp only [trd, rdArr] at h
    split at h
    · split at h
      · rename_i e
        obtain ⟨h1, h⟩ := bif_some h
        cases h
        have := Nat.eq_of_beq_eq_true h1
        subst this e
        rw [dvs_cons]; rfl
      · cases h
    · cases h
  | st i =>
    simp only [trd] at h
    rw [← ahead_dvs hT i 6 cs, rdW_dvs (fun _ _ _ h => hT.rd i _ _ _ h) h]; rfl

theorem tdec_dvs {t : Ty} {cs : List (TV S)} {x : Val S t} (h : tdec T t cs = some x) : dvs T cs = dcl T t x := by
  unfold tdec at h
  obtain ⟨⟨x', r⟩, h1, h⟩ := some_bind h
  cases r with
  | nil =>
    cases h
    have := trd_dvs hT h1
    rw [this, dvs_nil, List.append_nil]
  | cons c r => cases h

omit hT in
theorem dcl_scal {t : Ty} (x : Val S t) (h : isAggT t = false) : dcl T t x = [dval T t x] := by
  cases t <;> first | rfl | cases h

theorem tdecV_dv {t : Ty} {v : TV S} {x : Val S t} (h : tdecV T t v = some x) : dv T v = dval T t x := by
  have scal : ∀ (c : TV S), isAggT t = false → tdec T t [c] = some x → dvs T [c] = [dv T c] → dv T c = dval T t x := fun c ha hd hc => by
    have h2 := tdec_dvs hT hd
    rw [hc, dcl_scal x ha] at h2
    exact List.cons.inj h2 |>.1
  by_cases hag : ∃ cs, v = .agg cs
  · obtain ⟨cs, rfl⟩ := hag
    simp only [tdecV] at h
    obtain ⟨h1, h⟩ := bif_some h
    have h2 := tdec_dvs hT h
    cases t <;> simp only [isAggT, Bool.false_eq_true] at h1
    · simp only [dv, dval, h2]; rfl
    · simp only [dv, dval, h2]; rfl
  · have hd : (bif isAggT t then none else tdec T t [v]) = some x := by
      unfold tdecV at h
      split at h
      · rename_i cs; exact absurd ⟨cs, rfl⟩ hag
      · exact h
    cases ha : isAggT t with
    | true => rw [ha] at hd; cases hd
    | false =>
      rw [ha] at hd
      simp only [cond_false] at hd
      by_cases hr : isArrT v = true
      · exfalso
        cases v <;> simp only [isArrT, Bool.false_eq_true] at hr
        all_goals
          unfold tdec at hd
          obtain ⟨q, h1, _⟩ := some_bind hd
          cases t <;> simp [isAggT] at ha <;> simp [trd, rdBool, rdInt, rdStr, rdSl, asSl] at h1
      · refine scal v ha hd ?_
        rw [dvs_cons, dvs_nil, List.append_nil]
        cases v <;> simp [cell1, isArrT] at hr ⊢

theorem addrT_dv {v r : TV S} {n : Nat} (h : addrT T v n = some r) : addrOff (dv T v) n = some (dv T r) := by
  cases v <;> simp only [addrT, reduceCtorEq] at h
  · cases h; simp [dv, addrOff]
  · cases h; simp [dv, addrOff]; omega
  · cases h; simp [dv, addrOff]
  · obtain ⟨q, h1, h⟩ := some_bind h
    cases h
    simp only [dv, addrOff, (dropW_dvs hT h1).2]
end

/-! Values that name objects -/
section
variable {T : TS S}

theorem plain_free {c : DV} (h : plain c = true) : idfree c = true := by cases c <;> simp [plain, idfree] at h ⊢
theorem plain_bdd {c : DV} (n : Nat) (h : plain c = true) : bdd n c = true := by cases c <;> simp [plain, bdd] at h ⊢
theorem plain_frz {c : DV} (hh : Nat → Option AObj) (h : plain c = true) : frz hh c = some c := by cases c <;> simp [plain, frz, idfree] at h ⊢
theorem plain_rows {c : DV} (h : plain c = true) : rowsOf c = [] := by cases c <;> simp [plain, rowsOf] at h ⊢
theorem plain_ids {c : DV} (h : plain c = true) : idsOf c = [] := by cases c <;> simp [plain, idsOf] at h ⊢
theorem plain_cell {c : DV} (h : plain c = true) : isCell c = true := by cases c <;> simp [plain, isCell] at h ⊢
theorem plain_ren {c : DV} (n : Nat) (L : List (Option (Nat × Nat))) (h : plain c = true) : ren n L c = some c := by cases c <;> simp [plain, ren, bdd] at h ⊢

theorem idfrees_append : ∀ (a b : List DV), idfrees (a ++ b) = (idfrees a && idfrees b)
  | [], b => by simp [idfrees]
  | c :: a, b => by simp only [List.cons_append, idfrees, idfrees_append a b, Bool.and_assoc]
theorem bdds_append (n : Nat) : ∀ (a b : List DV), bdds n (a ++ b) = (bdds n a && bdds n b)
  | [], b => by simp [bdds]
  | c :: a, b => by simp only [List.cons_append, bdds, bdds_append n a b, Bool.and_assoc]
theorem rowsOfs_append : ∀ (a b : List DV), rowsOfs (a ++ b) = rowsOfs a ++ rowsOfs b
  | [], b => by simp [rowsOfs]
  | c :: a, b => by simp only [List.cons_append, rowsOfs, rowsOfs_append a b, List.append_assoc]
theorem idsOfs_append : ∀ (a b : List DV), idsOfs (a ++ b) = idsOfs a ++ idsOfs b
  | [], b => by simp [idsOfs]
  | c :: a, b => by simp only [List.cons_append, idsOfs, idsOfs_append a b, List.append_assoc]
theorem frzs_append (h : Nat → Option AObj) : ∀ (a b : List DV), frzs h (a ++ b) = (frzs h a).bind fun x => (frzs h b).bind fun y => some (x ++ y)
  | [], b => by simp [frzs]
  | c :: a, b => by
    simp only [List.cons_append, frzs, frzs_append h a b]
    cases frz h c with
    | none => rfl
    | some c' => cases frzs h a with
      | none => rfl
      | some a' => cases frzs h b <;> simp
theorem rens_append (n : Nat) (L : List (Option (Nat × Nat))) : ∀ (a b : List DV), rens n L (a ++ b) = (rens n L a).bind fun x => (rens n L b).bind fun y => some (x ++ y)
  | [], b => by simp [rens]
  | c :: a, b => by
    simp only [List.cons_append, rens, rens_append n L a b]
    cases ren n L c with
    | none => rfl
    | some c' => cases rens n L a with
      | none => rfl
      | some a' => cases rens n L b <;> simp

theorem plains_free : ∀ {cs : List DV}, cs.all plain = true → idfrees cs = true
  | [], _ => rfl
  | c :: cs, h => by
    simp only [List.all_cons, Bool.and_eq_true] at h
    simp only [idfrees, plain_free h.1, plains_free h.2, Bool.and_self]
theorem plains_bdd (n : Nat) : ∀ {cs : List DV}, cs.all plain = true → bdds n cs = true
  | [], _ => rfl
  | c :: cs, h => by
    simp only [List.all_cons, Bool.and_eq_true] at h
    simp only [bdds, plain_bdd n h.1, plains_bdd n h.2, Bool.and_self]
theorem plains_frz (hh : Nat → Option AObj) : ∀ {cs : List DV}, cs.all plain = true → frzs hh cs = some cs
  | [], _ => rfl
  | c :: cs, h => by
    simp only [List.all_cons, Bool.and_eq_true] at h
    simp [frzs, plain_frz hh h.1, plains_frz hh h.2]
theorem plains_rows : ∀ {cs : List DV}, cs.all plain = true → rowsOfs cs = []
  | [], _ => rfl
  | c :: cs, h => by
    simp only [List.all_cons, Bool.and_eq_true] at h
    simp [rowsOfs, plain_rows h.1, plains_rows h.2]
theorem plains_ids : ∀ {cs : List DV}, cs.all plain = true → idsOfs cs = []
  | [], _ => rfl
  | c :: cs, h => by
    simp only [List.all_cons, Bool.and_eq_true] at h
    simp [idsOfs, plain_ids h.1, plains_ids h.2]
theorem plains_cell : ∀ {cs : List DV}, cs.all plain = true → cs.all isCell = true
  | [], _ => rfl
  | c :: cs, h => by
    simp only [List.all_cons, Bool.and_eq_true] at h
    simp [plain_cell h.1, plains_cell h.2]
theorem plains_ren (n : Nat) (L : List (Option (Nat × Nat))) : ∀ {cs : List DV}, cs.all plain = true → rens n L cs = some cs
  | [], _ => rfl
  | c :: cs, h => by
    simp only [List.all_cons, Bool.and_eq_true] at h
    simp [rens, plain_ren n L h.1, plains_ren n L h.2]
end

def dvO (T : TS S) : TObj S → AObj
  | .cells t cs => .cells t (dvs T cs)
  | .row e t xs p v => .row e (xs.map (dcl T t)) p v
  | .map kt et m => .map (m.map fun p => (dval T kt p.1, dval T et p.2))
  | .siter s pos => .siter s pos
  | .loop fid b ps as bo bid ex _ _ => .loop fid (b.mapv (dv T)) ps as bo bid ex
end Go.Ab
