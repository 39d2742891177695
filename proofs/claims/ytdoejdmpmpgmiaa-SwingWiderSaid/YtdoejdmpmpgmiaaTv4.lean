/- Each typed operation is the abstract one: the parts. Conditions: the tables are right (XOk). -/
import Derived.Test.YtdoejdmpmpgmiaaTv3
set_option linter.unusedSectionVars false
set_option linter.unusedVariables false
set_option linter.unusedSimpArgs false
set_option linter.unusedSectionVars false
namespace Go.Ab
variable {S : Nat → Type} {R : Type}

def isLoop : Option (TObj S) → Bool
  | some (.loop ..) => true
  | _ => false
def NoLoop (u : List (Nat × Option (TObj S))) : Prop := ∀ p ∈ u, isLoop p.2 = false

theorem noLoop_nil : NoLoop (S := S) [] := fun _ h => by cases h
theorem noLoop_cons {i : Nat} {x : Option (TObj S)} {u : List (Nat × Option (TObj S))} (hx : isLoop x = false) (h : NoLoop u) : NoLoop ((i, x) :: u) := fun p hp => by
  rcases List.mem_cons.1 hp with e | hp
  · subst e; exact hx
  · exact h p hp
theorem noLoop_show (h : Nat → Option (TObj S)) : ∀ is, NoLoop (showT h is)
  | [] => noLoop_nil
  | i :: is => fun p hp => by
    simp only [showT, List.mem_append] at hp
    rcases hp with hp | hp
    · cases hi : h i with
      | none => rw [hi] at hp; simp at hp
      | some o =>
        rw [hi] at hp
        cases o with
        | row e t xs p1 u =>
          simp only at hp
          cases hb : Nat.beq p1 1 with
          | true => rw [hb] at hp; cases hp
          | false => rw [hb] at hp; simp only [cond_false, List.mem_singleton] at hp; subst hp; rfl
        | _ => cases hp
    · exact noLoop_show h is p hp

/-- An operation's outcome on the abstract values. -/
def Sim (T : TS S) (e : Option Out) (k : KOut S R) (r : R) : Prop := ∃ o : TOut S, e = some (dvOut T o) ∧ NoLoop o.upd ∧ k o = some r

theorem sim_ret {T : TS S} {k : KOut S R} {r : R} {v : TV S} {e : Option Out} (h : retK v k = some r) (he : e = ret (dv T v)) : Sim T e k r := ⟨⟨some v, []⟩, by rw [he]; rfl, noLoop_nil, h⟩

theorem kinds_append : ∀ {x y x' y' : List DV}, kindsLike x y = true → kindsLike (x ++ x') (y ++ y') = kindsLike x' y'
  | [], [], _, _, _ => rfl
  | [], _ :: _, _, _, h => by simp [kindsLike] at h
  | a :: x, [], _, _, h => by cases a <;> simp [kindsLike] at h
  | a :: x, b :: y, x', y', h => by
    cases a <;> cases b <;> simp only [kindsLike, Bool.and_eq_true, Bool.false_eq_true] at h <;> simp only [List.cons_append, kindsLike]
    · exact kinds_append h
    · rw [h.1, kinds_append h.2, Bool.true_and]
    · exact kinds_append h

theorem eqCells_append : ∀ {x y x' y' : List DV} {p q : Bool}, eqCells x y = some p → eqCells x' y' = some q → eqCells (x ++ x') (y ++ y') = some (p && q)
  | [], [], _, _, p, q, h, h' => by simp [eqCells] at h; subst h; simpa using h'
  | [], _ :: _, _, _, _, _, h, _ => by simp [eqCells] at h
  | a :: x, [], _, _, _, _, h, _ => by cases a <;> simp [eqCells] at h
  | a :: x, b :: y, x', y', p, q, h, h' => by
    cases a <;> cases b <;> simp only [eqCells, reduceCtorEq] at h <;> simp only [List.cons_append, eqCells]
    · obtain ⟨r, h1, h⟩ := some_bind h
      cases h
      rw [eqCells_append h1 h']; simp [Bool.and_assoc]
    · obtain ⟨h0, h⟩ := bif_some h
      obtain ⟨r, h1, h⟩ := some_bind h
      cases h
      rw [h0, eqCells_append h1 h']; simp [Bool.and_assoc]
    · obtain ⟨r, h1, h⟩ := some_bind h
      cases h
      rw [eqCells_append h1 h']; simp [Bool.and_assoc]

section
variable (T : TS S)
theorem scal_kinds {t : Ty} (hs : (scalEq (S := S) t).isSome = true) (x y : Val S t) : kindsLike (dcl T t x) (dcl T t y) = true := by
  cases t <;> simp [scalEq] at hs <;> simp [dcl, kindsLike]

theorem scal_eq {t : Ty} {e : Val S t → Val S t → Bool} (hs : scalEq t = some e) (x y : Val S t) : eqCells (dcl T t x) (dcl T t y) = some (e x y) := by
  cases t <;> simp only [scalEq, reduceCtorEq] at hs <;> cases hs <;> simp [dcl, eqCells]

theorem acl_kinds {t : Ty} (hs : (scalEq (S := S) t).isSome = true) (a b : Nat → Val S t) : ∀ l : List Nat, kindsLike (l.flatMap fun j => dcl T t (a j)) (l.flatMap fun j => dcl T t (b j)) = true
  | [] => rfl
  | j :: l => by
    simp only [List.flatMap_cons]
    rw [kinds_append (scal_kinds T hs _ _)]
    exact acl_kinds hs a b l

theorem acl_eq {t : Ty} {e : Val S t → Val S t → Bool} (hs : scalEq t = some e) (a b : Nat → Val S t) : ∀ l : List Nat, eqCells (l.flatMap fun j => dcl T t (a j)) (l.flatMap fun j => dcl T t (b j)) = some (l.all fun j => e (a j) (b j))
  | [] => rfl
  | j :: l => by
    simp only [List.flatMap_cons, List.all_cons]
    exact eqCells_append (scal_eq T hs _ _) (acl_eq hs a b l)

theorem kinds_dvs : ∀ {z a : List (TV S)}, kindsT z a = true → kindsLike (dvs T z) (dvs T a) = true
  | [], [], _ => by simp [dvs, kindsLike]
  | [], _ :: _, h => by simp [kindsT] at h
  | z :: zs, [], h => by cases z <;> simp [kindsT] at h
  | z :: zs, a :: as, h => by
    cases z <;> cases a <;> simp only [kindsT, Bool.and_eq_true, Bool.false_eq_true] at h <;> simp only [dvs, dv, kindsLike]
    · exact kinds_dvs h
    · rw [h.1, kinds_dvs h.2]; rfl
    · exact kinds_dvs h
    · obtain ⟨⟨⟨h1, h2⟩, h3⟩, h4⟩ := h
      have h1 := of_decide_eq_true h1
      have h2 := Nat.eq_of_beq_eq_true h2
      subst h1 h2
      exact (kinds_append (acl_kinds T h3 _ _ (List.range _))).trans (kinds_dvs h4)

theorem eqCells_dvs : ∀ {a b : List (TV S)} {r : Bool}, eqCellsT a b = some r → eqCells (dvs T a) (dvs T b) = some r
  | [], [], r, h => by simp [eqCellsT] at h; subst h; simp [dvs, eqCells]
  | [], _ :: _, _, h => by simp [eqCellsT] at h
  | z :: zs, [], _, h => by cases z <;> simp [eqCellsT] at h
  | z :: zs, a :: as, r, h => by
    cases z <;> cases a <;> simp only [eqCellsT, reduceCtorEq] at h <;> simp only [dvs, dv, eqCells]
    · obtain ⟨q, h1, h⟩ := some_bind h
      rw [eqCells_dvs h1]; exact h
    · obtain ⟨h0, h⟩ := bif_some h
      obtain ⟨q, h1, h⟩ := some_bind h
      rw [h0, eqCells_dvs h1]; exact h
    · obtain ⟨q, h1, h⟩ := some_bind h
      rw [eqCells_dvs h1]; exact h
    · split at h
      · rename_i e
        obtain ⟨h0, h⟩ := bif_some h
        obtain ⟨eq, h1, h⟩ := some_bind h
        obtain ⟨q, h2, h⟩ := some_bind h
        cases h
        have h0 := Nat.eq_of_beq_eq_true h0
        subst e h0
        exact eqCells_append (acl_eq T h1 _ _ _) (eqCells_dvs h2)
      · cases h
end

variable {X : TEnv S} (hX : XOk X)
include hX

theorem bin_sim {op : BinOp} {t : TypeId} {x y : TV S} {k : KOut S R} {r : R} (h : binK X op t x y k = some r) : Sim X.T ((binD X.E op t (dv X.T x) (dv X.T y)).bind ret) k r := by
  unfold binK at h
  split at h
  · rename_i kd a kd' b
    simp only [dv, binD]
    cases op <;> simp only [reduceCtorEq] at h <;> simp only [isShift, cond_false, cond_true, intB, shiftB, cmpB, bitsB]
    case shl =>
      cases hb : decide (b < 0) with
      | true => rw [hb] at h; cases h
      | false => rw [hb] at h; exact sim_ret h rfl
    case shr =>
      cases hb : decide (b < 0) with
      | true => rw [hb] at h; cases h
      | false => rw [hb] at h; exact sim_ret h rfl
    case quo =>
      obtain ⟨h0, h⟩ := bif_some h
      rw [h0]
      cases hb : b == 0 with
      | true => rw [hb] at h; cases h
      | false => rw [hb] at h; exact sim_ret h rfl
    case rem =>
      obtain ⟨h0, h⟩ := bif_some h
      rw [h0]
      cases hb : b == 0 with
      | true => rw [hb] at h; cases h
      | false => rw [hb] at h; exact sim_ret h rfl
    all_goals
      obtain ⟨h0, h⟩ := bif_some h
      rw [h0]
      exact sim_ret h rfl
  · rename_i a b
    simp only [dv, binD, strB]
    cases op <;> simp only [reduceCtorEq] at h
    case add =>
      obtain ⟨h0, h⟩ := bif_some h
      rw [h0]
      exact sim_ret h rfl
    all_goals exact sim_ret h rfl
  · rename_i a b
    obtain ⟨ti, h1, h⟩ := some_bind h
    simp only [dv, binD, h1, Option.bind_some]
    cases hk : ti.k <;> rw [hk] at h <;> first | (cases h; done) | skip
    cases op <;> simp only [reduceCtorEq] at h <;> exact sim_ret h rfl
  · rename_i a b
    obtain ⟨ti, h1, h⟩ := some_bind h
    obtain ⟨z, h2, h⟩ := some_bind h
    obtain ⟨h3, h⟩ := bif_some h
    simp only [Bool.and_eq_true] at h3
    simp only [dv, binD, h1, Option.bind_some]
    have hz := hX.zero t z ti h2 h1
    have k1 := kinds_dvs X.T h3.1.2
    have k2 := kinds_dvs X.T h3.2
    rw [xpF_dvs hX.t, xpF_dvs hX.t] at k1 k2
    rw [h3.1.1, ← hz, k1, k2]
    simp only [Bool.and_self, cond_true]
    split at h
    · obtain ⟨q, h4, h⟩ := some_bind h
      have k3 := eqCells_dvs X.T h4
      rw [xpF_dvs hX.t, xpF_dvs hX.t] at k3
      rw [k3]; exact sim_ret h rfl
    · obtain ⟨q, h4, h⟩ := some_bind h
      have k3 := eqCells_dvs X.T h4
      rw [xpF_dvs hX.t, xpF_dvs hX.t] at k3
      rw [k3]; exact sim_ret h rfl
    · cases h
  · cases h

omit hX in
theorem un_sim {T : TS S} {op : UnOp} {x : TV S} {k : KOut S R} {r : R} (h : unK op x k = some r) : Sim T ((unD op (dv T x)).bind ret) k r := by
  unfold unK at h
  split at h
  · split at h
    · exact sim_ret h rfl
    · cases h
  · split at h
    · exact sim_ret h rfl
    · cases h
  · cases h

omit hX in
theorem idx_sim {T : TS S} {n : Nat} {x : TV S} {k : Nat → Option R} {r : R} (h : idxK n x k = some r) : ∃ i, idxOf n (dv T x) = some i ∧ i < n ∧ k i = some r := by
  unfold idxK at h
  split at h
  · rename_i kd i
    obtain ⟨h1, h⟩ := bif_some h
    have h2 := h1
    simp only [Bool.and_eq_true, decide_eq_true_eq] at h2
    refine ⟨i.toNat, ?_, by omega, h⟩
    simp only [dv, idxOf]
    rw [h1]; rfl
  · cases h

omit hX in
theorem bound_sim {T : TS S} {d : Option (TV S)} {dflt y : Nat} {k : Nat → Option R} {r : R} (h : boundK d dflt y k = some r) : ∃ i, boundD (d.map (dv T)) dflt y = some i ∧ k i = some r := by
  unfold boundK at h
  split at h
  · exact ⟨dflt, rfl, h⟩
  · rename_i kd i
    obtain ⟨h1, h⟩ := bif_some h
    refine ⟨i.toNat, ?_, h⟩
    simp only [Option.map_some, dv, boundD]
    rw [h1]; rfl
  · cases h

omit hX in
theorem elems_sim {T : TS S} {t : Ty} {h : Nat → Option (TObj S)} {x : TV S} {xs : List (Val S t)} (he : elemsT t h x = some xs) : elemsOf (dvh T h) (dv T x) = some (xs.map (dcl T t)) := by
  unfold elemsT at he
  split at he
  · cases he; rfl
  · cases he; simp [dv, elemsOf]
  · split at he
    · rename_i e; subst e; cases he; simp [dv, elemsOf]
    · cases he
  · rename_i id v
    obtain ⟨o, ho, he⟩ := some_bind he
    simp only [dv, elemsOf, dvh, ho, Option.map_some, Option.bind_some]
    cases o <;> simp only [reduceCtorEq] at he
    obtain ⟨h1, he⟩ := bif_some he
    split at he
    · rename_i e; subst e; cases he
      simp only [dvO, h1, cond_true]
    · cases he
  · cases he

omit hX in
theorem range_cut {i n : Nat} (h : i < n) : List.range n = List.range i ++ (i :: List.range' (i + 1) (n - (i + 1))) := by
  rw [List.range_eq_range', List.range_eq_range', ← List.range'_succ, show n - (i + 1) + 1 = n - i by omega]
  have := (List.range'_append_1 (s := 0) (m := i) (n := n - i))
  rw [Nat.zero_add, show i + (n - i) = n by omega] at this
  exact this.symm

theorem load_sim {ti : TI} {h : Nat → Option (TObj S)} {a : TV S} {k : KOut S R} {r : R} (hk : loadK X ti h a k = some r) : Sim X.T ((loadD ti (dvh X.T h) (dv X.T a)).bind ret) k r := by
  unfold loadK at hk
  split at hk
  · rename_i id off
    obtain ⟨o, ho, hk⟩ := some_bind hk
    simp only [dv, loadD, dvh, ho, Option.map_some, Option.bind_some]
    cases o <;> simp only [reduceCtorEq] at hk
    obtain ⟨v, h1, hk⟩ := some_bind hk
    simp only [dvO, (partT_dvs hX.t h1).1]
    exact sim_ret hk rfl
  · rename_i id base i e off
    obtain ⟨o, ho, hk⟩ := some_bind hk
    simp only [dv, loadD, dvh, ho, Option.map_some, Option.bind_some]
    cases o <;> simp only [reduceCtorEq] at hk
    rename_i ct cs
    obtain ⟨A, hA, hk⟩ := some_bind hk
    obtain ⟨t, n, a⟩ := A
    simp only at hk
    obtain ⟨h1, hk1⟩ := bif_some hk
    obtain ⟨h2, hk2⟩ := bif_some hk1
    obtain ⟨v, h3, hk3⟩ := some_bind hk2
    clear hk hk1 hk2
    have h1 := Nat.eq_of_beq_eq_true h1
    have h2 : i < n := by simpa [Tr.blt_dec] using h2
    subst h1
    unfold arrAt at hA
    obtain ⟨q, h4, hA⟩ := some_bind hA
    split at hA
    · rename_i t' n' a' q' hq'
      cases hA
      obtain ⟨h5, h6⟩ := dropW_dvs hX.t h4
      rw [← hdF_dvs hX.t 10 q, hq'] at h6
      rw [← dvs_len hX.t q, ← hdF_dvs hX.t 10 q, hq', dvs_len hX.t] at h5
      obtain ⟨h7, h8⟩ := partT_dvs hX.t h3
      rw [tcl_dcl hX.t] at h7
      have h9 : partOf ti (dvs X.T cs) (base + i * tsz X.T t + off) = some (dv X.T v) := by
        have hcut : ∀ m, (dvs X.T cs).drop (base + m) = (acl X.T t n a ++ dvs X.T q').drop m := fun m => by
          rw [← List.drop_drop, h6, dvs_cons]; rfl
        have hlen := dvs_len hX.t cs
        rw [h5] at hlen
        simp only [wds, wd] at hlen
        have hin : (i + 1) * tsz X.T t ≤ n * tsz X.T t := Nat.mul_le_mul_right _ h2
        have hpart : ∀ m, m ≤ tsz X.T t → ∃ rest, (acl X.T t n a ++ dvs X.T q').drop (i * tsz X.T t + m) = (dcl X.T t (a i)).drop m ++ rest := fun m hm => by
          refine ⟨((List.range' (i + 1) (n - (i + 1))).flatMap fun j => dcl X.T t (a j)) ++ dvs X.T q', ?_⟩
          have hsplit : acl X.T t n a = ((List.range i).flatMap fun j => dcl X.T t (a j)) ++ (dcl X.T t (a i) ++ (List.range' (i + 1) (n - (i + 1))).flatMap fun j => dcl X.T t (a j)) := by
            unfold acl
            rw [range_cut h2, List.flatMap_append, List.flatMap_cons]
          have hl : ((List.range i).flatMap fun j => dcl X.T t (a j)).length = i * tsz X.T t := acl_len hX.t t i a
          rw [hsplit, List.append_assoc, List.drop_append, hl, List.drop_eq_nil_of_le (by rw [hl]; omega), List.nil_append, Nat.add_sub_cancel_left, List.append_assoc, List.drop_append_of_le_length (by rw [dcl_len hX.t]; exact hm)]
        unfold partOf at h7 ⊢
        cases hag : ti.isAgg with
        | true =>
          rw [hag] at h7
          simp only [cond_true] at h7 ⊢
          obtain ⟨h10, h11⟩ := bif_some h7
          rw [Nat.ble_eq, dcl_len hX.t] at h10
          obtain ⟨rest, hr⟩ := hpart off (by omega)
          have hle : Nat.ble (base + i * tsz X.T t + off + ti.size) (dvs X.T cs).length = true := by
            rw [Nat.ble_eq, hlen]
            rw [Nat.add_mul, Nat.one_mul] at hin
            omega
          rw [hle, Nat.add_assoc, hcut, hr]
          simp only [cond_true]
          rw [List.take_append_of_le_length (by rw [List.length_drop, dcl_len hX.t]; omega)]
          exact h11
        | false =>
          rw [hag] at h7
          simp only [cond_false] at h7 ⊢
          have hlt := (List.getElem?_eq_some_iff.1 h7).1
          rw [dcl_len hX.t] at hlt
          obtain ⟨rest, hr⟩ := hpart off (by omega)
          have : (dvs X.T cs)[base + i * tsz X.T t + off]? = ((dvs X.T cs).drop (base + (i * tsz X.T t + off)))[0]? := by simp [Nat.add_assoc]
          rw [this, hcut, hr, List.getElem?_append_left (by rw [List.length_drop, dcl_len hX.t]; omega)]
          simpa using h7
      simp only [dvO, h9]
      exact sim_ret hk3 rfl
    · cases hA
  · rename_i id v i e off
    obtain ⟨o, ho, hk⟩ := some_bind hk
    simp only [dv, loadD, dvh, ho, Option.map_some, Option.bind_some]
    cases o <;> simp only [reduceCtorEq] at hk
    rename_i re t xs p u
    obtain ⟨h1, hk⟩ := bif_some hk
    obtain ⟨h2, hk⟩ := bif_some hk
    obtain ⟨q, h3, hk⟩ := some_bind hk
    have h2 : i < xs.length := by simpa [Tr.blt_dec] using h2
    simp only [Bool.and_eq_true] at h1
    have h4 := Nat.eq_of_beq_eq_true h1.2
    have h5 := (partT_dvs hX.t h3).1
    rw [tcl_dcl hX.t] at h5
    have h6 : xs.getD i (tdf X.T t) = xs[i] := by simp [List.getD_eq_getElem?_getD, h2]
    rw [h6] at h5
    simp only [dvO, List.getElem?_map, List.getElem?_eq_getElem h2, Option.map_some, Option.bind_some]
    have h7 : Nat.beq (dcl X.T t xs[i]).length e = true := by rw [dcl_len hX.t, ← h4]; exact Nat.beq_refl _
    rw [h1.1, h7, h5]
    exact sim_ret hk rfl
  · rename_i cs
    obtain ⟨v, h1, hk⟩ := some_bind hk
    simp only [dv, loadD, (partT_dvs hX.t h1).1]
    exact sim_ret hk rfl
  · cases hk
end Go.Ab
