/- What the typed evaluator's values are among the abstract ones: the objects that they name; tries. Conditions: the structs' tables are right (TOk). -/
import Derived.Test.YtdoejdmpmpgmiaaTv2
import Derived.Test.YtdoejdmpmpgmiaaAb16
set_option linter.unusedSectionVars false
set_option linter.unusedVariables false
set_option linter.unusedSimpArgs false
set_option linter.unusedSectionVars false
namespace Go.Ab
variable {S : Nat → Type}

def dvr (T : TS S) (ρ : Nat → Option (TV S)) : Nat → Option DV := fun t => (ρ t).map (dv T)
def dvh (T : TS S) (h : Nat → Option (TObj S)) : Nat → Option AObj := fun i => (h i).map (dvO T)
def dvu (T : TS S) (u : List (Nat × Option (TObj S))) : List (Nat × Option AObj) := u.map fun p => (p.1, p.2.map (dvO T))
def dvOut (T : TS S) (o : TOut S) : Out := ⟨o.val.map (dv T), dvu T o.upd⟩

/-! Tries -/
theorem mapv_get {α β : Type} (f : α → β) : ∀ (t : Tr α) (k : Nat), (t.mapv f).get k = (t.get k).map f
  | .leaf, k => rfl
  | .node l v r, k => by
    simp only [Tr.mapv, Tr.get]
    cases Nat.beq k 0 with
    | true => rfl
    | false => cases Nat.beq (k % 2) 1 with
      | true => exact mapv_get f l _
      | false => exact mapv_get f r _

theorem mapv_setAux {α β : Type} (f : α → β) (v : Option α) : ∀ (n : Nat) (t : Tr α) (k : Nat), (Tr.setAux n t k v).mapv f = Tr.setAux n (t.mapv f) k (v.map f)
  | 0, t, k => rfl
  | n + 1, .leaf, k => by
    simp only [Tr.setAux, Tr.mapv]
    cases Nat.beq k 0 with
    | true => rfl
    | false => cases Nat.beq (k % 2) 1 with
      | true => simp only [cond_true, cond_false, Tr.mapv, mapv_setAux f v n .leaf]; rfl
      | false => simp only [cond_false, Tr.mapv, mapv_setAux f v n .leaf]; rfl
  | n + 1, .node l x r, k => by
    simp only [Tr.setAux, Tr.mapv]
    cases Nat.beq k 0 with
    | true => rfl
    | false => cases Nat.beq (k % 2) 1 with
      | true => simp only [cond_true, cond_false, Tr.mapv, mapv_setAux f v n l]
      | false => simp only [cond_false, Tr.mapv, mapv_setAux f v n r]

theorem mapv_set {α β : Type} (f : α → β) (t : Tr α) (k : Nat) (v : Option α) : (t.set k v).mapv f = (t.mapv f).set k (v.map f) := mapv_setAux f v _ t k

theorem mapv_mkn {α β : Type} (f : α → β) (l : Tr α) (v : Option α) (r : Tr α) : (Tr.mkn l v r).mapv f = Tr.mkn (l.mapv f) (v.map f) (r.mapv f) := by
  unfold Tr.mkn
  cases l <;> cases v <;> cases r <;> rfl

theorem mapv_filt {α β : Type} (f : α → β) (m : Nat) : ∀ (t : Tr α) (a b : Nat), (t.filt m a b).mapv f = (t.mapv f).filt m a b
  | .leaf, a, b => rfl
  | .node l v r, a, b => by
    simp only [Tr.filt, Tr.mapv, mapv_mkn, mapv_filt f m l, mapv_filt f m r]
    cases Nat.testBit m b <;> rfl

/-- A pass over a trie, told on the mapped one. -/
theorem mapv_tm {α β : Type} (f : α → β) (g : Nat → α → Option (Option α)) (g' : Nat → β → Option (Option β)) (hg : ∀ k x y, g k x = some y → g' k (f x) = some (y.map f)) :
    ∀ (t : Tr α) (a b : Nat) (r : Tr α), t.tm g a b = some r → (t.mapv f).tm g' a b = some (r.mapv f)
  | .leaf, a, b, r, h => by simp only [Tr.tm, Option.some.injEq] at h; subst h; rfl
  | .node l v q, a, b, r, h => by
    simp only [Tr.tm] at h
    obtain ⟨l', h1, h⟩ := some_bind h
    obtain ⟨v', h2, h⟩ := some_bind h
    obtain ⟨q', h3, h⟩ := some_bind h
    cases h
    simp only [Tr.mapv, Tr.tm, mapv_tm f g g' hg l _ _ _ h1, mapv_tm f g g' hg q _ _ _ h3, Option.bind_some, mapv_mkn]
    cases v with
    | none => cases h2; rfl
    | some x =>
      simp only [Option.map_some]
      rw [hg _ _ _ h2]; rfl

/-! Operands -/
section
variable (T : TS S)

theorem ofVal_dv (v : Value) : ofVal v = (ofValT (S := S) v).map (dv T) := by
  unfold ofVal ofValT
  split <;> simp [dv]

theorem opnd_dv (ρ : Nat → Option (TV S)) (x : Operand) : opnd (dvr T ρ) x = (opndT ρ x).map (dv T) := by
  cases x with
  | tmp t => rfl
  | const v => exact ofVal_dv T v
  | func f => simp [opnd, opndT, dv, dvl]
  | global g => rfl

theorem opnds_dv (ρ : Nat → Option (TV S)) : ∀ xs, opnds (dvr T ρ) xs = (opndsT ρ xs).map (dvl T)
  | [] => by simp [opnds, opndsT, dvl]
  | x :: xs => by
    simp only [opnds, opndsT, opnd_dv, opnds_dv ρ xs]
    cases opndT ρ x with
    | none => rfl
    | some v => cases opndsT ρ xs with
      | none => rfl
      | some vs => simp [dvl]

theorem opt_dv (ρ : Nat → Option (TV S)) (x : Option Operand) : optOpnd (dvr T ρ) x = (optT ρ x).map (Option.map (dv T)) := by
  cases x with
  | none => rfl
  | some x =>
    simp only [optOpnd, optT, opnd_dv]
    cases opndT ρ x <;> rfl
end

/-! Objects in values -/
section
variable {T : TS S} (hT : TOk T)
include hT

mutual
theorem idfree_dv : ∀ v : TV S, idfree (dv T v) = idfreeT v
  | .bool _ => rfl | .int _ _ => rfl | .str _ => rfl | .nilp => rfl | .nils => rfl
  | .sl0 => by simp [dv, idfree, idfreeT] | .sl _ _ => by simp [dv, idfree, idfreeT]
  | .arr _ _ _ => by simp [dv, idfree, idfreeT]
  | .stc _ _ => by simp [dv, idfree, idfreeT]
  | .ptr _ _ => by simp [dv, idfree, idfreeT] | .ap _ _ _ _ _ => by simp [dv, idfree, idfreeT] | .rptr _ _ _ _ _ => by simp [dv, idfree, idfreeT]
  | .pub _ => by simp [dv, idfree, idfreeT]
  | .rs _ _ => by simp [dv, idfree, idfreeT] | .map _ => by simp [dv, idfree, idfreeT] | .iter _ => by simp [dv, idfree, idfreeT] | .yld _ => by simp [dv, idfree, idfreeT]
  | .nilfn => by simp [dv, idfree, idfreeT] | .nilmap => by simp [dv, idfree, idfreeT] | .nilif => by simp [dv, idfree, idfreeT]
  | .agg cs => by simp only [dv, idfree, idfreeT]; exact idfrees_dvs cs
  | .tup cs => by simp only [dv, idfree, idfreeT]; exact idfrees_dvl cs
  | .fn _ a c => by simp only [dv, idfree, idfreeT, idfrees_dvl a, idfrees_dvl c]
  | .iface _ v => by simp only [dv, idfree, idfreeT]; exact idfree_dv v
theorem idfrees_dvs : ∀ cs : List (TV S), idfrees (dvs T cs) = idfreesT cs
  | [] => by simp [dvs, idfrees, idfreesT]
  | c :: cs => by
    rw [dvs_cons, idfrees_append, idfreesT, idfrees_dvs cs]
    have h := idfree_dv c
    cases c <;> simp only [cell1, idfrees, Bool.and_true] <;> first | rw [h] | skip
    · rw [plains_free (acl_plain hT _ _ _)]; rfl
    · rw [plains_free (hT.plain _ _)]; rfl
theorem idfrees_dvl : ∀ cs : List (TV S), idfrees (dvl T cs) = idfreesT cs
  | [] => by simp [dvl, idfrees, idfreesT]
  | c :: cs => by simp only [dvl, idfrees, idfreesT, idfree_dv c, idfrees_dvl cs]
end

mutual
theorem bdd_dv (n : Nat) : ∀ v : TV S, bdd n (dv T v) = bddT n v
  | .bool _ => rfl | .int _ _ => rfl | .str _ => rfl | .nilp => rfl | .nils => rfl
  | .sl0 => by simp [dv, bdd, bddT] | .sl _ _ => by simp [dv, bdd, bddT]
  | .arr _ _ _ => by simp [dv, bdd, bddT]
  | .stc _ _ => by simp [dv, bdd, bddT]
  | .ptr _ _ => by simp [dv, bdd, bddT] | .ap _ _ _ _ _ => by simp [dv, bdd, bddT] | .rptr _ _ _ _ _ => by simp [dv, bdd, bddT]
  | .rs _ _ => by simp [dv, bdd, bddT] | .map _ => by simp [dv, bdd, bddT] | .iter _ => by simp [dv, bdd, bddT] | .yld _ => by simp [dv, bdd, bddT]
  | .nilfn => by simp [dv, bdd, bddT] | .nilmap => by simp [dv, bdd, bddT] | .nilif => by simp [dv, bdd, bddT]
  | .pub cs => by simp only [dv, bdd, bddT]; exact bdds_dvs n cs
  | .agg cs => by simp only [dv, bdd, bddT]; exact bdds_dvs n cs
  | .tup cs => by simp only [dv, bdd, bddT]; exact bdds_dvl n cs
  | .fn _ a c => by simp only [dv, bdd, bddT, bdds_dvl n a, bdds_dvl n c]
  | .iface _ v => by simp only [dv, bdd, bddT]; exact bdd_dv n v
theorem bdds_dvs (n : Nat) : ∀ cs : List (TV S), bdds n (dvs T cs) = bddsT n cs
  | [] => by simp [dvs, bdds, bddsT]
  | c :: cs => by
    rw [dvs_cons, bdds_append, bddsT, bdds_dvs n cs]
    have h := bdd_dv n c
    cases c <;> simp only [cell1, bdds, Bool.and_true] <;> first | rw [h] | skip
    · rw [plains_bdd n (acl_plain hT _ _ _)]; rfl
    · rw [plains_bdd n (hT.plain _ _)]; rfl
theorem bdds_dvl (n : Nat) : ∀ cs : List (TV S), bdds n (dvl T cs) = bddsT n cs
  | [] => by simp [dvl, bdds, bddsT]
  | c :: cs => by simp only [dvl, bdds, bddsT, bdd_dv n c, bdds_dvl n cs]
end

mutual
theorem rows_dv : ∀ v : TV S, rowsOf (dv T v) = rowsOfT v
  | .bool _ => rfl | .int _ _ => rfl | .str _ => rfl | .nilp => rfl | .nils => rfl
  | .sl0 => by simp [dv, rowsOf, rowsOfT] | .sl _ _ => by simp [dv, rowsOf, rowsOfT]
  | .arr _ _ _ => by simp [dv, rowsOf, rowsOfT]
  | .stc _ _ => by simp [dv, rowsOf, rowsOfT]
  | .ptr _ _ => by simp [dv, rowsOf, rowsOfT] | .ap _ _ _ _ _ => by simp [dv, rowsOf, rowsOfT] | .rptr _ _ _ _ _ => by simp [dv, rowsOf, rowsOfT]
  | .pub _ => by simp [dv, rowsOf, rowsOfT]
  | .rs _ _ => by simp [dv, rowsOf, rowsOfT] | .map _ => by simp [dv, rowsOf, rowsOfT] | .iter _ => by simp [dv, rowsOf, rowsOfT] | .yld _ => by simp [dv, rowsOf, rowsOfT]
  | .nilfn => by simp [dv, rowsOf, rowsOfT] | .nilmap => by simp [dv, rowsOf, rowsOfT] | .nilif => by simp [dv, rowsOf, rowsOfT]
  | .agg cs => by simp only [dv, rowsOf, rowsOfT]; exact rows_dvs cs
  | .tup cs => by simp only [dv, rowsOf, rowsOfT]; exact rows_dvl cs
  | .fn _ a c => by simp [dv, rowsOf, rowsOfT]
  | .iface _ v => by simp only [dv, rowsOf, rowsOfT]; exact rows_dv v
theorem rows_dvs : ∀ cs : List (TV S), rowsOfs (dvs T cs) = rowsOfsT cs
  | [] => by simp [dvs, rowsOfs, rowsOfsT]
  | c :: cs => by
    rw [dvs_cons, rowsOfs_append, rowsOfsT, rows_dvs cs]
    have h := rows_dv c
    cases c <;> simp only [cell1, rowsOfs, List.append_nil] <;> first | rw [h] | skip
    · rw [plains_rows (acl_plain hT _ _ _)]; rfl
    · rw [plains_rows (hT.plain _ _)]; rfl
theorem rows_dvl : ∀ cs : List (TV S), rowsOfs (dvl T cs) = rowsOfsT cs
  | [] => by simp [dvl, rowsOfs, rowsOfsT]
  | c :: cs => by simp only [dvl, rowsOfs, rowsOfsT, rows_dv c, rows_dvl cs]
end

mutual
theorem ids_dv : ∀ v : TV S, idsOf (dv T v) = idsT v
  | .bool _ => rfl | .int _ _ => rfl | .str _ => rfl | .nilp => rfl | .nils => rfl
  | .sl0 => by simp [dv, idsOf, idsT] | .sl _ _ => by simp [dv, idsOf, idsT]
  | .arr _ _ _ => by simp [dv, idsOf, idsT]
  | .stc _ _ => by simp [dv, idsOf, idsT]
  | .ptr _ _ => by simp [dv, idsOf, idsT] | .ap _ _ _ _ _ => by simp [dv, idsOf, idsT] | .rptr _ _ _ _ _ => by simp [dv, idsOf, idsT]
  | .pub _ => by simp [dv, idsOf, idsT]
  | .rs _ _ => by simp [dv, idsOf, idsT] | .map _ => by simp [dv, idsOf, idsT] | .iter _ => by simp [dv, idsOf, idsT] | .yld _ => by simp [dv, idsOf, idsT]
  | .nilfn => by simp [dv, idsOf, idsT] | .nilmap => by simp [dv, idsOf, idsT] | .nilif => by simp [dv, idsOf, idsT]
  | .agg cs => by simp only [dv, idsOf, idsT]; exact ids_dvs cs
  | .tup cs => by simp only [dv, idsOf, idsT]; exact ids_dvl cs
  | .fn _ a c => by simp only [dv, idsOf, idsT, ids_dvl a, ids_dvl c]
  | .iface _ v => by simp only [dv, idsOf, idsT]; exact ids_dv v
theorem ids_dvs : ∀ cs : List (TV S), idsOfs (dvs T cs) = idssT cs
  | [] => by simp [dvs, idsOfs, idssT]
  | c :: cs => by
    rw [dvs_cons, idsOfs_append, idssT, ids_dvs cs]
    have h := ids_dv c
    cases c <;> simp only [cell1, idsOfs, List.append_nil] <;> first | rw [h] | skip
    · rw [plains_ids (acl_plain hT _ _ _)]; rfl
    · rw [plains_ids (hT.plain _ _)]; rfl
theorem ids_dvl : ∀ cs : List (TV S), idsOfs (dvl T cs) = idssT cs
  | [] => by simp [dvl, idsOfs, idssT]
  | c :: cs => by simp only [dvl, idsOfs, idssT, ids_dv c, ids_dvl cs]
end

theorem bifm {α β : Type} (c : Bool) (x : α) (f : α → β) : (bif c then some x else none).map f = bif c then some (f x) else none := by cases c <;> rfl

mutual
theorem frz_dv (h : Nat → Option (TObj S)) : ∀ v : TV S, frz (dvh T h) (dv T v) = (frzT h v).map (dv T)
  | .bool _ => by simp [dv, frz, frzT, idfree, idfreeT] | .int _ _ => by simp [dv, frz, frzT, idfree, idfreeT] | .str _ => by simp [dv, frz, frzT, idfree, idfreeT]
  | .nilp => by simp [dv, frz, frzT, idfree, idfreeT] | .nils => by simp [dv, frz, frzT]
  | .sl0 => by simp [dv, frz, frzT, idfree, idfreeT] | .sl _ _ => by simp [dv, frz, frzT, idfree, idfreeT]
  | .arr _ _ _ => by simp [dv, frz, frzT, idfree, idfreeT]
  | .stc _ _ => by simp [dv, frz, frzT, idfree, idfreeT]
  | .ptr _ _ => by simp [dv, frz, frzT, idfree, idfreeT] | .ap _ _ _ _ _ => by simp [dv, frz, frzT, idfree, idfreeT] | .rptr _ _ _ _ _ => by simp [dv, frz, frzT, idfree, idfreeT]
  | .pub _ => by simp [dv, frz, frzT, idfree, idfreeT]
  | .rs id v => by
    simp only [dv, frz, frzT, dvh]
    cases h id with
    | none => rfl
    | some o =>
      cases o <;> simp only [Option.map_some, Option.bind_some, dvO, Option.map_none]
      rename_i e t xs p u
      cases Nat.beq u v <;> simp [dv]
  | .map _ => by simp [dv, frz, frzT, idfree, idfreeT] | .iter _ => by simp [dv, frz, frzT, idfree, idfreeT] | .yld _ => by simp [dv, frz, frzT, idfree, idfreeT]
  | .nilfn => by simp [dv, frz, frzT, idfree, idfreeT] | .nilmap => by simp [dv, frz, frzT, idfree, idfreeT] | .nilif => by simp [dv, frz, frzT, idfree, idfreeT]
  | .agg cs => by
    simp only [dv, frz, frzT, frzs_dvs h cs]
    cases frzsT h cs <;> simp [dv]
  | .tup cs => by
    simp only [dv, frz, frzT, frzs_dvl h cs]
    cases frzsT h cs <;> simp [dv]
  | .fn f a c => by
    simp only [dv, frz, frzT, idfree, idfreeT, idfrees_dvl hT a, idfrees_dvl hT c]
    cases idfreesT a && idfreesT c <;> simp [dv]
  | .iface t v => by
    simp only [dv, frz, frzT, frz_dv h v]
    cases frzT h v <;> simp [dv]
theorem frzs_dvs (h : Nat → Option (TObj S)) : ∀ cs : List (TV S), frzs (dvh T h) (dvs T cs) = (frzsT h cs).map (dvs T)
  | [] => by simp [dvs, frzs, frzsT]
  | c :: cs => by
    rw [dvs_cons, frzs_append, frzs_dvs h cs, frzsT]
    have hc := frz_dv h c
    by_cases ha : isArrT c = true
    · cases c <;> simp only [isArrT, Bool.false_eq_true] at ha
      · simp only [cell1, frzT, idfreeT, cond_true, Option.bind_some]
        rw [plains_frz _ (acl_plain hT _ _ _)]
        cases frzsT h cs <;> simp [dvs]
      · simp only [cell1, frzT, idfreeT, cond_true, Option.bind_some]
        rw [plains_frz _ (hT.plain _ _)]
        cases frzsT h cs <;> simp [dvs]
    · have h1 : cell1 T c = [dv T c] := by cases c <;> simp [cell1, isArrT] at ha ⊢
      rw [h1]
      simp only [frzs, hc]
      cases hf : frzT h c with
      | none => rfl
      | some c' =>
        have ha' : isArrT c' = false := by
          cases c <;> simp [isArrT] at ha <;> simp only [frzT, idfreeT, cond_true, cond_false, reduceCtorEq, Option.some.injEq] at hf <;> first | (subst hf; rfl) | skip
          · cases ho : h _ with
            | none => rw [ho] at hf; cases hf
            | some o =>
              rw [ho] at hf
              cases o <;> simp only [Option.bind_some, reduceCtorEq] at hf
              obtain ⟨_, hf⟩ := bif_some hf
              cases hf; rfl
          · obtain ⟨_, _, hf⟩ := some_bind hf; cases hf; rfl
          · obtain ⟨_, _, hf⟩ := some_bind hf; cases hf; rfl
          · obtain ⟨_, hf⟩ := bif_some hf; cases hf; rfl
          · obtain ⟨_, _, hf⟩ := some_bind hf; cases hf; rfl
        have h2 : ∀ l, dvs T (c' :: l) = dv T c' :: dvs T l := fun l => by
          rw [dvs_cons]
          cases c' <;> simp [cell1, isArrT] at ha' ⊢
        cases frzsT h cs <;> simp [h2]
theorem frzs_dvl (h : Nat → Option (TObj S)) : ∀ cs : List (TV S), frzs (dvh T h) (dvl T cs) = (frzsT h cs).map (dvl T)
  | [] => by simp [dvl, frzs, frzsT]
  | c :: cs => by
    simp only [dvl, frzs, frzsT, frz_dv h c, frzs_dvl h cs]
    cases frzT h c with
    | none => rfl
    | some c' => cases frzsT h cs <;> simp [dvl]
end

mutual
theorem ren_dv (n : Nat) (L : List (Option (Nat × Nat))) : ∀ v : TV S, ren n L (dv T v) = (renT n L v).map (dv T)
  | .bool _ => by simp [dv, ren, renT, bdd, bddT] | .int _ _ => by simp [dv, ren, renT, bdd, bddT] | .str _ => by simp [dv, ren, renT, bdd, bddT]
  | .nilp => by simp [dv, ren, renT, bdd, bddT] | .nils => by simp [dv, ren, renT, bdd, bddT]
  | .sl0 => by simp [dv, ren, renT, bdd, bddT] | .sl _ _ => by simp [dv, ren, renT, bdd, bddT]
  | .arr _ _ _ => by simp [dv, ren, renT, bdd, bddT]
  | .stc _ _ => by simp [dv, ren, renT, bdd, bddT]
  | .ptr i o => by simp only [dv, ren, renT, bdd, bddT]; cases Nat.blt i n <;> simp [dv]
  | .ap i _ _ _ _ => by simp only [dv, ren, renT, bdd, bddT]; cases Nat.blt i n <;> simp [dv]
  | .rptr i _ _ _ _ => by simp only [dv, ren, renT, bdd, bddT]; cases Nat.blt i n <;> simp [dv]
  | .pub cs => by simp only [dv, ren, renT, bdd, bddT, bdds_dvs hT n cs]; cases bddsT n cs <;> simp [dv]
  | .rs id v => by
    simp only [dv, ren, renT]
    cases findJ id v 0 L with
    | some j => simp [dv]
    | none =>
      simp only
      cases Nat.blt id n && !moved id L <;> simp [dv]
  | .map i => by simp only [dv, ren, renT, bdd, bddT]; cases Nat.blt i n <;> simp [dv]
  | .iter i => by simp only [dv, ren, renT, bdd, bddT]; cases Nat.blt i n <;> simp [dv]
  | .yld i => by simp only [dv, ren, renT, bdd, bddT]; cases Nat.blt i n <;> simp [dv]
  | .nilfn => by simp [dv, ren, renT, bdd, bddT] | .nilmap => by simp [dv, ren, renT, bdd, bddT] | .nilif => by simp [dv, ren, renT, bdd, bddT]
  | .agg cs => by
    simp only [dv, ren, renT, rens_dvs n L cs]
    cases rensT n L cs <;> simp [dv]
  | .tup cs => by
    simp only [dv, ren, renT, rens_dvl n L cs]
    cases rensT n L cs <;> simp [dv]
  | .fn f a c => by
    simp only [dv, ren, renT, bdd, bddT, bdds_dvl hT n a, bdds_dvl hT n c]
    cases bddsT n a && bddsT n c <;> simp [dv]
  | .iface t v => by
    simp only [dv, ren, renT, bdd, bddT, bdd_dv hT n v]
    cases bddT n v <;> simp [dv]
theorem rens_dvs (n : Nat) (L : List (Option (Nat × Nat))) : ∀ cs : List (TV S), rens n L (dvs T cs) = (rensT n L cs).map (dvs T)
  | [] => by simp [dvs, rens, rensT]
  | c :: cs => by
    rw [dvs_cons, rens_append, rens_dvs n L cs, rensT]
    have hc := ren_dv n L c
    by_cases ha : isArrT c = true
    · cases c <;> simp only [isArrT, Bool.false_eq_true] at ha
      · simp only [cell1, renT, bddT, cond_true, Option.bind_some]
        rw [plains_ren n L (acl_plain hT _ _ _)]
        cases rensT n L cs <;> simp [dvs]
      · simp only [cell1, renT, bddT, cond_true, Option.bind_some]
        rw [plains_ren n L (hT.plain _ _)]
        cases rensT n L cs <;> simp [dvs]
    · have h1 : cell1 T c = [dv T c] := by cases c <;> simp [cell1, isArrT] at ha ⊢
      rw [h1]
      simp only [rens, hc]
      cases hf : renT n L c with
      | none => rfl
      | some c' =>
        have ha' : isArrT c' = false := by
          cases c <;> simp [isArrT] at ha <;> simp only [renT, bddT, cond_true, Option.some.injEq] at hf <;> first | (subst hf; rfl) | (obtain ⟨_, hf⟩ := bif_some hf; cases hf; rfl) | (obtain ⟨_, _, hf⟩ := some_bind hf; cases hf; rfl) | skip
          rename_i id v
          cases hj : findJ id v 0 L with
          | some j => rw [hj] at hf; cases hf; rfl
          | none => rw [hj] at hf; obtain ⟨_, hf⟩ := bif_some hf; cases hf; rfl
        have h2 : ∀ l, dvs T (c' :: l) = dv T c' :: dvs T l := fun l => by
          rw [dvs_cons]
          cases c' <;> simp [cell1, isArrT] at ha' ⊢
        cases rensT n L cs <;> simp [h2]
theorem rens_dvl (n : Nat) (L : List (Option (Nat × Nat))) : ∀ cs : List (TV S), rens n L (dvl T cs) = (rensT n L cs).map (dvl T)
  | [] => by simp [dvl, rens, rensT]
  | c :: cs => by
    simp only [dvl, rens, rensT, ren_dv n L c, rens_dvl n L cs]
    cases renT n L c with
    | none => rfl
    | some c' => cases rensT n L cs <;> simp [dvl]
end

omit hT in
theorem show_dv (h : Nat → Option (TObj S)) : ∀ is, showRows (dvh T h) is = dvu T (showT h is)
  | [] => rfl
  | i :: is => by
    simp only [showRows, showT, show_dv h is, dvh, dvu, List.map_append]
    cases h i with
    | none => rfl
    | some o =>
      cases o with
      | row e t xs p u => simp only [Option.map_some, dvO]; cases Nat.beq p 1 <;> simp [dvO]
      | _ => simp [dvO]
end
end Go.Ab
