/- Operations, continued: slices. -/
import Derived.Test.YtehofdemanfenaaAb9
import Derived.Deep.DeepAppendWide
namespace Go.Ab
open Go.RowKit

section
variable {P : Program} {E : Env} {w0 : World} {G0 : Gh} {D : DD} {o : Oper} {a : Act} {w : World} {β : Bi} {G : Gh} {h : Nat → Option AObj} {nid : Nat} {ρ : Nat → Option DV}

/-- What a slice's value is, and where its cells lie. -/
theorem elems_sound (hh : HR E w0 G0 D w β G h) {d : DV} {es : List (List DV)} {v : Value} (hd : elemsOf h d = some es) (hr : Rep β G d v) :
    ∃ A c, v = .slice A es.length c ∧ es.length ≤ c ∧ (es = [] ∨ ∃ b off e vals, A = some ⟨b, off, none⟩ ∧ (∀ x ∈ es, x.length = e ∧ idfrees x = true ∧ x.all isCell = true) ∧ RepL β G es.flatten vals ∧
      ∀ j u, vals[j]? = some u → w.cell? ⟨b, off + j, none⟩ = some u) := by
  unfold elemsOf at hd
  split at hd
  · cases hd
    rw [rep_nils] at hr
    exact ⟨none, 0, hr, Nat.le_refl _, .inl rfl⟩
  · cases hd
    obtain ⟨A, c, ⟨rfl, hle⟩, h1⟩ := rep_sl.1 hr
    refine ⟨A, c, rfl, hle, ?_⟩
    rcases h1 with h1 | ⟨b, off, e, h1, h2⟩
    · exact .inl h1
    · refine .inr ⟨b, off, e, ?_⟩
      have key : ∀ (es : List (List DV)) (off : Nat), PubE β G b e off es → ∃ vals, (∀ x ∈ es, x.length = e ∧ idfrees x = true ∧ x.all isCell = true) ∧ RepL β G es.flatten vals ∧ ∀ j u, vals[j]? = some u → w.cell? ⟨b, off + j, none⟩ = some u := by
        intro es
        induction es with
        | nil => intro off _; exact ⟨[], by simp, repL_nil.2 rfl, by simp⟩
        | cons x xs ih =>
          intro off hp
          unfold PubE at hp
          obtain ⟨k1, k2, k3, k4⟩ := hp
          obtain ⟨vs1, k5, k6⟩ := cell_pub hh.agree x off k3
          obtain ⟨vs2, k7, k8, k9⟩ := ih (off + e) k4
          refine ⟨vs1 ++ vs2, ?_, ?_, ?_⟩
          · intro y hy
            rcases List.mem_cons.1 hy with rfl | hy
            · exact ⟨k1, k2⟩
            · exact k7 y hy
          · rw [List.flatten_cons]; exact repL_append.2 ⟨_, _, rfl, k5, k8⟩
          · intro j u hj
            have hl := repL_len k5
            by_cases hlt : j < vs1.length
            · rw [List.getElem?_append_left hlt] at hj; exact k6 j u hj
            · rw [List.getElem?_append_right (by omega)] at hj
              have := k9 _ u hj
              rwa [show off + e + (j - vs1.length) = off + j by omega] at this
      obtain ⟨vals, k1, k2, k3⟩ := key es off h2
      exact ⟨vals, h1, k1, k2, k3⟩
  · rename_i id ver
    obtain ⟨ob, ho, hd⟩ := some_bind hd
    split at hd
    · rename_i t _ p u
      obtain ⟨hu, hd2⟩ := bif_some hd
      clear hd
      cases hd2
      have hu : u = ver := Nat.eq_of_beq_eq_true hu
      subst hu
      obtain ⟨hdr, vals, h1, h2, h3, h4, h5, h6, h7⟩ := hh.obj id _ ho
      obtain ⟨h8, _⟩ := rep_rs.1 hr
      rw [h1] at h8; cases h8
      rcases h2.2 with ⟨hv, hn⟩ | ⟨g, cap, cur, hv, hg1, hg2, hg3, hg4, hg5, hg6⟩
      · have hes : es = [] := List.eq_nil_of_length_eq_zero hn
        exact ⟨none, 0, by rw [hv, hes]; rfl, by rw [hes]; exact Nat.le_refl _, .inl hes⟩
      · refine ⟨_, cap, hv, hg3, .inr ⟨g, 0, eszOf E t, vals, rfl, h4, h3, fun j u hj => ?_⟩⟩
        have := h2.cells (g := g) (by rw [hv]; rfl) j u hj
        rwa [addr_add] at this
    · cases hd
  · cases hd

theorem idx_some {n : Nat} {d : DV} {i : Nat} {v : Value} (hd : idxOf n d = some i) (hr : Rep β G d v) : ∃ k, v = .int k (i : Int) ∧ i < n := by
  unfold idxOf at hd
  split at hd
  · rename_i k x
    rw [rep_int] at hr
    obtain ⟨hq, hd⟩ := bif_some hd
    simp only [Bool.and_eq_true, decide_eq_true_eq] at hq
    cases hd
    refine ⟨k, ?_, by omega⟩
    rw [hr, Int.toNat_of_nonneg hq.1]
  · cases hd

theorem mapR_len : ∀ {es : List (DV × DV)} {ms : List MapEntry}, MapR β G es ms → ms.length = es.length
  | [], _, h => by simp only [MapR] at h; simp [h]
  | _ :: _, _, ⟨m, ms', h1, _, _, _, _, h6⟩ => by subst h1; simp [mapR_len h6]

theorem len_sound (hh : HR E w0 G0 D w β G h) {t : TypeId} {ti : TI} (ht : TyOk P t ti) {ts : Array TypeId} (hts : ts[0]? = some t) {ty : TypeId} {d r : DV} {v : Value} (hd : lenD ti.k h d = some r) (hr : Rep β G d v) :
    ∃ u, (Builtin.len_ ts ty #[v]).run P w = .ok u w ∧ Rep β G r u := by
  have hdesc := ht.desc
  unfold lenD at hd
  split at hd <;> rename_i hk
  · cases hd
    rw [hk] at hdesc
    rw [rep_str] at hr; subst hr
    exact ⟨_, by simp [Builtin.len_, hts, Go.run_underlying hdesc, goInt], rep_int.2 rfl⟩
  · cases hd
    rw [hk] at hdesc
    rw [rep_nilmap] at hr; subst hr
    exact ⟨_, by simp [Builtin.len_, hts, Go.run_underlying hdesc, goInt], rep_int.2 rfl⟩
  · rename_i k e id
    rw [hk] at hdesc
    obtain ⟨ob, ho, hd⟩ := some_bind hd
    split at hd
    · cases hd
      obtain ⟨b, hb, rfl⟩ := rep_map.1 hr
      obtain ⟨b', ms, clock, h1, h2, h3⟩ := hh.obj id _ ho
      rw [hb] at h1; cases h1
      have hl := mapR_len h3
      simp at hl
      exact ⟨.int .i64 (ms.size : Nat), by simp [Builtin.len_, hts, Go.run_underlying hdesc, goInt, getObj, Sem.run, h2], rep_int.2 (by rw [hl])⟩
    · cases hd
  · rw [hk] at hdesc
    obtain ⟨es, hes, hd⟩ := some_bind hd
    cases hd
    obtain ⟨A, c, rfl, _, _⟩ := elems_sound hh hes hr
    exact ⟨_, by simp [Builtin.len_, hts, Go.run_underlying hdesc, goInt], rep_int.2 rfl⟩
  · rw [hk] at hdesc
    cases hd
    exact ⟨_, by simp [Builtin.len_, hts, Go.run_underlying hdesc, goInt], rep_int.2 rfl⟩
  · cases hd

/-- append onto a row of the call's own: the row lies where it lay, or in a new block, and then no old block has turned. -/
theorem append_run {base : Nat} {t ty e : TypeId} {ti : TI} (ht : P.underlying t = some (.slice e)) (hei : TyOk P e ti) {v : Value} {n : Nat} {xs : List Value}
    (hown : w.ownsRow base e ti.size v n xs) {A : Option Addr} {m c : Nat} {news : List Value} (hl : news.length = m * ti.size)
    (hnews : m = 0 ∨ ∃ b off, A = some ⟨b, off, none⟩ ∧ ∀ j u, news[j]? = some u → w.cell? ⟨b, off + j, none⟩ = some u) (h1 : ∀ u ∈ news, u.oneCell' = true)
    (hb : (n + m) * (ti.bytes + 1) ≤ 200000000000000) (hby2 : ti.bytes ≤ 100000000000) (hbase : base ≤ w.heap.size) :
    ∃ v' w' row, (Builtin.append_ #[t, t] ty #[v, .slice A m c]).run P w = .ok v' w' ∧ w'.ownsRow base e ti.size v' (n + m) (xs ++ news) ∧ w.grownBy w' row ∧
      (row = none ∧ (v'.ownBlock = some w.heap.size ∨ v' = v) ∨ row = v.ownBlock ∧ v'.ownBlock = v.ownBlock) := by
  obtain ⟨i, z, hi, hs, hby, hz, hzs, _⟩ := hei.info
  have hn1 : n + m ≤ 200000000000000 := by
    have := Nat.le_mul_of_pos_right (n + m) (show 0 < ti.bytes + 1 by omega)
    omega
  have hn2 : (n + m) * ti.bytes ≤ 200000000000000 := by
    have := Nat.mul_le_mul_left (n + m) (show ti.bytes ≤ ti.bytes + 1 by omega)
    omega
  have hwide : (n + m + (n + m) / 4 + 192) * i.bytes ≤ 281474976710656 := by
    rw [hby]
    have h1 := Nat.mul_le_mul_right ti.bytes (Nat.div_mul_le_self (n + m) 4)
    have h2 : (n + m) / 4 * 4 * ti.bytes = (n + m) / 4 * ti.bytes * 4 := by rw [Nat.mul_assoc, Nat.mul_comm 4, Nat.mul_assoc]
    rw [h2] at h1
    rw [Nat.add_mul, Nat.add_mul]
    omega
  by_cases hm : m = 0
  · subst hm
    have hne : news = [] := List.eq_nil_of_length_eq_zero (by simpa using hl)
    subst hne
    refine ⟨v, w, none, ?_, by simpa using hown, World.grownBy.refl w _, .inl ⟨rfl, .inr rfl⟩⟩
    rcases hown.2 with ⟨rfl, rfl⟩ | ⟨g, cap, cur, rfl, _, hg, hnc, _, hcs, _⟩
    · cases A <;> simp [Builtin.append_, Go.run_underlying ht, sizeOf, typeInfo, hi, Builtin.lenOf, Builtin.firstCells, loadCells, loadCellsFrom]
    · cases A <;> simp [Builtin.append_, Go.run_underlying ht, sizeOf, typeInfo, hi, Builtin.lenOf, Builtin.firstCells, hnc, loadCells, loadCellsFrom, storeCells]
  · obtain ⟨b, off, rfl, hcell⟩ := hnews.resolve_left hm
    have hcell' : ∀ j u, news[j]? = some u → w.cell? ((⟨b, off, none⟩ : Addr).add j) = some u := fun j u hj => by rw [addr_add]; exact hcell j u hj
    have h63 : ((n + m : Nat) : Int) ≤ 9223372036854775807 := by omega
    rcases hown.2 with ⟨rfl, rfl⟩ | ⟨g, cap, cur, rfl, hgb, hg, hnc, hcm, hcs, htake⟩
    · have hxs : xs = [] := List.eq_nil_of_length_eq_zero (by simpa using hown.1)
      subst hxs
      have hr := run_append_nil (P := P) w t ty e i z ht hi hz ⟨b, off, none⟩ m c news (by rw [hs]; exact hl) hcell' (by omega) (by omega) (by rw [hby]; simp at hn2; omega)
      have hge := grownCap_ge w m 0 e
      refine ⟨_, _, none, hr, ⟨by simpa using hl, .inr ⟨w.heap.size, _, _, by rw [Nat.zero_add], hbase, heap_alloc_new w.drew _, by omega, grownCap_le_maxLen w m 0 e (by simp only [maxLen]; omega), ?_, ?_⟩⟩, ?_, .inl ⟨rfl, .inl rfl⟩⟩
      · simp only [Array.size_append, List.size_toArray, size_zeroCells, hl, hzs]
        rw [← Nat.add_mul]; congr 1; omega
      · simp only [Array.toList_append, List.nil_append, Nat.zero_add]
        rw [← hl]; simp
      · exact ⟨rfl, rfl, rfl, by simp, fun k hk _ => Below.heap_alloc w.drew _ k hk⟩
    · by_cases hroom : n + m ≤ cap
      · obtain ⟨w', hr, ho, hgr⟩ := run_append_fits (P := P) w base t ty e i ti.size ht hi hs g n cap xs hown ⟨b, off, none⟩ m c news hl hcell' h1 hroom
        exact ⟨_, w', _, hr, ho, hgr, .inr ⟨rfl, rfl⟩⟩
      · have hxl : xs.length = n * i.size := by rw [hs]; exact hown.1
        have hxc := hown.cells (g := g) rfl
        have hr := run_append_grow (P := P) w t ty e i z ht hi hz ⟨g, 0, none⟩ n cap xs hxl hxc ⟨b, off, none⟩ m c news (by rw [hs]; exact hl) hcell' (by omega) h63 (growslice_fits_wide (by omega) hwide)
        have hge := grownCap_ge w (n + m) cap e
        refine ⟨_, _, none, hr, ⟨by rw [List.length_append, hown.1, hl, Nat.add_mul], .inr ⟨w.heap.size, _, _, rfl, hbase, heap_alloc_new w.drew _, hge, grownCap_le_maxLen w (n + m) cap e (by simp only [maxLen]; omega), ?_, ?_⟩⟩, ?_, .inl ⟨rfl, .inl rfl⟩⟩
        · simp only [Array.size_append, List.size_toArray, size_zeroCells, hl, hown.1, hzs]
          rw [← Nat.add_mul, ← Nat.add_mul]; congr 1; omega
        · simp only [Array.toList_append]
          rw [Nat.add_mul, ← hown.1, ← hl]
          exact List.take_left' (by simp)
        · exact ⟨rfl, rfl, rfl, by simp, fun k hk _ => Below.heap_alloc w.drew _ k hk⟩

end
end Go.Ab
