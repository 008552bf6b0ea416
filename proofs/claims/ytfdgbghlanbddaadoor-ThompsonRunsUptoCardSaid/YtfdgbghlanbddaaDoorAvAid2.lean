import Derived.Test.YtfdgbghlanbddaaDoorAvAid
set_option linter.unusedVariables false
set_option linter.unusedSimpArgs false
namespace Go.Proofs.YtfdgbghlanbddaaDoor.Av
open Go.RowKit
section
variable {P : Program} {w0 : World} {N : Nat} {f : Frame} {es es2 : List Ent}
/-- What is read at a place of one's own. -/
theorem run_cell {c : Core} (ok : Ok w0 c es) {t : TypeId} {agg : Bool} {n id s i off e sz : Nat} {rows : List (List AV)} {r : List AV} {a : AV} {v : Value} (h : Rep c (some es) (.ptr id s i off) v) (he : at_ es id = some (.row s e sz rows)) (hr : rows[i]? = some r)
    (ht : tyB P t agg n = true) (hn : agg = false → n = 1) (hl : off + n ≤ r.length) (ha : loadAV agg n r off = a) : ∃ p u, v = .pointer (some p) ∧ (loadVar t p).run P c.w = .ok u c.w ∧ Rep c (some es) a u := by
  obtain ⟨gb, cap, hp, hv⟩ := rep_ptr h he
  obtain ⟨xs, cur, h4, _, _, _, _, _, h5⟩ := own_cells ok he hp
  obtain ⟨g1, g2, g3⟩ := h4.get i r hr
  have hlen : ((xs.drop (i * sz)).take sz).length = sz := by rw [List.length_take, List.length_drop]; omega
  have hrun := run_loadVar (P := P) ht hn (w := c.w) (b := gb) (k := i * sz + off) (vs := ((((xs.drop (i * sz)).take sz).drop off).take n)) (by rw [List.length_take, List.length_drop, hlen]; omega)
    (fun j u hj => by
      rw [List.getElem?_take] at hj
      split at hj
      · rw [List.getElem?_drop, List.getElem?_take] at hj
        split at hj
        · rw [List.getElem?_drop] at hj
          rw [Nat.add_assoc]
          exact h5 _ u hj
        · cases hj
      · cases hj)
  exact ⟨_, _, hv, hrun, ha ▸ rep_load g3 (fun u hu => h4.one u (List.mem_of_mem_drop (List.mem_of_mem_take hu))) agg hn hl⟩
theorem res_cell {fn : Func} {t u : Nat} {agg : Bool} {n id s i off e sz : Nat} {rows : List (List AV)} {r : List AV} {a : AV} (hres : fn.results = #[.cell t u]) (hf : f t = .ptr id s i off) (he : at_ es id = some (.row s e sz rows)) (hr : rows[i]? = some r)
    (ht : tyB P u agg n = true) (hn : agg = false → n = 1) (hl : off + n ≤ r.length) (ha : loadAV agg n r off = a) : ARes P w0 N fn f es a := by
  intro c A ok rf
  obtain ⟨p, w, hv, hrun, hrep⟩ := run_cell (P := P) ok (hf ▸ rf.rep t) he hr ht hn hl ha
  refine ⟨w, ?_, hrep⟩
  have hv' : (A.tmps[t]?).getD undef = .pointer (some p) := by simpa using hv
  simp [results, hres, hv', asAddr, hrun]
theorem res_cell_tmp {fn : Func} {t u x : Nat} {agg : Bool} {n id s i off e sz : Nat} {rows : List (List AV)} {r : List AV} {a : AV} (hres : fn.results = #[.cell t u, .tmp x]) (hf : f t = .ptr id s i off) (he : at_ es id = some (.row s e sz rows)) (hr : rows[i]? = some r)
    (ht : tyB P u agg n = true) (hn : agg = false → n = 1) (hl : off + n ≤ r.length) (ha : loadAV agg n r off = a) : ARes P w0 N fn f es (.tup [a, f x]) := by
  intro c A ok rf
  obtain ⟨p, w, hv, hrun, hrep⟩ := run_cell (P := P) ok (hf ▸ rf.rep t) he hr ht hn hl ha
  refine ⟨.tuple #[w, A.tmps.getD x undef], ?_, ?_⟩
  · have hv' : (A.tmps[t]?).getD undef = .pointer (some p) := by simpa using hv
    simp [results, hres, hv', asAddr, hrun]
  · simp only [Rep, Reps]
    exact ⟨_, rfl, _, _, rfl, hrep, _, _, rfl, rf.rep x, rfl⟩
/-- What a function answers out of a variable. -/
theorem retc {fn : Func} {t u : Nat} {agg : Bool} {n id s e sz : Nat} {r : List AV} {rest : List (List AV)} {a : AV} {C : Ent → List Ent} {R : AV → List Ent → Prop} (hres : fn.results = #[.cell t u]) (ht : tyB P u agg n = true) (hs : Sub es2 es) (h : R a es2)
    (hf : f t = .ptr id s 0 0 := by simp only [upd_apply, Nat.reduceEqDiff, ↓reduceIte] <;> exact rfl) (he : Loc es id (.row s e sz (r :: rest)) C := by first | exact loc_hit | exact (loc_miss loc_hit) | exact (loc_miss (loc_miss loc_hit)) | exact (loc_miss (loc_miss (loc_miss loc_hit))) | exact (loc_miss (loc_miss (loc_miss (loc_miss loc_hit)))))
    (hn : agg = false → n = 1 := by first | (intro h; cases h; done) | exact fun _ => rfl) (hl : 0 + n ≤ r.length := by first | exact Nat.le_of_ble_eq_true rfl | decide) (ha : loadAV agg n r 0 = a := by exact rfl) : kret P w0 N fn R .ret f es :=
  ⟨a, es2, res_cell hres hf he.1 rfl ht hn hl ha, hs, h⟩
theorem retct {fn : Func} {t u x : Nat} {agg : Bool} {n id s e sz : Nat} {r : List AV} {rest : List (List AV)} {a b : AV} {C : Ent → List Ent} {R : AV → List Ent → Prop} (hres : fn.results = #[.cell t u, .tmp x]) (ht : tyB P u agg n = true) (hs : Sub es2 es) (h : R (.tup [a, b]) es2)
    (hf : f t = .ptr id s 0 0 := by simp only [upd_apply, Nat.reduceEqDiff, ↓reduceIte] <;> exact rfl) (hx : f x = b := by simp only [upd_apply, Nat.reduceEqDiff, ↓reduceIte] <;> exact rfl) (he : Loc es id (.row s e sz (r :: rest)) C := by first | exact loc_hit | exact (loc_miss loc_hit) | exact (loc_miss (loc_miss loc_hit)) | exact (loc_miss (loc_miss (loc_miss loc_hit))) | exact (loc_miss (loc_miss (loc_miss (loc_miss loc_hit)))))
    (hn : agg = false → n = 1 := by first | (intro h; cases h; done) | exact fun _ => rfl) (hl : 0 + n ≤ r.length := by first | exact Nat.le_of_ble_eq_true rfl | decide) (ha : loadAV agg n r 0 = a := by exact rfl) : kret P w0 N fn R .ret f es :=
  ⟨.tup [a, b], es2, hx ▸ res_cell_tmp hres hf he.1 rfl ht hn hl ha, hs, h⟩
/-! ### the nil slice as an empty list, in rows -/
def nilTo (sz : Nat) : AV → AV
  | .nil => .list sz []
  | a => a
theorem rep_nilTo {c : Core} {m : Option (List Ent)} (sz : Nat) {a : AV} {v : Value} (h : Rep c m a v) : Rep c m (nilTo sz a) v := by
  cases a with
  | nil =>
    simp only [nilTo, Rep] at h ⊢
    exact ⟨none, 0, [], h, Nat.le_refl _, Nat.zero_le _, by simp only [RepRows], fun e => absurd rfl e⟩
  | _ => exact h
theorem reps_nilTo {c : Core} {m : Option (List Ent)} (sz : Nat) : ∀ {l : List AV} {vs : List Value}, Reps c m l vs → Reps c m (l.map (nilTo sz)) vs
  | [], _, h => h
  | a :: t, _, h => by
    simp only [Reps, List.map_cons] at h ⊢
    obtain ⟨v, vs', e, h1, h2⟩ := h
    exact ⟨v, vs', e, rep_nilTo sz h1, reps_nilTo sz h2⟩
theorem repRows_nilTo {c : Core} {m : Option (List Ent)} (sz : Nat) {k : Nat} : ∀ {rows : List (List AV)} {vs : List Value}, RepRows c m k rows vs → RepRows c m k (rows.map fun r => r.map (nilTo sz)) vs
  | [], _, h => h
  | r :: t, _, h => by
    simp only [RepRows, List.map_cons] at h ⊢
    obtain ⟨v1, v2, e, hl, h1, ho, h2⟩ := h
    exact ⟨v1, v2, e, by rw [List.length_map]; exact hl, reps_nilTo sz h1, ho, repRows_nilTo sz h2⟩
theorem rep_list_nilTo {c : Core} {m : Option (List Ent)} (sz : Nat) {k : Nat} {rows : List (List AV)} {v : Value} (h : Rep c m (.list k rows) v) : Rep c m (.list k (rows.map fun r => r.map (nilTo sz))) v := by
  simp only [Rep] at h ⊢
  obtain ⟨A, cap, vs, e, h1, h2, h3, h4⟩ := h
  exact ⟨A, cap, vs, by rw [List.length_map]; exact e, by rw [List.length_map]; exact h1, by rw [List.length_map]; exact h2, repRows_nilTo sz h3, h4⟩
/-- A slot told otherwise. -/
theorem l_retell {ops : Array Oper} {rest : List Oper} {K : Frame → List Ent → Prop} (t : Nat) {a b : AV} (hw : ∀ (c : Core) (m : Option (List Ent)) (v : Value), Rep c m a v → Rep c m b v) (h : AList P w0 N ops rest (upd f t b) es K) (ht : f t = a := by simp only [upd_apply, Nat.reduceEqDiff, ↓reduceIte] <;> exact rfl) : AList P w0 N ops rest f es K := by
  intro c A Q ok rf hk
  refine h c A Q ok ⟨rf.size, fun u => ?_, rf.defers⟩ hk
  by_cases hu : u = t
  · subst hu
    rw [upd_same]
    exact hw _ _ _ (ht ▸ rf.rep u)
  · rw [upd_ne _ _ hu]
    exact rf.rep u
end
end Go.Proofs.YtfdgbghlanbddaaDoor.Av
