import Derived.Test.YtfdgbghlanbddaaDoorAvMem
set_option linter.unusedVariables false
set_option linter.unusedSimpArgs false
namespace Go.Proofs.YtfdgbghlanbddaaDoor.Av
open Go.RowKit
section
variable {P : Program} {w0 : World} {N : Nat} {f : Frame} {es : List Ent} {K : Frame → List Ent → Prop}
variable {d : Nat} {ty : TypeId} {pos : String} {aft : Array Edge} {g : Option (Nat × Bool)} {x y z : Operand} {a : AV}

theorem rep_new_ptr {c : Core} {cells : Array Value} {e sz cap : Nat} {rows : List (List AV)} :
    Rep (c.alloc es cells e cap) (some (.row c.now e sz rows :: es)) (.ptr es.length c.now 0 0) (.pointer (some ⟨c.w.heap.size, 0, none⟩)) := by
  simp only [Rep]
  refine ⟨_, rfl, ⟨_, rfl⟩, Nat.lt_succ_self _, fun e' sz' rows' h => ?_⟩
  rw [at_hit] at h
  injection h with h
  injection h with _ _ h3 _
  subst h3
  exact ⟨c.w.heap.size, cap, by simp [Core.alloc], by simp⟩
theorem rep_new_own {c : Core} {cells : Array Value} {e sz : Nat} {rows : List (List AV)} :
    Rep (c.alloc es cells e rows.length) (some (.row c.now e sz rows :: es)) (.own es.length c.now) (.slice (some ⟨c.w.heap.size, 0, none⟩) rows.length rows.length) := by
  simp only [Rep]
  refine ⟨_, rfl, ⟨_, _, _, rfl⟩, Nat.lt_succ_self _, fun e' sz' rows' h => ?_⟩
  rw [at_hit] at h
  injection h with h
  injection h with _ _ _ h3
  subst h3
  simp [Core.alloc, ownVal]
theorem reps_const (c : Core) (m : Option (List Ent)) : ∀ vs : List Value, Reps c m (vs.map ofConst) vs
  | [] => rfl
  | v :: vs => ⟨v, vs, rfl, rep_const c m v, reps_const c m vs⟩
theorem zero_run {t : TypeId} {l : List AV} (h : zeroAVs P t = some l) (w : World) : ∃ z, (zeroValue t).run P w = .ok z w ∧ z.cells.toList.map ofConst = l ∧ ∀ u ∈ z.cells.toList, u.oneCell' = true := by
  unfold zeroAVs at h
  split at h
  · rename_i z hz
    split at h
    · rename_i ha
      injection h with h
      obtain ⟨i, hi, hiz⟩ := Option.bind_eq_some_iff.1 hz
      refine ⟨z, ?_, h, fun u hu => List.all_eq_true.1 ha u hu⟩
      simp [zeroValue, typeInfo, hi, hiz]
    · cases h
  · cases h
theorem o_alloc {t : TypeId} {l : List AV} (hz : zeroAVs P t = some l) (k : ∀ s, K (upd f d (.ptr es.length s 0 0)) (.row s t l.length [l] :: es)) (hd : Nat.blt d N = true := by rfl) : AOp P w0 N ⟨some d, .alloc t, ty, pos, aft, g⟩ f es K := by
  refine op_run hd fun c A ok rf => ?_
  obtain ⟨zv, hrun, hl, hone⟩ := zero_run hz c.w
  have hr : Reps c (some es) l zv.cells.toList := hl ▸ reps_const c _ _
  refine ⟨.pointer (some ⟨c.w.heap.size, 0, none⟩), c.alloc es zv.cells t 1, .row c.now t l.length [l] :: es, .ptr es.length c.now 0 0, ?_, ext_alloc ok _ _ _ _ _, ok_alloc ok _ _ _ [l] (RepRows.single hr hone rfl) (by simp [most]), rep_new_ptr, k c.now⟩
  simp [execOp, Instr.alloc, hrun, newVar, newRow, Core.alloc]
theorem o_box {t : TypeId} {l : List AV} (hx : ev f x = a) (hc : cellsAV a = some l) (k : ∀ s, K (upd f d (.ptr es.length s 0 0)) (.row s t l.length [l] :: es)) (hd : Nat.blt d N = true := by rfl) : AOp P w0 N ⟨some d, .box t x, ty, pos, aft, g⟩ f es K := by
  refine op_run hd fun c A ok rf => ?_
  have h := rep_ev rf x
  rw [hx] at h
  obtain ⟨hr, hone⟩ := rep_cells h hc
  refine ⟨.pointer (some ⟨c.w.heap.size, 0, none⟩), c.alloc es (A.eval x).cells t 1, .row c.now t l.length [l] :: es, .ptr es.length c.now 0 0, ?_, ext_alloc ok _ _ _ _ _, ok_alloc ok _ _ _ [l] (RepRows.single hr hone rfl) (by simp [most]), rep_new_ptr, k c.now⟩
  simp [execOp, Instr.box, newVar, newRow, Core.alloc]

/-! ### what is built -/
def fillAV (place : Nat → Option (Nat × Nat)) (cells : List AV) : List (Nat × AV) → Option (List AV)
  | [] => some cells
  | (i, v) :: rest =>
    match place i, cellsAV v with
    | some (off, size), some l => if l.length = size ∧ off + size ≤ cells.length then fillAV place (cells.take off ++ l ++ cells.drop (off + size)) rest else none
    | _, _ => none
theorem set_many : ∀ (vs : List Value) (off k : Nat) (cells : Array Value), off + k + vs.length ≤ cells.size → ((vs.zipIdx k).foldl (fun cs (x : Value × Nat) => cs.setIfInBounds (off + x.2) x.1) cells).toList = cells.toList.take (off + k) ++ vs ++ cells.toList.drop (off + k + vs.length)
  | [], off, k, cells, h => by simp
  | v :: vs, off, k, cells, h => by
    simp only [List.zipIdx_cons, List.foldl_cons]
    simp only [List.length_cons] at h
    rw [set_many vs off (k + 1) _ (by simp; omega)]
    simp only [Array.toList_setIfInBounds, List.length_cons]
    have hlt : off + k < cells.toList.length := by simp; omega
    apply List.ext_getElem?
    intro j
    simp only [List.getElem?_append, List.length_append, List.length_take, List.length_set, List.getElem?_take, List.getElem?_drop, List.getElem?_set, List.getElem?_cons, List.length_cons]
    have : cells.toList.length = cells.size := Array.length_toList
    by_cases h1 : j < off + k
    · rw [if_pos (by omega), if_pos (by omega), if_pos (by omega), if_neg (by omega), if_pos (by omega), if_pos (by omega), if_pos h1]
    · by_cases h2 : j = off + k
      · subst h2
        rw [if_pos (by omega), if_pos (by omega), if_pos (by omega), if_pos rfl, if_pos (by omega), if_pos (by omega), if_neg (by omega), if_pos (by omega)]
      · by_cases h3 : j < off + k + 1 + vs.length
        · rw [if_pos (by omega), if_neg (by omega), if_pos (by omega), if_neg (by omega), if_neg (by omega)]
          congr 1 <;> omega
        · rw [if_neg (by omega), if_neg (by omega), if_neg (by omega)]
          congr 1 <;> omega
theorem rep_fill {c : Core} {m : Option (List Ent)} {place : Nat → Option (Nat × Nat)} : ∀ {parts : List (Nat × AV)} {vparts : List (Nat × Value)} {cells : List AV} {vcells : Array Value} {l : List AV},
    parts.map (·.1) = vparts.map (·.1) → (∀ j, j < parts.length → Rep c m (parts.getD j (0, .any)).2 (vparts.getD j (0, undef)).2) → Reps c m cells vcells.toList → (∀ u ∈ vcells.toList, u.oneCell' = true) →
    fillAV place cells parts = some l → ∃ vl, Instr.fill place vcells vparts = some vl ∧ Reps c m l vl.toList ∧ ∀ u ∈ vl.toList, u.oneCell' = true
  | [], vp, cells, vcells, l, hm, _, hr, ho, hf => by
    cases vp with
    | cons p vp => simp at hm
    | nil =>
      simp only [fillAV] at hf
      injection hf with hf
      subst hf
      exact ⟨vcells, rfl, hr, ho⟩
  | (i, v) :: parts, vp, cells, vcells, l, hm, hp, hr, ho, hf => by
    cases vp with
    | nil => simp at hm
    | cons p vp =>
      obtain ⟨i', u⟩ := p
      simp only [List.map_cons, List.cons.injEq] at hm
      obtain ⟨rfl, hm⟩ := hm
      have h0 := hp 0 (by simp)
      simp only [List.getD_cons_zero] at h0
      simp only [fillAV] at hf
      split at hf
      · rename_i off size lv hpl hcl
        split at hf
        · rename_i hcond
          obtain ⟨h1, h2⟩ := rep_cells h0 hcl
          have hvl : u.cells.toList.length = size := h1.length.trans hcond.1
          have hcl2 := hr.length
          have hsz : vcells.toList.length = vcells.size := Array.length_toList
          have hus : u.cells.toList.length = u.cells.size := Array.length_toList
          have hset := set_many u.cells.toList off 0 vcells (by omega)
          have hset' : (u.cells.zipIdx.foldl (fun cs (x : Value × Nat) => cs.setIfInBounds (off + x.2) x.1) vcells).toList = vcells.toList.take off ++ u.cells.toList ++ vcells.toList.drop (off + size) := by
            rw [← Array.foldl_toList, Array.toList_zipIdx, hset, Nat.add_zero, hvl]
          obtain ⟨vl, e1, e2, e3⟩ := rep_fill (parts := parts) (vparts := vp) (vcells := u.cells.zipIdx.foldl (fun cs (x : Value × Nat) => cs.setIfInBounds (off + x.2) x.1) vcells) hm
            (fun j hj => by have := hp (j + 1) (by simp; omega); simpa using this)
            (by rw [hset']; exact ((hr.take off).append h1).append (hr.drop (off + size)))
            (fun q hq => by
              rw [hset'] at hq
              rcases List.mem_append.1 hq with hq | hq
              · rcases List.mem_append.1 hq with hq | hq
                · exact ho q (List.mem_of_mem_take hq)
                · exact h2 q hq
              · exact ho q (List.mem_of_mem_drop hq)) hf
          refine ⟨vl, ?_, e2, e3⟩
          simp only [Instr.fill, hpl]
          rw [if_neg (by simp; omega)]
          exact e1
        · cases hf
      · cases hf
def placesOf (P : Program) (t : TypeId) : Option (List (Nat × Nat)) :=
  match P.underlying t with
  | some (.struct fs) => fs.toList.mapM fun f => (P.info? f.type).map fun i => (f.offset, i.size)
  | _ => none
theorem run_places {fs : Array Field} : ∀ {l : List Field} {q : List (Nat × Nat)}, (l.mapM fun f => (P.info? f.type).map fun i => (f.offset, i.size)) = some q → ∀ w : World, ((l.mapM fun f => do pure (f.offset, ← sizeOf f.type) : Sem (List (Nat × Nat)))).run P w = .ok q w
  | [], q, h, w => by simp at h; subst h; simp
  | f :: l, q, h, w => by
    simp only [List.mapM_cons, Option.bind_eq_bind, Option.bind_eq_some_iff, Option.map_eq_some_iff, Option.pure_def, Option.some.injEq] at h
    obtain ⟨p, ⟨i, hi, rfl⟩, q', hq', rfl⟩ := h
    have ih := run_places (fs := fs) hq' w
    have h1 : (do pure (f.offset, ← sizeOf f.type) : Sem (Nat × Nat)).run P w = .ok (f.offset, i.size) w := by simp [sizeOf, typeInfo, hi]
    rw [List.mapM_cons]
    rw [Sem.run_bind, h1, Result.andThen_ok, Sem.run_bind, ih, Result.andThen_ok, Sem.run_pure]
theorem mapped {c : Core} {A : Act} (rf : RepF N c es f A) (parts : List (Nat × Operand)) : ∀ j, j < (parts.map fun p => (p.1, ev f p.2)).length → Rep c (some es) ((parts.map fun p => (p.1, ev f p.2)).getD j (0, .any)).2 ((parts.map fun p => (p.1, A.eval p.2)).getD j (0, undef)).2 := by
  intro j hj
  simp only [List.length_map] at hj
  simp only [List.getD, List.getElem?_map, List.getElem?_eq_getElem hj, Option.map_some, Option.getD_some]
  exact rep_ev rf _
theorem o_build {t : TypeId} {zl l : List AV} {q : List (Nat × Nat)} {parts : List (Nat × Operand)} (hz : zeroAVs P t = some zl) (hq : placesOf P t = some q) (hl : fillAV (q[·]?) zl (parts.map fun p => (p.1, ev f p.2)) = some l)
    (k : K (upd f d (.agg l)) es) (hd : Nat.blt d N = true := by rfl) : AOp P w0 N ⟨some d, .build t parts.toArray, ty, pos, aft, g⟩ f es K := by
  refine op_look hd (fun c A ok rf => ?_) k
  obtain ⟨zv, hrun, hzl, hone⟩ := zero_run hz c.w
  obtain ⟨vl, h1, h2, h3⟩ := rep_fill (c := c) (m := some es) (place := (q[·]?)) (parts := parts.map fun p => (p.1, ev f p.2)) (vparts := parts.map fun p => (p.1, A.eval p.2)) (vcells := zv.cells) (by simp) (mapped rf parts) (hzl ▸ reps_const c _ _) hone hl
  refine ⟨.agg vl, ?_, by simp only [Rep]; exact ⟨vl, rfl, h2, h3⟩⟩
  unfold placesOf at hq
  split at hq
  · rename_i fs hu
    have hpl := run_places (fs := fs) hq c.w
    have hpl' : ((fs.mapM fun f => do pure (f.offset, ← sizeOf f.type) : Sem (Array (Nat × Nat)))).run P c.w = .ok q.toArray c.w := by
      rw [Array.mapM_eq_mapM_toList]
      simp only [Sem.run_map, hpl, Result.andThen_ok]
    simp only [execOp, Instr.build, Sem.run_bind, hrun, Result.andThen_ok, run_underlying hu, hpl', List.map_toArray, Sem.run_pure]
    simp only [List.getElem?_toArray, h1, Sem.run_pure, Result.andThen_ok]
  · cases hq
theorem o_build_arr {t n e sz : Nat} {zl l : List AV} {parts : List (Nat × Operand)} (hz : zeroAVs P t = some zl) (hq : arrB P t n e sz = true) (hl : fillAV (fun i => some (i * sz, sz)) zl (parts.map fun p => (p.1, ev f p.2)) = some l)
    (k : K (upd f d (.agg l)) es) (hd : Nat.blt d N = true := by rfl) : AOp P w0 N ⟨some d, .build t parts.toArray, ty, pos, aft, g⟩ f es K := by
  refine op_look hd (fun c A ok rf => ?_) k
  obtain ⟨zv, hrun, hzl, hone⟩ := zero_run hz c.w
  obtain ⟨vl, h1, h2, h3⟩ := rep_fill (c := c) (m := some es) (place := fun i => some (i * sz, sz)) (parts := parts.map fun p => (p.1, ev f p.2)) (vparts := parts.map fun p => (p.1, A.eval p.2)) (vcells := zv.cells) (by simp) (mapped rf parts) (hzl ▸ reps_const c _ _) hone hl
  refine ⟨.agg vl, ?_, by simp only [Rep]; exact ⟨vl, rfl, h2, h3⟩⟩
  unfold arrB at hq
  split at hq
  · rename_i n' e' i hu hi
    simp only [Bool.and_eq_true, beq_iff_eq] at hq
    obtain ⟨⟨rfl, rfl⟩, rfl⟩ := hq
    simp only [execOp, Instr.build, Sem.run_bind, hrun, Result.andThen_ok, run_underlying hu, List.map_toArray, Sem.run_pure, sizeOf, typeInfo, Sem.run_bind, run_program, hi, h1]
  · cases hq
end
end Go.Proofs.YtfdgbghlanbddaaDoor.Av
