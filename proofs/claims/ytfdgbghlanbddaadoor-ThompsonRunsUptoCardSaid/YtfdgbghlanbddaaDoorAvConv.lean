import Derived.Test.YtfdgbghlanbddaaDoorAvGrow
set_option linter.unusedVariables false
set_option linter.unusedSimpArgs false
namespace Go.Proofs.YtfdgbghlanbddaaDoor.Av
open Go.RowKit
section
variable {P : Program} {w0 : World} {N : Nat} {f : Frame} {es : List Ent} {K : Frame → List Ent → Prop}
variable {d : Nat} {ty : TypeId} {pos : String} {aft : Array Edge} {g : Option (Nat × Bool)} {x y z : Operand} {a : AV}

/-! ### arrays of whole numbers held against one another -/
def valOf : AV → Int
  | .int _ n => n
  | _ => 0
def allInts (k : IntKind) (l : List AV) : Bool := l.all fun a => match a with | .int k' _ => k' == k | _ => false
theorem reps_ints {c : Core} {m : Option (List Ent)} {k : IntKind} : ∀ {l : List AV} {vs : List Value}, Reps c m l vs → allInts k l = true → vs = (l.map valOf).map (Value.int k)
  | [], vs, h, _ => by simp only [Reps] at h; subst h; rfl
  | a :: l, vs, h, ha => by
    simp only [Reps] at h
    obtain ⟨v, vs', rfl, h1, h2⟩ := h
    simp only [allInts, List.all_cons, Bool.and_eq_true] at ha
    rw [reps_ints h2 ha.2]
    cases a with
    | int k' n =>
      simp only [Rep] at h1
      have : k' = k := by simpa using ha.1
      rw [h1, this]
      rfl
    | _ => simp at ha
theorem run_equalIn_ints (d : Nat) (t e : TypeId) (n : Nat) (k : IntKind) (ht : P.underlying t = some (.array n e)) (he : P.underlying e = some (.int k)) (hsz : ∀ w, (sizeOf e).run P w = .ok 1 w) (w : World)
    (xs ys : List Int) (hx : xs.length = n) (hy : ys.length = n) :
    (Op.equalIn (d + 2) t (.agg (xs.map (Value.int k)).toArray) (.agg (ys.map (Value.int k)).toArray)).run P w = .ok (xs == ys) w := by
  have hall : ∀ (xs ys : List Int), xs.length = ys.length → ((List.range xs.length).all fun i => xs.getD i 0 == ys.getD i 0) = (xs == ys) := by
    intro xs
    induction xs with
    | nil => intro ys h; cases ys with | nil => rfl | cons _ _ => simp at h
    | cons x xs ih =>
      intro ys h
      cases ys with
      | nil => simp at h
      | cons y ys =>
        have ih := ih ys (by simpa using h)
        rw [List.length_cons, List.range_succ_eq_map, List.all_cons, List.all_map]
        simp only [List.getD_cons_zero, Function.comp_def, List.getD_cons_succ, ih]
        simp [List.cons_beq_cons]
  rw [← hall xs ys (hx.trans hy.symm), hx, List.range_eq_range', Op.equalIn]
  simp only [Sem.run_bind, run_underlying ht, Result.andThen_ok, hsz, Std.Legacy.Range.forIn_eq_forIn_range', Std.Legacy.Range.size, Nat.sub_zero, Nat.add_sub_cancel, Nat.div_one]
  have hl : ∀ i ∈ List.range' 0 n 1, i < n := fun i hi => by simpa using (List.mem_range'_1.1 hi).2
  generalize List.range' 0 n 1 = l at hl ⊢
  induction l with
  | nil => simp
  | cons i l ih =>
    have hi : i < n := hl i (by simp)
    have px : (part e (xs.map (Value.int k)).toArray (i * 1)).run P w = .ok (.int k (xs.getD i 0)) w := by
      simp [part, isAgg, run_underlying he, List.getD, List.getElem?_eq_getElem (show i < xs.length by omega)]
    have py : (part e (ys.map (Value.int k)).toArray (i * 1)).run P w = .ok (.int k (ys.getD i 0)) w := by
      simp [part, isAgg, run_underlying he, List.getD, List.getElem?_eq_getElem (show i < ys.length by omega)]
    have pe := run_equalIn_int (P := P) w d e k k (xs.getD i 0) (ys.getD i 0) he
    simp only [List.forIn_cons, Sem.run_bind, px, py, pe, Result.andThen_ok, List.all_cons]
    cases hb : (xs.getD i 0 == ys.getD i 0)
    · simp
    · simp only [Bool.not_true, Bool.false_eq_true, if_false, Sem.run_pure, Result.andThen_ok, Bool.true_and]
      exact ih fun j hj => hl j (by simp [hj])
def arrI (P : Program) (t n : Nat) (k : IntKind) : Bool :=
  match P.underlying t with
  | some (.array n' e) => n' == n && (match P.underlying e, P.info? e with | some (.int k'), some i => k' == k && i.size == 1 | _, _ => false) && !P.eqGuardType P.depth t
  | _ => false
theorem arrI_run {t n : Nat} {k : IntKind} (h : arrI P t n k = true) {c : Core} {A : Act} (rf : RepF N c es f A) {l1 l2 : List AV} (hx : ev f x = .agg l1) (hy : ev f y = .agg l2) (h1 : allInts k l1 = true) (h2 : allInts k l2 = true) (n1 : l1.length = n) (n2 : l2.length = n) :
    ∃ xs ys, A.eval x = .agg xs ∧ A.eval y = .agg ys ∧ (Op.equalIn 10000 t (.agg xs) (.agg ys)).run P c.w = .ok (l1.map valOf == l2.map valOf) c.w ∧ ∀ op, (eqGuard op t x y (.agg xs) (.agg ys)).run P c.w = .ok () c.w := by
  have hx := hx ▸ rep_ev rf x
  have hy := hy ▸ rep_ev rf y
  simp only [Rep] at hx hy
  obtain ⟨xs, e1, r1, _⟩ := hx
  obtain ⟨ys, e2, r2, _⟩ := hy
  have f1 := reps_ints r1 h1
  have f2 := reps_ints r2 h2
  unfold arrI at h
  split at h
  · rename_i n' e ht
    simp only [Bool.and_eq_true, beq_iff_eq, Bool.not_eq_true'] at h
    obtain ⟨⟨rfl, h3⟩, h4⟩ := h
    split at h3
    · rename_i k' i hk hi
      simp only [Bool.and_eq_true, beq_iff_eq] at h3
      obtain ⟨rfl, h5⟩ := h3
      refine ⟨xs, ys, e1, e2, ?_, fun op => run_eqGuard_agg c.w op t x y xs ys h4⟩
      have := run_equalIn_ints (P := P) 9998 t e n' k' ht hk (fun w => by simp [sizeOf, typeInfo, hi, h5]) c.w (l1.map valOf) (l2.map valOf) (by simpa using n1) (by simpa using n2)
      rw [← f1, ← f2] at this
      simpa using this
    · cases h3
  · cases h
theorem o_eqa {t u n : Nat} {k : IntKind} {l1 l2 : List AV} {b : Bool} (hx : ev f x = .agg l1) (hy : ev f y = .agg l2) (ht : arrI P t n k = true) (h1 : allInts k l1 = true) (h2 : allInts k l2 = true) (n1 : l1.length = n) (n2 : l2.length = n) (hb : (l1.map valOf == l2.map valOf) = b)
    (kk : K (upd f d (.bool b)) es) (hd : Nat.blt d N = true := by rfl) : AOp P w0 N ⟨some d, .binOp .eql t x y u, ty, pos, aft, g⟩ f es K := by
  refine op_look hd (fun c A ok rf => ?_) kk
  obtain ⟨xs, ys, e1, e2, h3, h4⟩ := arrI_run ht rf hx hy h1 h2 n1 n2
  refine ⟨.bool b, ?_, by simp only [Rep]⟩
  simp only [execOp, e1, e2, Sem.run_bind, h4, Result.andThen_ok, run_eql_struct, h3, Sem.run_pure, hb]
theorem o_nea {t u n : Nat} {k : IntKind} {l1 l2 : List AV} {b : Bool} (hx : ev f x = .agg l1) (hy : ev f y = .agg l2) (ht : arrI P t n k = true) (h1 : allInts k l1 = true) (h2 : allInts k l2 = true) (n1 : l1.length = n) (n2 : l2.length = n) (hb : (!(l1.map valOf == l2.map valOf)) = b)
    (kk : K (upd f d (.bool b)) es) (hd : Nat.blt d N = true := by rfl) : AOp P w0 N ⟨some d, .binOp .neq t x y u, ty, pos, aft, g⟩ f es K := by
  refine op_look hd (fun c A ok rf => ?_) kk
  obtain ⟨xs, ys, e1, e2, h3, h4⟩ := arrI_run ht rf hx hy h1 h2 n1 n2
  refine ⟨.bool b, ?_, by simp only [Rep]⟩
  simp only [execOp, e1, e2, Sem.run_bind, h4, Result.andThen_ok, run_neq_struct, h3, Sem.run_pure, hb]

/-! ### texts and bytes -/
/-- A new block that is never written again. -/
def Core.add (c : Core) (w' : World) (b : Nat) : Core := { c with w := w', fro := fun k => c.fro k ∨ k = b }
theorem ext_add {w0 : World} {c : Core} {es : List Ent} (h : Ok w0 c es) {w' : World} (hg : c.w.grownBy w' none) (b : Nat) : Ext c es (c.add w' b) es :=
  ⟨Nat.le_refl _, fun k hk => ⟨.inl hk, hg.block k (h.lt k hk) (by simp)⟩, fun id s e sz rows hr _ => ⟨rows, hr, rfl, rfl⟩⟩
theorem ok_add {w0 : World} {c : Core} {es : List Ent} (h : Ok w0 c es) {w' : World} (hg : c.w.grownBy w' none) {b : Nat} (hb : c.w.heap.size ≤ b) (hb2 : b < w'.heap.size) : Ok w0 (c.add w' b) es := by
  refine ⟨h.below.grown hg h.below.size (fun k hk => by cases hk), fun k hk => .inl (h.old k hk), fun k hk => ?_, fun id y hy => ?_, h.inj⟩
  · rcases hk with hk | hk
    · exact Nat.lt_of_lt_of_le (h.lt k hk) hg.size
    · subst hk; exact hb2
  · cases y with
    | dead => trivial
    | row s e sz rows =>
      have he := h.ent id _ hy
      refine he.ext (ext_add h hg b) rfl (fun gb cap hgc hf => ?_) (fun xs ho => ho.kept hg (by cases (ownVal (c.phi id) rows.length).ownBlock <;> simp))
      rcases hf with hf | hf
      · exact he.2.2.1 gb cap hgc hf
      · obtain ⟨_, _, _, xs, _, h5⟩ := he
        rw [hgc] at h5
        have := ownVal_lt h5
        omega
def bytesRows (s : ByteArray) : List (List AV) := s.data.toList.map fun b => [AV.int .u8 (b.toNat : Int)]
theorem rep_bytes {c : Core} {m : Option (List Ent)} : ∀ l : List UInt8, RepRows c m 1 (l.map fun b => [AV.int .u8 (b.toNat : Int)]) (l.map fun b => Value.int .u8 (b.toNat : Int))
  | [] => rfl
  | b :: l => ⟨[Value.int .u8 (b.toNat : Int)], _, rfl, rfl, ⟨_, [], rfl, by simp only [Rep], rfl⟩, by simp [Value.oneCell'], rep_bytes l⟩
def strSlice (P : Program) (s t e : Nat) : Bool :=
  match P.underlying s, P.underlying t, P.underlying e with
  | some .string, some (.slice e'), some (.int .u8) => e' == e
  | _, _, _ => false
theorem o_strBytes {s t e : Nat} {b : ByteArray} (hx : ev f x = .str b) (ht : strSlice P s t e = true) (hb : b.size ≤ most) (ha : .list 1 (bytesRows b) = a)
    (k : K (upd f d a) es) (hd : Nat.blt d N = true := by rfl) : AOp P w0 N ⟨some d, .convert s t x, ty, pos, aft, g⟩ f es K := by
  refine op_run hd fun c A ok rf => ?_
  have hv := ev_str rf hx
  unfold strSlice at ht
  split at ht
  · rename_i e' hs hu he0
    obtain rfl : e' = e := by simpa using ht
    have he : P.underlying e' = some (.int .u8) := by assumption
    let cells : Array Value := b.data.map (fun u => Value.int .u8 (u.toNat : Int)) ++ Array.replicate ((Question.appendCap b.size 0 e').cut (c.w.tape c.w.drawn (.appendCap b.size 0 e')) - b.size) (.int .u8 0)
    let w1 : World := ({ c.w with drawn := c.w.drawn + 1 } : World).alloc (.cells cells e')
    let w2 : World := w1.freeze ⟨c.w.heap.size, cells.size, none⟩ 1
    let mod : Obj → Obj := fun
      | .cells cc el (lo, hi) => .cells cc el (if lo == hi then (cells.size, cells.size + 1) else (min lo cells.size, max hi (cells.size + 1)))
      | o => o
    have hfz : w2.heap = w1.heap.modify c.w.heap.size mod := rfl
    have hblk : ∀ k, k < c.w.heap.size → w2.heap[k]? = c.w.heap[k]? := by
      intro k hk
      rw [hfz, Array.getElem?_modify, if_neg (by omega)]
      exact heap_alloc_old _ _ k hk
    have hsize : w2.heap.size = c.w.heap.size + 1 := by
      rw [hfz, Array.size_modify]
      exact World.size_alloc _ _
    have hg : c.w.grownBy w2 none := ⟨rfl, rfl, rfl, by omega, fun k hk _ => hblk k hk⟩
    have hcell : ∀ j, j < b.data.size → w2.cell? ⟨c.w.heap.size, j, none⟩ = some (.int .u8 ((b.data[j]!).toNat : Int)) := by
      intro j hj
      have h1 : w1.heap[c.w.heap.size]? = some (.cells cells e' (0, 0)) := heap_alloc_new ({ c.w with drawn := c.w.drawn + 1 } : World) _
      have h2 : w2.heap[c.w.heap.size]? = some (.cells cells e' (cells.size, cells.size + 1)) := by
        rw [hfz, Array.getElem?_modify, if_pos rfl, h1]
        rfl
      simp only [World.cell?, h2, Option.isSome_none, Bool.false_eq_true, if_false, cells]
      rw [Array.getElem?_append_left (by simpa using hj), Array.getElem?_map, Array.getElem?_eq_getElem hj, getElem!_pos b.data j hj]
      rfl
    refine ⟨.slice (some ⟨c.w.heap.size, 0, none⟩) b.size ((Question.appendCap b.size 0 e').cut (c.w.tape c.w.drawn (.appendCap b.size 0 e'))), c.add w2 c.w.heap.size, es, .list 1 (bytesRows b), ?_, ext_add ok hg _, ok_add ok hg (Nat.le_refl _) (by omega), ?_, ha ▸ k⟩
    · show _ = Result.ok _ w2
      simp only [execOp, hv, convert, Sem.run_bind, run_underlying hs, run_underlying hu, run_underlying he, Result.andThen_ok, Conv.stringToBytes, run_choose, Question.forced, Bool.false_eq_true, if_false, newRow, run_newObj, Sem.run_pure]
      have hshape : w1.shape? c.w.heap.size = some (e', cells.size) := by
        have h1 : w1.heap[c.w.heap.size]? = some (.cells cells e' (0, 0)) := heap_alloc_new ({ c.w with drawn := c.w.drawn + 1 } : World) _
        simp [World.shape?, h1]
      have hmark : (markStringish ⟨c.w.heap.size, 0, none⟩).run P w1 = .ok () w2 := by
        simp only [markStringish, Sem.run_bind, run_shape, Result.andThen_ok, hshape, run_freeze]
        rfl
      have : ({ c.w with drawn := c.w.drawn + 1, heap := c.w.heap.push (Obj.cells cells e') } : World) = w1 := rfl
      simp only [cells] at this hmark
      rw [this]
      simp only [hmark, Result.andThen_ok]
    · simp only [Rep]
      refine ⟨some ⟨c.w.heap.size, 0, none⟩, (Question.appendCap b.size 0 e').cut (c.w.tape c.w.drawn (.appendCap b.size 0 e')), b.data.toList.map fun u => Value.int .u8 (u.toNat : Int), ?_, ?_, ?_, rep_bytes _, fun _ => ⟨c.w.heap.size, 0, rfl, .inr rfl, fun j hj => ?_⟩⟩
      · have : (bytesRows b).length = b.size := by simp [bytesRows]
        rw [this]
      · have : (bytesRows b).length = b.size := by simp [bytesRows]
        rw [this]
        simp [Question.cut]
      · have : (bytesRows b).length = b.size := by simp [bytesRows]
        omega
      · simp only [List.length_map, Array.length_toList] at hj
        rw [Nat.zero_add]
        show w2.cell? _ = _
        rw [hcell j hj, getElem!_pos b.data j hj, List.getElem?_map, Array.getElem?_toList, Array.getElem?_eq_getElem hj]
        rfl
  · cases ht
theorem rows_bytes {c : Core} {m : Option (List Ent)} : ∀ {ns : List Int} {vs : List Value}, RepRows c m 1 (ns.map fun n => [AV.int .u8 n]) vs → vs = ns.map (Value.int .u8)
  | [], vs, h => by simpa only [List.map_nil, RepRows] using h
  | n :: ns, vs, h => by
    simp only [List.map_cons, RepRows, Reps] at h
    obtain ⟨v1, v2, rfl, _, ⟨v, vs', rfl, h1, rfl⟩, _, h2⟩ := h
    simp only [Rep] at h1
    rw [h1, rows_bytes h2]
    rfl
theorem o_bytesStr {s t e : Nat} {ns : List Int} (hy : ev f x = a) (hs : Src es a 1 (ns.map fun n => [AV.int .u8 n])) (ht : strSlice P t s e = true)
    (k : K (upd f d (.str (strOfNums ns))) es) (hd : Nat.blt d N = true := by rfl) : AOp P w0 N ⟨some d, .convert s t x, ty, pos, aft, g⟩ f es K := by
  refine op_look hd (fun c A ok rf => ?_) k
  obtain ⟨B, m, vs, hv, _, _, hr, hnone, hcells⟩ := src_cells ok (hy ▸ rep_ev rf x) hs
  have hvs := rows_bytes hr
  unfold strSlice at ht
  split at ht
  · rename_i e' hs2 hu he0
    obtain rfl : e' = e := by simpa using ht
    have he : P.underlying e' = some (.int .u8) := by assumption
    refine ⟨.string (strOfNums ns), ?_, by simp only [Rep]⟩
    cases B with
    | none =>
      have h0 : vs = [] := hnone rfl
      rw [h0] at hvs
      have hn : ns = [] := by cases ns with | nil => rfl | cons _ _ => simp at hvs
      subst hn
      simp only [execOp, hv, Sem.run_bind, run_convert_bytes_nil c.w s e' hu he _ _ t hs2, Result.andThen_ok, Sem.run_pure]
      rfl
    | some p =>
      by_cases hn : ns = []
      · subst hn
        simp only [List.map_nil] at hvs
        subst hvs
        have hl : (loadCells p 0).run P c.w = .ok #[] c.w := by simpa using run_loadCells_list (P := P) c.w p [] (by simp)
        simp only [List.map_nil, List.length_nil] at hv
        simp only [execOp, hv, Sem.run_bind, run_convert_bytes_string c.w s t e' _ _ _ hu he hs2, Conv.bytesToString, hl, Result.andThen_ok]
        simp [strOfNums]
        rfl
      · have hlen : vs.length = ns.length := by rw [hvs, List.length_map]
        have h0 : 0 < vs.length := by rw [hlen]; exact List.length_pos_iff.2 hn
        have hc0 := hcells p rfl 0 _ (List.getElem?_eq_getElem h0)
        obtain ⟨pb, po, psp⟩ := p
        have hsp : psp = none := by
          cases psp with
          | none => rfl
          | some q =>
            simp only [Addr.add, if_true, World.cell?] at hc0
            split at hc0
            · simp at hc0
            · cases hc0
        subst hsp
        have hll : (ns.map fun n => [AV.int .u8 n]).length = ns.length := List.length_map _
        rw [hll] at hv
        have hrun := run_convert_bytes_arg (P := P) c.w s e' hu he pb po ns.length m ns rfl (fun i hi => by
          have := hcells ⟨pb, po, none⟩ rfl i (.int .u8 (ns.getD i 0)) (by rw [hvs, List.getElem?_map, List.getElem?_eq_getElem hi]; simp [List.getD, hi])
          rwa [add_eq] at this) t hs2
        simp only [execOp, hv, Sem.run_bind, hrun, Result.andThen_ok, Sem.run_pure]
  · cases ht
end
end Go.Proofs.YtfdgbghlanbddaaDoor.Av
