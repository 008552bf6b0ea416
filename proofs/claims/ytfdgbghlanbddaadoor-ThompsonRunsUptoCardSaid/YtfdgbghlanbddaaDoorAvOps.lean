import Derived.Test.YtfdgbghlanbddaaDoorAvLogic
set_option linter.unusedVariables false
set_option linter.unusedSimpArgs false
namespace Go.Proofs.YtfdgbghlanbddaaDoor.Av
open Go.RowKit

/-! ### what is asked of types, each a closed fact -/
def tyB (P : Program) (t : TypeId) (agg : Bool) (sz : Nat) : Bool :=
  match P.underlying t, P.info? t with
  | some d, some i => ((match d with | .struct _ | .array _ _ => true | _ => false) == agg) && i.size == sz
  | _, _ => false
def zeroAVs (P : Program) (t : TypeId) : Option (List AV) :=
  match (P.info? t).bind (·.zero) with
  | some z => if z.cells.toList.all (·.oneCell') then some (z.cells.toList.map ofConst) else none
  | none => none
def fieldB (P : Program) (t : TypeId) (k off : Nat) : Bool :=
  match P.underlying t with
  | some (.struct fs) => match fs[k]? with
    | some f => f.offset == off && (match P.info? f.type with | some i => i.size != 0 | none => false)
    | none => false
  | _ => false
def sliceB (P : Program) (t e sz : Nat) : Bool :=
  match P.underlying t, P.info? e with
  | some (.slice e'), some i => e' == e && i.size == sz
  | _, _ => false
def arrB (P : Program) (t n e sz : Nat) : Bool :=
  match P.underlying t, P.info? e with
  | some (.array n' e'), some i => n' == n && e' == e && i.size == sz
  | _, _ => false
/-- A function that can be entered. -/
def enterB (P : Program) (g : FuncId) : Bool :=
  match P.funcs[g]? with
  | some fn => fn.name != "runtime.NumGoroutine" && fn.body.isSome
  | none => false

section
variable {P : Program} {w0 : World} {N : Nat} {f : Frame} {es : List Ent} {K : Frame → List Ent → Prop}

theorem run_isAgg {t : TypeId} {agg : Bool} {sz : Nat} (h : tyB P t agg sz = true) (w : World) : (isAgg t).run P w = .ok agg w := by
  unfold tyB at h
  split at h
  · rename_i d i hu hi
    simp only [Bool.and_eq_true, beq_iff_eq] at h
    unfold isAgg
    rw [Sem.run_bind, run_underlying hu w]
    obtain ⟨h1, h2⟩ := h
    cases d <;> simp_all
  · cases h
theorem run_sizeOf {t : TypeId} {agg : Bool} {sz : Nat} (h : tyB P t agg sz = true) (w : World) : (sizeOf t).run P w = .ok sz w := by
  unfold tyB at h
  split at h
  · rename_i d i hu hi
    simp only [Bool.and_eq_true, beq_iff_eq] at h
    simp [sizeOf, typeInfo, hi, h.2]
  · cases h

/-- An operation that yields a value. -/
theorem op_run {o : Oper} (hd : dok N o.dst = true) (h : ∀ c A, Ok w0 c es → RepF N c es f A → ∃ v c' es' a, (execOp A.eval o).run P c.w = .ok (.value v) c'.w ∧ Ext c es c' es' ∧ Ok w0 c' es' ∧ Rep c' (some es') a v ∧ K (put f o.dst a) es') : AOp P w0 N o f es K := by
  intro c A next Q ok rf hn
  obtain ⟨v, c', es', a, hr, x, ok', rep, k⟩ := h c A ok rf
  simp only [Oper.wp, hr, Oper.upon]
  exact hn c' es' _ _ x ok' ((rf.ext x).put hd rep) k
/-- An operation that only looks. -/
theorem op_look {o : Oper} (hd : dok N o.dst = true) {a : AV} (h : ∀ c A, Ok w0 c es → RepF N c es f A → ∃ v, (execOp A.eval o).run P c.w = .ok (.value v) c.w ∧ Rep c (some es) a v) (k : K (put f o.dst a) es) : AOp P w0 N o f es K :=
  op_run hd fun c A ok rf => let ⟨v, hr, rep⟩ := h c A ok rf; ⟨v, c, es, a, hr, Ext.refl c es, ok, rep, k⟩

variable {d : Nat} {ty : TypeId} {pos : String} {aft : Array Edge} {g : Option (Nat × Bool)} {x y z : Operand} {a : AV}
theorem o_move (hx : ev f x = a) (k : K (upd f d a) es) (hd : Nat.blt d N = true := by rfl) : AOp P w0 N ⟨some d, .move x, ty, pos, aft, g⟩ f es K :=
  op_look hd (fun c A ok rf => ⟨_, rfl, hx ▸ rep_ev rf x⟩) k
theorem o_assign (hx : ev f x = a) (k : K (upd f d a) es) (hd : Nat.blt d N = true := by rfl) : AOp P w0 N ⟨some d, .assign x, ty, pos, aft, g⟩ f es K :=
  op_look hd (fun c A ok rf => ⟨_, rfl, hx ▸ rep_ev rf x⟩) k
theorem o_pick {b : Bool} (hx : ev f x = .bool b) (ha : (if b = true then ev f y else ev f z) = a) (k : K (upd f d a) es) (hd : Nat.blt d N = true := by rfl) : AOp P w0 N ⟨some d, .pick x y z, ty, pos, aft, g⟩ f es K := by
  refine op_look hd (fun c A ok rf => ?_) k
  have h := rep_ev rf x
  rw [hx] at h
  simp only [Rep] at h
  refine ⟨if b = true then A.eval y else A.eval z, ?_, ?_⟩
  · simp [execOp, h, asBool]
  · rw [← ha]
    split
    · exact rep_ev rf y
    · exact rep_ev rf z

/-! ### memory -/
theorem own_cells {c : Core} (ok : Ok w0 c es) {id s e sz : Nat} {rows : List (List AV)} (he : at_ es id = some (.row s e sz rows)) {gb cap : Nat} (hp : c.phi id = some (gb, cap)) :
    ∃ xs cur, RepRows c (some es) sz rows xs ∧ c.w.heap[gb]? = some (.cells cur e (0, 0)) ∧ rows.length ≤ cap ∧ cap ≤ maxLen ∧ cur.size = cap * sz ∧ cur.toList.take (rows.length * sz) = xs ∧ ∀ j u, xs[j]? = some u → c.w.cell? ⟨gb, j, none⟩ = some u := by
  obtain ⟨_, _, _, xs, h4, h5⟩ := ok.ent id _ he
  rw [hp] at h5
  have hc := h5.cells (g := gb) rfl
  rcases h5.2 with ⟨h6, _⟩ | ⟨g', cap', cur, h6, _, h7, h8, h9, h10, h11⟩
  · cases h6
  · injection h6 with h6 _ h6''
    injection h6 with h6
    injection h6 with h6
    subst h6 h6''
    refine ⟨xs, cur, h4, h7, h8, h9, h10, h11, fun j u hj => ?_⟩
    have := hc j u hj
    rwa [show (⟨gb, 0, none⟩ : Addr).add j = ⟨gb, j, none⟩ by unfold Addr.add; split <;> simp_all] at this
def loadAV (agg : Bool) (n : Nat) (r : List AV) (off : Nat) : AV := if agg then .agg ((r.drop off).take n) else r.getD off .any
theorem run_loadVar {t : TypeId} {agg : Bool} {n : Nat} (ht : tyB P t agg n = true) (hn : agg = false → n = 1) {w : World} {b k : Nat} {vs : List Value} (hl : vs.length = n) (hc : ∀ j u, vs[j]? = some u → w.cell? ⟨b, k + j, none⟩ = some u) :
    (loadVar t ⟨b, k, none⟩).run P w = .ok (if agg then .agg vs.toArray else vs.getD 0 undef) w := by
  have hc' : ∀ j u, vs[j]? = some u → w.cell? ((⟨b, k, none⟩ : Addr).add j) = some u := fun j u hj => by
    rw [show (⟨b, k, none⟩ : Addr).add j = ⟨b, k + j, none⟩ by unfold Addr.add; split <;> simp_all]
    exact hc j u hj
  cases agg with
  | true =>
    have := run_loadCells_list (P := P) w ⟨b, k, none⟩ vs hc'
    rw [hl] at this
    simp [loadVar, run_isAgg ht, run_sizeOf ht, this]
  | false =>
    have h1 := hn rfl
    subst h1
    match vs, hl with
    | [u], _ =>
      have := hc 0 u rfl
      simp only [Nat.add_zero] at this
      simp [loadVar, run_isAgg ht, this]
theorem rep_load {c : Core} {r : List AV} {es : Option (List Ent)} {vs : List Value} (h : Reps c es r vs) (ho : ∀ u ∈ vs, u.oneCell' = true) (agg : Bool) {n off : Nat} (hn : agg = false → n = 1) (hl : off + n ≤ r.length) :
    Rep c es (loadAV agg n r off) (if agg then .agg ((vs.drop off).take n).toArray else ((vs.drop off).take n).getD 0 undef) := by
  cases agg with
  | true =>
    simp only [loadAV, if_true, Rep]
    exact ⟨_, rfl, by simpa using (h.drop off).take n, fun u hu => ho u (List.mem_of_mem_drop (List.mem_of_mem_take (by simpa using hu)))⟩
  | false =>
    have := hn rfl
    subst this
    simp only [loadAV, Bool.false_eq_true, if_false]
    have h2 := h.get off
    rwa [show ((vs.drop off).take 1).getD 0 undef = vs.getD off undef by simp [List.getD, List.getElem?_take, List.getElem?_drop]]
theorem rep_ptr {c : Core} {id s i off e sz : Nat} {rows : List (List AV)} {v : Value} (h : Rep c (some es) (.ptr id s i off) v) (he : at_ es id = some (.row s e sz rows)) : ∃ gb cap, c.phi id = some (gb, cap) ∧ v = .pointer (some ⟨gb, i * sz + off, none⟩) := by
  simp only [Rep] at h
  obtain ⟨es', h1, _, _, h2⟩ := h
  injection h1 with h1
  subst h1
  exact h2 _ _ _ he
theorem rep_own {c : Core} {id s e sz : Nat} {rows : List (List AV)} {v : Value} (h : Rep c (some es) (.own id s) v) (he : at_ es id = some (.row s e sz rows)) : v = ownVal (c.phi id) rows.length := by
  simp only [Rep] at h
  obtain ⟨es', h1, _, _, h2⟩ := h
  injection h1 with h1
  subst h1
  exact h2 _ _ _ he
theorem o_load_ptr {t : TypeId} {agg : Bool} {n id s i off e sz : Nat} {rows : List (List AV)} {r : List AV} (hx : ev f x = .ptr id s i off) (he : at_ es id = some (.row s e sz rows)) (hr : rows[i]? = some r)
    (ht : tyB P t agg n = true) (hn : agg = false → n = 1) (hl : off + n ≤ r.length) (ha : loadAV agg n r off = a) (k : K (upd f d a) es) (hd : Nat.blt d N = true := by rfl) : AOp P w0 N ⟨some d, .load t x, ty, pos, aft, g⟩ f es K := by
  refine op_look hd (fun c A ok rf => ?_) k
  have h := rep_ev rf x
  rw [hx] at h
  obtain ⟨gb, cap, hp, hv⟩ := rep_ptr h he
  obtain ⟨xs, cur, h4, _, _, _, _, _, h5⟩ := own_cells ok he hp
  obtain ⟨g1, g2, g3⟩ := h4.get i r hr
  have hlen : ((xs.drop (i * sz)).take sz).length = sz := by rw [List.length_take, List.length_drop]; omega
  have hrun := run_loadVar (P := P) ht hn (w := c.w) (b := gb) (k := i * sz + off) (vs := ((((xs.drop (i * sz)).take sz).drop off).take n)) (by rw [List.length_take, List.length_drop, hlen]; omega)
    (fun j u hj => by
      rw [List.getElem?_take] at hj
      split at hj
      · rw [List.getElem?_drop, List.getElem?_take] at hj
        split at hj
        · rw [List.getElem?_drop] at hj
          rw [Nat.add_assoc]
          exact h5 _ u hj
        · cases hj
      · cases hj)
  refine ⟨_, ?_, ha ▸ rep_load g3 (fun u hu => h4.one u (List.mem_of_mem_drop (List.mem_of_mem_take hu))) agg hn hl⟩
  simp only [execOp, hv, Instr.loadAt, Instr.sureAddr, Sem.run_bind, Sem.run_pure, Result.andThen_ok, hrun]
theorem o_load_fptr {t : TypeId} {agg : Bool} {n i off sz : Nat} {rows : List (List AV)} {r : List AV} (hx : ev f x = .fptr sz rows i off) (hr : rows[i]? = some r)
    (ht : tyB P t agg n = true) (hn : agg = false → n = 1) (hl : off + n ≤ r.length) (ha : loadAV agg n r off = a) (k : K (upd f d a) es) (hd : Nat.blt d N = true := by rfl) : AOp P w0 N ⟨some d, .load t x, ty, pos, aft, g⟩ f es K := by
  refine op_look hd (fun c A ok rf => ?_) k
  have h := rep_ev rf x
  rw [hx] at h
  simp only [Rep] at h
  obtain ⟨b, o, xs, hv, h4, hb, h5⟩ := h
  obtain ⟨g1, g2, g3⟩ := h4.get i r hr
  have hlen : ((xs.drop (i * sz)).take sz).length = sz := by rw [List.length_take, List.length_drop]; omega
  have hrun := run_loadVar (P := P) ht hn (w := c.w) (b := b) (k := o + (i * sz + off)) (vs := ((((xs.drop (i * sz)).take sz).drop off).take n)) (by rw [List.length_take, List.length_drop, hlen]; omega)
    (fun j u hj => by
      rw [List.getElem?_take] at hj
      split at hj
      · rw [List.getElem?_drop, List.getElem?_take] at hj
        split at hj
        · rw [List.getElem?_drop] at hj
          rw [show o + (i * sz + off) + j = o + (i * sz + (off + j)) by omega, h5 _ (List.getElem?_eq_some_iff.1 hj).1]
          exact hj
        · cases hj
      · cases hj)
  refine ⟨_, ?_, ha ▸ (rep_load g3 (fun u hu => h4.one u (List.mem_of_mem_drop (List.mem_of_mem_take hu))) agg hn hl).up _⟩
  simp only [execOp, hv, Instr.loadAt, Instr.sureAddr, Sem.run_bind, Sem.run_pure, Result.andThen_ok, hrun]

/-- The cells of a value that may be stored. -/
def cellsAV : AV → Option (List AV)
  | .agg l => some l
  | .any => none
  | .tup _ => none
  | .raw v => if v.oneCell' then some [.raw v] else none
  | a => some [a]
theorem rep_cells {c : Core} {m : Option (List Ent)} {a : AV} {v : Value} (h : Rep c m a v) {l : List AV} (hl : cellsAV a = some l) : Reps c m l v.cells.toList ∧ ∀ x ∈ v.cells.toList, x.oneCell' = true := by
  have one : ∀ {a : AV}, Rep c m a v → v.cells = #[v] → v.oneCell' = true → Reps c m [a] v.cells.toList ∧ ∀ x ∈ v.cells.toList, x.oneCell' = true := by
    intro a h e h1
    rw [e]
    simp only [Reps]
    exact ⟨⟨v, [], rfl, h, rfl⟩, by simpa using h1⟩
  cases a with
  | agg l' =>
    simp only [cellsAV] at hl
    injection hl with hl
    subst hl
    simp only [Rep] at h
    obtain ⟨cs, rfl, h1, h2⟩ := h
    exact ⟨h1, h2⟩
  | any => simp [cellsAV] at hl
  | tup l' => simp [cellsAV] at hl
  | raw u =>
    simp only [cellsAV] at hl
    split at hl
    · rename_i ho
      injection hl with hl
      subst hl
      have e := h
      simp only [Rep] at e
      subst e
      refine one h ?_ ho
      cases v <;> first | rfl | (simp [Value.oneCell'] at ho)
    · cases hl
  | bool b => simp only [cellsAV] at hl; injection hl with hl; subst hl; have e := h; simp only [Rep] at e; subst e; exact one h rfl rfl
  | int k n => simp only [cellsAV] at hl; injection hl with hl; subst hl; have e := h; simp only [Rep] at e; subst e; exact one h rfl rfl
  | str s => simp only [cellsAV] at hl; injection hl with hl; subst hl; have e := h; simp only [Rep] at e; subst e; exact one h rfl rfl
  | nil => simp only [cellsAV] at hl; injection hl with hl; subst hl; have e := h; simp only [Rep] at e; subst e; exact one h rfl rfl
  | list sz rows => simp only [cellsAV] at hl; injection hl with hl; subst hl; have e := h; simp only [Rep] at e; obtain ⟨_, _, _, rfl, _⟩ := e; exact one h rfl rfl
  | own id s => simp only [cellsAV] at hl; injection hl with hl; subst hl; have e := h; simp only [Rep] at e; obtain ⟨_, _, ⟨_, _, _, rfl⟩, _⟩ := e; exact one h rfl rfl
  | ptr id s i off => simp only [cellsAV] at hl; injection hl with hl; subst hl; have e := h; simp only [Rep] at e; obtain ⟨_, _, ⟨_, rfl⟩, _⟩ := e; exact one h rfl rfl
  | fptr sz rows i off => simp only [cellsAV] at hl; injection hl with hl; subst hl; have e := h; simp only [Rep] at e; obtain ⟨_, _, _, rfl, _⟩ := e; exact one h rfl rfl
  | fn _ _ _ => simp only [cellsAV] at hl; injection hl with hl; subst hl; have e := h; simp only [Rep] at e; obtain ⟨_, _, rfl, _⟩ := e; exact one h rfl rfl
end
end Go.Proofs.YtfdgbghlanbddaaDoor.Av
