import Derived.Test.YtfdgbghlanbddaaDoorAvRows
set_option linter.unusedVariables false
set_option linter.unusedSimpArgs false
namespace Go.Proofs.YtfdgbghlanbddaaDoor.Av
open Go.RowKit
section
variable {P : Program} {w0 : World} {N : Nat} {f : Frame} {es : List Ent} {K : Frame → List Ent → Prop}
variable {d : Nat} {ty : TypeId} {pos : String} {aft : Array Edge} {g : Option (Nat × Bool)} {x y z : Operand} {a : AV}

/-- What a slice reads as: a list, nil, a row of one's own. -/
def Src (es : List Ent) (a : AV) (sz : Nat) (ys : List (List AV)) : Prop :=
  match a with
  | .list sz' rows => sz' = sz ∧ rows = ys
  | .nil => ys = []
  | .own id s => ∃ e, at_ es id = some (.row s e sz ys)
  | _ => False
theorem src_list {sz : Nat} {ys : List (List AV)} : Src es (.list sz ys) sz ys := ⟨rfl, rfl⟩
theorem src_nil {sz : Nat} : Src es .nil sz [] := rfl
theorem src_own {id s e sz : Nat} {ys : List (List AV)} {C : Ent → List Ent} (h : Loc es id (.row s e sz ys) C) : Src es (.own id s) sz ys := ⟨e, h.1⟩
/-- Its cells. -/
theorem src_cells {c : Core} (ok : Ok w0 c es) {a : AV} {v : Value} {sz : Nat} {ys : List (List AV)} (h : Rep c (some es) a v) (hs : Src es a sz ys) :
    ∃ A k vs, v = .slice A ys.length k ∧ ys.length ≤ k ∧ ys.length ≤ most ∧ RepRows c (some es) sz ys vs ∧ (A = none → vs = []) ∧ (∀ p, A = some p → ∀ j u, vs[j]? = some u → c.w.cell? (p.add j) = some u) := by
  cases a with
  | list sz' rows =>
    obtain ⟨rfl, rfl⟩ := hs
    simp only [Rep] at h
    obtain ⟨A, cap, vs, hv, hcap, hm, hr, hc⟩ := h
    refine ⟨A, cap, vs, hv, hcap, hm, RepRows.ext (es := none) (es' := some es) rows ⟨Nat.le_refl _, fun _ hb => ⟨hb, rfl⟩⟩ hr, fun e => ?_, fun p e j u hj => ?_⟩
    · by_cases hn : vs = []
      · exact hn
      · obtain ⟨b, o, hA, _⟩ := hc hn
        rw [e] at hA; cases hA
    · have hn : vs ≠ [] := by intro e2; subst e2; simp at hj
      obtain ⟨b, o, hA, _, hcell⟩ := hc hn
      rw [e] at hA
      injection hA with hA
      subst hA
      rw [add_eq, hcell j (List.getElem?_eq_some_iff.1 hj).1]
      exact hj
  | nil =>
    have : ys = [] := hs
    subst this
    simp only [Rep] at h
    exact ⟨none, 0, [], h, Nat.le_refl _, Nat.zero_le _, rfl, fun _ => rfl, fun p e => by cases e⟩
  | own id s =>
    obtain ⟨e, he⟩ := hs
    have hv := rep_own h he
    obtain ⟨_, hm, _, xs, hr, hown⟩ := ok.ent id _ he
    cases hp : c.phi id with
    | none =>
      rw [hp] at hown hv
      rcases hown.2 with ⟨_, h6⟩ | ⟨g, cap, cur, h6, _⟩
      · have : ys = [] := List.eq_nil_of_length_eq_zero h6
        subst this
        exact ⟨none, 0, [], hv, Nat.le_refl _, Nat.zero_le _, rfl, fun _ => rfl, fun p e => by cases e⟩
      · cases h6
    | some q =>
      obtain ⟨gb, cap⟩ := q
      obtain ⟨_, _, _, _, h4, _⟩ := own_cells ok he hp
      rw [hp] at hv hown
      refine ⟨some ⟨gb, 0, none⟩, cap, xs, hv, h4, hm, hr, (fun e => by cases e), fun p e j u hj => ?_⟩
      injection e with e
      subst e
      exact hown.cells (g := gb) rfl j u hj
  | any => exact hs.elim
  | bool b => exact hs.elim
  | int k n => exact hs.elim
  | str s => exact hs.elim
  | raw v => exact hs.elim
  | agg l => exact hs.elim
  | tup l => exact hs.elim
  | ptr _ _ _ _ => exact hs.elim
  | fptr _ _ _ _ => exact hs.elim
  | fn _ _ _ => exact hs.elim
/-- An owned row's value, told by its place. -/
theorem place_of {w : World} {e sz n : Nat} {xs : List Value} {v : Value} (h : w.ownsRow 0 e sz v n xs) : ∃ p, v = ownVal p n := by
  rcases h.2 with ⟨rfl, h1⟩ | ⟨g, cap, cur, rfl, _⟩
  · exact ⟨none, rfl⟩
  · exact ⟨some (g, cap), rfl⟩
theorem o_append {t e sz b id s : Nat} {rows ys : List (List AV)} {C : Ent → List Ent} (ht : sliceB P t e sz = true) (hbt : bytesB P e b = true) (hz : (zeroAVs P e).any (fun zl => zl.length == sz) = true) (hsz : 0 < sz) (hb1 : 0 < b)
    (hx : ev f x = .own id s) (he : Loc es id (.row s e sz rows) C) (hy : ev f y = a) (hs : Src es a sz ys) (hb : (rows.length + ys.length) * b ≤ most)
    (k : ∀ s', K (upd f d (.own id s')) (C (.row s' e sz (rows ++ ys)))) (hd : Nat.blt d N = true := by rfl) : AOp P w0 N ⟨some d, .call { callee := .builtin .append, args := #[x, y], argTypes := #[t, t] }, ty, pos, aft, g⟩ f es K := by
  refine op_run hd fun c A ok rf => ?_
  have hvx := rep_own (hx ▸ rep_ev rf x) he.1
  obtain ⟨B, m, news, hvy, _, _, hnews, hnone, hcells⟩ := src_cells ok (hy ▸ rep_ev rf y) hs
  obtain ⟨hlt, hm, hf, xs, hr, hown⟩ := ok.ent id _ he.1
  unfold bytesB at hbt
  unfold sliceB at ht
  split at ht
  · rename_i e' i' hu hi
    simp only [Bool.and_eq_true, beq_iff_eq] at ht
    obtain ⟨rfl, rfl⟩ := ht
    rw [hi] at hbt
    have hbt : i'.bytes = b := by simpa using hbt
    have hnl : news.length = ys.length * i'.size := hnews.length
    obtain ⟨zl, hzl, hzlen⟩ : ∃ zl, zeroAVs P e' = some zl ∧ zl.length = i'.size := by
      cases hq : zeroAVs P e' with
      | none => rw [hq] at hz; cases hz
      | some zl => rw [hq] at hz; exact ⟨zl, rfl, by simpa using hz⟩
    obtain ⟨zv, hzi, hzsz⟩ : ∃ zv, i'.zero = some zv ∧ zv.cells.size = i'.size := by
      unfold zeroAVs at hzl
      simp only [hi, Option.bind_some] at hzl
      split at hzl
      · rename_i zv hz2
        split at hzl
        · injection hzl with hzl
          refine ⟨zv, hz2, ?_⟩
          rw [← hzlen, ← hzl, List.length_map, Array.length_toList]
        · cases hzl
      · cases hzl
    have hsum : rows.length + ys.length ≤ most := Nat.le_trans (Nat.le_mul_of_pos_right _ hb1) hb
    have key : ∃ v' w', (Builtin.append_ #[t, t] ty #[ownVal (c.phi id) rows.length, .slice B ys.length m]).run P c.w = .ok v' w' ∧ w'.ownsRow 0 e' i'.size v' (rows.length + ys.length) (xs ++ news) ∧ c.w.grownBy w' (ownVal (c.phi id) rows.length).ownBlock ∧
        (v'.ownBlock = (ownVal (c.phi id) rows.length).ownBlock ∨ v'.ownBlock = some c.w.heap.size) := by
      cases B with
      | none =>
        have h0 : news = [] := hnone rfl
        have hy0 : ys.length = 0 := by
          rw [h0] at hnl
          rcases Nat.mul_eq_zero.1 hnl.symm with h | h <;> omega
        have hm0 : ys = [] := List.eq_nil_of_length_eq_zero hy0
        subst hm0 h0
        have hrun : (Builtin.append_ #[t, t] ty #[ownVal (c.phi id) rows.length, .slice none 0 m]).run P c.w = .ok (ownVal (c.phi id) rows.length) c.w := by
          rcases hown.2 with ⟨hv0, hn0⟩ | ⟨gb, cap, cur, hv0, _, _, hnc, _⟩
          · rw [hv0]
            simp [Builtin.append_, run_underlying hu, sizeOf, typeInfo, hi, Builtin.lenOf, Builtin.firstCells]
          · rw [hv0]
            simp [Builtin.append_, run_underlying hu, sizeOf, typeInfo, hi, Builtin.lenOf, Builtin.firstCells, hnc, storeCells]
        refine ⟨_, c.w, hrun, by simpa using hown, ⟨rfl, rfl, rfl, Nat.le_refl _, fun _ _ _ => rfl⟩, .inl rfl⟩
      | some p =>
        obtain ⟨v', w', h1, h2, h3, _, h5⟩ := run_append_own_at (P := P) c.w 0 t ty e' i' zv i'.size b hu hi hzi rfl hbt hzsz hsz _ rows.length xs hown p ys.length m news hnl (hcells p rfl) (hnews.one) (by simp only [most] at hsum; simp only [maxLen]; omega) (by simpa [most] using hb) (Nat.zero_le _)
        exact ⟨v', w', h1, h2, h3, h5⟩
    obtain ⟨v', w', h1, h2, h3, h5⟩ := key
    obtain ⟨p', rfl⟩ := place_of h2
    have hl : (rows ++ ys).length = rows.length + ys.length := List.length_append
    rw [← hl] at h2 h5
    refine ⟨ownVal p' (rows ++ ys).length, c.turn w' id p', setAt es id (.row c.now e' i'.size (rows ++ ys)), .own id c.now, ?_, ext_turn ok he.1 h3 (.inl rfl), ok_turn ok he.1 h3 (.inl rfl) h5 (by rw [hl]; exact hsum) (hr.append hnews) h2, ?_, ?_⟩
    · simp only [execOp, resolve, invoke, builtin, Sem.run_bind, Sem.run_pure, Result.andThen_ok, List.map_toArray, List.map_cons, List.map_nil, hvx, hvy, h1]
      rw [hl]
      rfl
    · simp only [Rep]
      refine ⟨_, rfl, ?_, Nat.lt_succ_self _, fun e2 sz2 rows2 h6 => ?_⟩
      · cases p' with
        | none => exact ⟨_, _, _, rfl⟩
        | some q => exact ⟨_, _, _, rfl⟩
      · rw [at_setAt_same _ he.1] at h6
        injection h6 with h6
        injection h6 with _ _ _ h6
        subst h6
        simp [Core.turn]
    · rw [he.2]
      exact k c.now
  · cases ht

/-! ### cuts -/
/-- A cut's bound: what stands there, or else dflt. -/
def Bnd (f : Frame) (o : Option Operand) (dflt n : Nat) : Prop :=
  match o with
  | none => n = dflt
  | some x => ∃ k, ev f x = .int k (n : Int)
theorem bnd_run {c : Core} {A : Act} (rf : RepF N c es f A) {o : Option Operand} {dflt n : Nat} (h : Bnd f o dflt n) {x : Operand} (ho : o = some x) : ∃ k, A.eval x = .int k (n : Int) := by
  subst ho
  obtain ⟨k, hk⟩ := h
  exact ⟨k, ev_int rf hk⟩
theorem run_sliceBounds {c : Core} {A : Act} (rf : RepF N c es f A) {lo hi : Option Operand} {len cap l h : Nat} (hlo : Bnd f lo 0 l) (hhi : Bnd f hi len h) (hlh : l ≤ h) (hhc : h ≤ cap) (b : Bool) (w : World) :
    (Instr.sliceBounds b len cap (lo.map A.eval) (hi.map A.eval) none).run P w = .ok (l, h, cap) w := by
  have sb : ∀ (o : Operand) (n y : Nat) (code : BoundsCode) (kk : IntKind), A.eval o = .int kk (n : Int) → n ≤ y → (Instr.sliceBound (A.eval o) y code).run P w = .ok n w := by
    intro o n y code kk ho hn
    rw [ho]
    have h1 : (0 : Int) ≤ n ∧ (n : Int) ≤ y := ⟨by omega, by omega⟩
    simp [Instr.sliceBound, asIntOf, hn]
  cases lo with
  | none =>
    have : l = 0 := hlo
    subst this
    cases hi with
    | none =>
      have : h = len := hhi
      subst this
      simp [Instr.sliceBounds]
    | some o =>
      obtain ⟨k, hk⟩ := bnd_run rf hhi rfl
      simp [Instr.sliceBounds, sb o h cap _ k hk hhc]
  | some o1 =>
    obtain ⟨k1, hk1⟩ := bnd_run rf hlo rfl
    cases hi with
    | none =>
      have : h = len := hhi
      subst this
      simp [Instr.sliceBounds, sb o1 l h _ k1 hk1 hlh]
    | some o =>
      obtain ⟨k, hk⟩ := bnd_run rf hhi rfl
      simp [Instr.sliceBounds, sb o h cap _ k hk hhc, sb o1 l h _ k1 hk1 hlh]
theorem RepRows.take {c : Core} {m : Option (List Ent)} : ∀ {rows : List (List AV)} {sz : Nat} {vs : List Value}, RepRows c m sz rows vs → ∀ n, RepRows c m sz (rows.take n) (vs.take (n * sz))
  | [], sz, vs, h, n => by simp only [RepRows] at h; subst h; simp [RepRows]
  | r :: rs, sz, vs, h, n => by
    simp only [RepRows] at h
    obtain ⟨v1, v2, rfl, hl, h1, ho, h2⟩ := h
    have hv1 : v1.length = sz := h1.length.trans hl
    cases n with
    | zero => simp [RepRows]
    | succ n =>
      refine ⟨v1, v2.take (n * sz), ?_, hl, h1, ho, h2.take n⟩
      rw [List.take_append, hv1, List.take_of_length_le (by rw [hv1, Nat.succ_mul]; omega), show (n + 1) * sz - sz = n * sz by rw [Nat.succ_mul]; omega]
theorem RepRows.drop {c : Core} {m : Option (List Ent)} : ∀ {rows : List (List AV)} {sz : Nat} {vs : List Value}, RepRows c m sz rows vs → ∀ n, RepRows c m sz (rows.drop n) (vs.drop (n * sz))
  | [], sz, vs, h, n => by simp only [RepRows] at h; subst h; simp [RepRows]
  | r :: rs, sz, vs, h, n => by
    have h0 := h
    simp only [RepRows] at h
    obtain ⟨v1, v2, rfl, hl, h1, ho, h2⟩ := h
    have hv1 : v1.length = sz := h1.length.trans hl
    cases n with
    | zero => simpa using h0
    | succ n =>
      rw [List.drop_append, hv1, List.drop_of_length_le (l := v1) (by rw [hv1, Nat.succ_mul]; omega), List.nil_append, show (n + 1) * sz - sz = n * sz by rw [Nat.succ_mul]; omega]
      exact h2.drop n
theorem o_slice_list {t e sz l h : Nat} {lo hi : Option Operand} {rows : List (List AV)} (hx : ev f x = .list sz rows) (ht : sliceB P t e sz = true) (hlo : Bnd f lo 0 l) (hhi : Bnd f hi rows.length h) (hlh : l ≤ h) (hh : h ≤ rows.length)
    (ha : .list sz ((rows.take h).drop l) = a) (kk : K (upd f d a) es) (hd : Nat.blt d N = true := by rfl) : AOp P w0 N ⟨some d, .slice t x lo hi none, ty, pos, aft, g⟩ f es K := by
  refine op_look hd (fun c A ok rf => ?_) kk
  have hr := rep_ev rf x
  rw [hx] at hr
  simp only [Rep] at hr
  obtain ⟨B, cap, vs, hv, hcap, hm, hr, hc⟩ := hr
  have hlen : ((rows.take h).drop l).length = h - l := by rw [List.length_drop, List.length_take]; omega
  unfold sliceB at ht
  split at ht
  · rename_i e' i' hu hi'
    simp only [Bool.and_eq_true, beq_iff_eq] at ht
    obtain ⟨rfl, rfl⟩ := ht
    refine ⟨.slice (if cap = l then B else B.map (·.add (l * i'.size))) (h - l) (cap - l), ?_, ?_⟩
    · simp only [execOp, hv, Instr.sliceAt, Instr.slice, Sem.run_bind, run_underlying hu, Result.andThen_ok, Option.map_none, run_sliceBounds rf hlo hhi hlh (by omega : h ≤ cap), sizeOf, typeInfo, run_program, hi', Sem.run_pure]
    · rw [← ha]
      simp only [Rep]
      refine ⟨_, _, (vs.take (h * i'.size)).drop (l * i'.size), by rw [hlen], by omega, by omega, (hr.take h).drop l, fun hne => ?_⟩
      have hvl := hr.length
      have hlt : l < h := by
        rcases Nat.lt_or_ge l h with h1 | h1
        · exact h1
        · exfalso
          apply hne
          rw [List.drop_eq_nil_iff, List.length_take]
          have : h * i'.size ≤ l * i'.size := Nat.mul_le_mul_right _ h1
          omega
      have hne0 : vs ≠ [] := by
        intro e2
        subst e2
        simp at hne
      obtain ⟨b, o, hB, hb, hcell⟩ := hc hne0
      subst hB
      rw [if_neg (by omega)]
      refine ⟨b, o + l * i'.size, by simp [add_eq], hb, fun j hj => ?_⟩
      rw [List.length_drop, List.length_take] at hj
      rw [List.getElem?_drop, List.getElem?_take, if_pos (by omega), ← hcell _ (by omega)]
      congr 2
      omega
  · cases ht
theorem o_slice_nil {t e sz : Nat} {lo hi : Option Operand} (hx : ev f x = .nil) (ht : sliceB P t e sz = true) (hlo : Bnd f lo 0 0) (hhi : Bnd f hi 0 0) (kk : K (upd f d .nil) es) (hd : Nat.blt d N = true := by rfl) : AOp P w0 N ⟨some d, .slice t x lo hi none, ty, pos, aft, g⟩ f es K := by
  refine op_look hd (fun c A ok rf => ?_) kk
  have hr := rep_ev rf x
  rw [hx] at hr
  simp only [Rep] at hr
  unfold sliceB at ht
  split at ht
  · rename_i e' i' hu hi'
    simp only [Bool.and_eq_true, beq_iff_eq] at ht
    obtain ⟨rfl, rfl⟩ := ht
    refine ⟨.slice none 0 0, ?_, by simp only [Rep]⟩
    simp only [execOp, hr, Instr.sliceAt, Instr.slice, Sem.run_bind, run_underlying hu, Result.andThen_ok, Option.map_none, run_sliceBounds rf hlo hhi (Nat.le_refl 0) (Nat.le_refl 0), sizeOf, typeInfo, run_program, hi', Sem.run_pure]
    rfl
  · cases ht
/-- v[:h], v being left behind. -/
theorem o_slice_own {t e sz id s h : Nat} {lo hi : Option Operand} {rows : List (List AV)} {C : Ent → List Ent} (hx : ev f x = .own id s) (he : Loc es id (.row s e sz rows) C) (ht : sliceB P t e sz = true) (hlo : Bnd f lo 0 0) (hhi : Bnd f hi rows.length h) (hh : h ≤ rows.length)
    (k : ∀ s', K (upd f d (.own id s')) (C (.row s' e sz (rows.take h)))) (hd : Nat.blt d N = true := by rfl) : AOp P w0 N ⟨some d, .slice t x lo hi none, ty, pos, aft, g⟩ f es K := by
  refine op_run hd fun c A ok rf => ?_
  have hrep := hx ▸ rep_ev rf x
  have hvx := rep_own hrep he.1
  obtain ⟨hlt, hm, hf, xs, hr, hown⟩ := ok.ent id _ he.1
  have hxl := hr.length
  have hlen : (rows.take h).length = h := by rw [List.length_take]; omega
  have hg : c.w.grownBy c.w (ownVal (c.phi id) rows.length).ownBlock := ⟨rfl, rfl, rfl, Nat.le_refl _, fun _ _ _ => rfl⟩
  have hown' : c.w.ownsRow 0 e sz (ownVal (c.phi id) (rows.take h).length) (rows.take h).length (xs.take (h * sz)) := by
    refine ⟨by rw [List.length_take, hlen, hxl, Nat.min_eq_left (Nat.mul_le_mul_right _ hh)], ?_⟩
    rw [hlen]
    cases hp : c.phi id with
    | none =>
      rw [hp] at hown
      rcases hown.2 with ⟨_, h1⟩ | ⟨_, _, _, h1, _⟩
      · exact .inl ⟨rfl, by omega⟩
      · cases h1
    | some q =>
      obtain ⟨gb, cap⟩ := q
      rw [hp] at hown
      rcases hown.2 with ⟨h1, _⟩ | ⟨g', cap', cur, h1, h2, h3, h4, h5, h6, h7⟩
      · cases h1
      · injection h1 with h1 _ h1''
        injection h1 with h1
        injection h1 with h1
        subst h1 h1''
        refine .inr ⟨gb, cap, cur, rfl, h2, h3, by omega, h5, h6, ?_⟩
        rw [← h7, List.take_take, Nat.min_eq_left (Nat.mul_le_mul_right _ hh)]
  have hblk : (ownVal (c.phi id) (rows.take h).length).ownBlock = (ownVal (c.phi id) rows.length).ownBlock := by cases c.phi id <;> rfl
  refine ⟨ownVal (c.phi id) h, c.turn c.w id (c.phi id), setAt es id (.row c.now e sz (rows.take h)), .own id c.now, ?_, ext_turn ok he.1 hg (.inl rfl), ok_turn ok he.1 hg (.inl rfl) (.inl hblk) (by omega) (hr.take h) hown', ?_, by rw [he.2]; exact k c.now⟩
  · obtain ⟨B, cap, hvs, hcap⟩ := own_slice ok he.1 hrep
    unfold sliceB at ht
    split at ht
    · rename_i e' i' hu hi'
      simp only [Bool.and_eq_true, beq_iff_eq] at ht
      obtain ⟨rfl, rfl⟩ := ht
      simp only [execOp, hvs, Instr.sliceAt, Instr.slice, Sem.run_bind, run_underlying hu, Result.andThen_ok, Option.map_none, run_sliceBounds rf hlo hhi (Nat.zero_le h) (by omega : h ≤ cap), sizeOf, typeInfo, run_program, hi', Sem.run_pure]
      rw [hvs] at hvx
      have hB : (if cap = 0 then B else B.map (·.add (0 * i'.size))) = B := by
        split
        · rfl
        · cases B with
          | none => rfl
          | some p => simp [Addr.add]
      rw [hB, Nat.sub_zero, Nat.sub_zero]
      cases hp : c.phi id with
      | none =>
        rw [hp] at hvx
        injection hvx with h1 h2 h3
        subst h1 h3
        have : h = 0 := by omega
        subst this
        rfl
      | some q =>
        obtain ⟨gb, cp⟩ := q
        rw [hp] at hvx
        injection hvx with h1 h2 h3
        subst h1 h3
        rfl
    · cases ht
  · simp only [Rep]
    refine ⟨_, rfl, ?_, Nat.lt_succ_self _, fun e2 sz2 rows2 h6 => ?_⟩
    · cases c.phi id with
      | none => exact ⟨_, _, _, rfl⟩
      | some q => exact ⟨_, _, _, rfl⟩
    · rw [at_setAt_same _ he.1] at h6
      injection h6 with h6
      injection h6 with _ _ _ h6
      subst h6
      simp only [Core.turn, if_pos, hlen]
theorem o_slice_str {t l h : Nat} {lo hi : Option Operand} {s : ByteArray} (hx : ev f x = .str s) (ht : P.underlying t = some .string) (hlo : Bnd f lo 0 l) (hhi : Bnd f hi s.size h) (hlh : l ≤ h) (hh : h ≤ s.size)
    (ha : .str (s.extract l h) = a) (kk : K (upd f d a) es) (hd : Nat.blt d N = true := by rfl) : AOp P w0 N ⟨some d, .slice t x lo hi none, ty, pos, aft, g⟩ f es K := by
  refine op_look hd (fun c A ok rf => ?_) kk
  have hv := ev_str rf hx
  refine ⟨.string (s.extract l h), ?_, by rw [← ha]; simp only [Rep]⟩
  simp only [execOp, hv, Instr.sliceAt, Instr.slice, Sem.run_bind, run_underlying ht, Result.andThen_ok, Option.map_none, run_sliceBounds rf hlo hhi hlh hh, Sem.run_pure, Option.isSome_none, Bool.false_eq_true, if_false]
end
end Go.Proofs.YtfdgbghlanbddaaDoor.Av
