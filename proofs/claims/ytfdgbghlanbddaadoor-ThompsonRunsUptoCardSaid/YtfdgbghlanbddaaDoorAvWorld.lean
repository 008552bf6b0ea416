import Derived.Test.YtfdgbghlanbddaaDoorAvBase
set_option linter.unusedVariables false
set_option linter.unusedSimpArgs false
namespace Go.Proofs.YtfdgbghlanbddaaDoor.Av
open Go.RowKit

theorem Reps.length {c : Core} : ∀ {l : List AV} {es : Option (List Ent)} {vs : List Value}, Reps c es l vs → vs.length = l.length
  | [], _, vs, h => by simp only [Reps] at h; simp [h]
  | a :: as, _, vs, h => by
    simp only [Reps] at h
    obtain ⟨v, vs', rfl, _, h2⟩ := h
    simp [h2.length]
theorem Reps.get {c : Core} : ∀ {l : List AV} {es : Option (List Ent)} {vs : List Value}, Reps c es l vs → ∀ j, Rep c es (l.getD j .any) (vs.getD j undef)
  | [], _, vs, h, j => by simp only [Reps] at h; subst h; simp [Rep]
  | a :: as, _, vs, h, j => by
    simp only [Reps] at h
    obtain ⟨v, vs', rfl, h1, h2⟩ := h
    cases j with
    | zero => exact h1
    | succ j => exact h2.get j
theorem Reps.append {c : Core} : ∀ {l l' : List AV} {es : Option (List Ent)} {vs vs' : List Value}, Reps c es l vs → Reps c es l' vs' → Reps c es (l ++ l') (vs ++ vs')
  | [], _, _, vs, _, h, h' => by simp only [Reps] at h; subst h; exact h'
  | a :: as, _, _, vs, _, h, h' => by
    simp only [Reps] at h
    obtain ⟨v, vs', rfl, h1, h2⟩ := h
    exact ⟨v, _, rfl, h1, h2.append h'⟩
theorem Reps.take {c : Core} : ∀ {l : List AV} {es : Option (List Ent)} {vs : List Value}, Reps c es l vs → ∀ n, Reps c es (l.take n) (vs.take n)
  | [], _, vs, h, n => by simp only [Reps] at h; subst h; simp [Reps]
  | a :: as, _, vs, h, n => by
    simp only [Reps] at h
    obtain ⟨v, vs', rfl, h1, h2⟩ := h
    cases n with
    | zero => simp [Reps]
    | succ n => exact ⟨v, _, rfl, h1, h2.take n⟩
theorem Reps.drop {c : Core} : ∀ {l : List AV} {es : Option (List Ent)} {vs : List Value}, Reps c es l vs → ∀ n, Reps c es (l.drop n) (vs.drop n)
  | [], _, vs, h, n => by simp only [Reps] at h; subst h; simp [Reps]
  | a :: as, _, vs, h, n => by
    simp only [Reps] at h
    obtain ⟨v, vs', rfl, h1, h2⟩ := h
    cases n with
    | zero => exact ⟨v, _, rfl, h1, h2⟩
    | succ n => exact h2.drop n

theorem RepRows.length {c : Core} : ∀ {rows : List (List AV)} {es : Option (List Ent)} {sz : Nat} {vs : List Value}, RepRows c es sz rows vs → vs.length = rows.length * sz
  | [], _, _, vs, h => by simp only [RepRows] at h; simp [h]
  | r :: rs, _, sz, vs, h => by
    simp only [RepRows] at h
    obtain ⟨v1, v2, rfl, hl, h1, _, h2⟩ := h
    rw [List.length_append, h2.length, h1.length, hl, List.length_cons, Nat.succ_mul, Nat.add_comm]
theorem RepRows.one {c : Core} : ∀ {rows : List (List AV)} {es : Option (List Ent)} {sz : Nat} {vs : List Value}, RepRows c es sz rows vs → ∀ x ∈ vs, x.oneCell' = true
  | [], _, _, vs, h => by simp only [RepRows] at h; subst h; simp
  | r :: rs, _, sz, vs, h => by
    simp only [RepRows] at h
    obtain ⟨v1, v2, rfl, hl, h1, ho, h2⟩ := h
    intro x hx
    rcases List.mem_append.1 hx with hx | hx
    · exact ho x hx
    · exact h2.one x hx
theorem RepRows.get {c : Core} : ∀ {rows : List (List AV)} {es : Option (List Ent)} {sz : Nat} {vs : List Value}, RepRows c es sz rows vs → ∀ i r, rows[i]? = some r →
    r.length = sz ∧ i * sz + sz ≤ vs.length ∧ Reps c es r ((vs.drop (i * sz)).take sz)
  | [], _, _, vs, h, i, r, hr => by simp at hr
  | q :: rs, _, sz, vs, h, i, r, hr => by
    simp only [RepRows] at h
    obtain ⟨v1, v2, rfl, hl, h1, ho, h2⟩ := h
    have hv1 : v1.length = sz := h1.length.trans hl
    cases i with
    | zero =>
      simp at hr
      subst hr
      refine ⟨hl, by simp [hv1], ?_⟩
      simp only [Nat.zero_mul, List.drop_zero]
      rw [List.take_left' hv1]
      exact h1
    | succ i =>
      obtain ⟨a, b, d⟩ := h2.get i r (by simpa using hr)
      refine ⟨a, by rw [List.length_append, Nat.succ_mul, hv1]; omega, ?_⟩
      rw [List.drop_append, hv1, List.drop_of_length_le (by rw [hv1, Nat.succ_mul]; omega), List.nil_append, show (i + 1) * sz - sz = i * sz by rw [Nat.succ_mul]; omega]
      exact d
theorem RepRows.append {c : Core} : ∀ {rows rows' : List (List AV)} {es : Option (List Ent)} {sz : Nat} {vs vs' : List Value}, RepRows c es sz rows vs → RepRows c es sz rows' vs' → RepRows c es sz (rows ++ rows') (vs ++ vs')
  | [], _, _, _, vs, _, h, h' => by simp only [RepRows] at h; subst h; exact h'
  | r :: rs, _, _, _, vs, _, h, h' => by
    simp only [RepRows] at h
    obtain ⟨v1, v2, rfl, hl, h1, ho, h2⟩ := h
    exact ⟨v1, v2 ++ _, by simp, hl, h1, ho, h2.append h'⟩
theorem RepRows.single {c : Core} {r : List AV} {es : Option (List Ent)} {vs : List Value} (h : Reps c es r vs) (ho : ∀ x ∈ vs, x.oneCell' = true) {sz : Nat} (hs : r.length = sz) : RepRows c es sz [r] vs :=
  ⟨vs, [], by simp, hs, h, ho, rfl⟩
theorem RepRows.set {c : Core} : ∀ {rows : List (List AV)} {es : Option (List Ent)} {sz : Nat} {vs : List Value}, RepRows c es sz rows vs → ∀ i (r' : List AV) (v' : List Value), i < rows.length → r'.length = sz → Reps c es r' v' → (∀ x ∈ v', x.oneCell' = true) →
    RepRows c es sz (rows.set i r') (vs.take (i * sz) ++ v' ++ vs.drop (i * sz + sz))
  | [], _, _, vs, h, i, r', v', hi, _, _, _ => by simp at hi
  | q :: rs, _, sz, vs, h, i, r', v', hi, hl', hr', ho' => by
    simp only [RepRows] at h
    obtain ⟨v1, v2, rfl, hl, h1, ho, h2⟩ := h
    have hv1 : v1.length = sz := h1.length.trans hl
    cases i with
    | zero =>
      refine ⟨v', v2, ?_, hl', hr', ho', h2⟩
      simp only [Nat.zero_mul, List.take_zero, List.nil_append, Nat.zero_add]
      rw [List.drop_left' hv1]
    | succ i =>
      have ih := h2.set i r' v' (by simpa using hi) hl' hr' ho'
      refine ⟨v1, _, ?_, hl, h1, ho, ih⟩
      rw [List.take_append, List.drop_append, hv1, List.take_of_length_le (by rw [hv1, Nat.succ_mul]; omega), List.drop_of_length_le (by rw [hv1, Nat.succ_mul]; omega)]
      rw [show (i + 1) * sz - sz = i * sz by rw [Nat.succ_mul]; omega, show (i + 1) * sz + sz - sz = i * sz + sz by rw [Nat.succ_mul]; omega]
      simp

theorem own_block_some (g cap n : Nat) : (ownVal (some (g, cap)) n).ownBlock = some g := rfl
theorem own_block_none (n : Nat) : (ownVal none n).ownBlock = none := rfl

/-- What is told of a row, told of a later world. -/
theorem EntOk.ext {c c' : Core} {es es' : List Ent} {id : Nat} {s e sz : Nat} {rows : List (List AV)} (h : EntOk c es id (.row s e sz rows)) (x : Ext c es c' es') (hp : c'.phi id = c.phi id)
    (hf : ∀ g cap, c.phi id = some (g, cap) → ¬ c'.fro g) (ho : ∀ xs, c.w.ownsRow 0 e sz (ownVal (c.phi id) rows.length) rows.length xs → c'.w.ownsRow 0 e sz (ownVal (c.phi id) rows.length) rows.length xs) :
    EntOk c' es' id (.row s e sz rows) := by
  obtain ⟨h1, h2, h3, xs, h4, h5⟩ := h
  refine ⟨Nat.lt_of_lt_of_le h1 x.now, h2, fun g cap hg => hf g cap (hp ▸ hg), xs, RepRows.ext (es := some es) (es' := some es') rows x h4, ?_⟩
  rw [hp]
  exact ho xs h5

theorem ownVal_lt {w : World} {e sz n : Nat} {xs : List Value} {g cap : Nat} (h : w.ownsRow 0 e sz (ownVal (some (g, cap)) n) n xs) : g < w.heap.size :=
  (h.lt g rfl).2

/-- A new row. -/
def Core.alloc (c : Core) (es : List Ent) (cells : Array Value) (e cap : Nat) : Core :=
  { w := c.w.alloc (.cells cells e), phi := fun j => if j = es.length then some (c.w.heap.size, cap) else c.phi j, now := c.now + 1, fro := c.fro }
theorem ext_alloc {w0 : World} {c : Core} {es : List Ent} (h : Ok w0 c es) (cells : Array Value) (e sz cap : Nat) (rows : List (List AV)) :
    Ext c es (c.alloc es cells e cap) (.row c.now e sz rows :: es) := by
  refine ⟨Nat.le_succ _, fun b hb => ⟨hb, heap_alloc_old c.w _ b (h.lt b hb)⟩, fun id s e' sz' rows' hr hs => ?_⟩
  by_cases hid : id = es.length
  · subst hid
    rw [at_hit] at hr
    injection hr with hr
    injection hr with hr
    omega
  · have h2 : at_ es id = some (.row s e' sz' rows') := by
      simp only [at_] at hr
      rwa [if_neg hid] at hr
    refine ⟨rows', h2, rfl, ?_⟩
    simp [Core.alloc, hid]
theorem ok_alloc {w0 : World} {c : Core} {es : List Ent} (h : Ok w0 c es) (cells : Array Value) (e sz : Nat) (rows : List (List AV)) (hr : RepRows c (some es) sz rows cells.toList)
    (hm : rows.length ≤ most) : Ok w0 (c.alloc es cells e rows.length) (.row c.now e sz rows :: es) := by
  have x := ext_alloc h cells e sz rows.length rows
  have hgr : c.w.grownBy (c.alloc es cells e rows.length).w none := World.grownBy_alloc c.w _ none
  refine ⟨h.below.alloc h.below.size _, h.old, fun b hb => ?_, fun id y hy => ?_, ?_⟩
  · have := h.lt b hb
    simp only [Core.alloc, World.size_alloc]
    omega
  · by_cases hid : id = es.length
    · subst hid
      rw [at_hit] at hy
      injection hy with hy
      subst hy
      refine ⟨Nat.lt_succ_self _, hm, fun g cap hg hf => ?_, cells.toList, RepRows.ext (es := some es) (es' := some _) rows x hr, ?_⟩
      · simp only [Core.alloc, if_pos] at hg
        injection hg with hg
        injection hg with hg hc
        have := h.lt g hf
        omega
      · simp only [Core.alloc, if_pos]
        have hl := hr.length
        refine ⟨hl, .inr ⟨c.w.heap.size, rows.length, cells, rfl, Nat.zero_le _, heap_alloc_new c.w _, Nat.le_refl _, ?_, by simpa using hl, ?_⟩⟩
        · simp only [most, maxLen] at *; omega
        · rw [← hl, List.take_length]
    · have h2 : at_ es id = some y := by
        simp only [at_] at hy
        rwa [if_neg hid] at hy
      have he := h.ent id y h2
      cases y with
      | dead => trivial
      | row s e' sz' rows' =>
        refine he.ext x (by simp [Core.alloc, hid]) (fun g cap hg => he.2.2.1 g cap hg) (fun xs ho => ho.kept hgr (by cases (ownVal (c.phi id) rows'.length).ownBlock <;> simp))
  · intro i j s e' sz' rows' s2 e2 sz2 rows2 g cap cap' hi hj pi pj
    have old : ∀ k s3 e3 sz3 rows3 cap3, k ≠ es.length → at_ (Ent.row c.now e sz rows :: es) k = some (.row s3 e3 sz3 rows3) → (c.alloc es cells e rows.length).phi k = some (g, cap3) → at_ es k = some (.row s3 e3 sz3 rows3) ∧ c.phi k = some (g, cap3) ∧ g < c.w.heap.size := by
      intro k s3 e3 sz3 rows3 cap3 hk h3 p3
      simp only [at_] at h3
      rw [if_neg hk] at h3
      simp only [Core.alloc, if_neg hk] at p3
      obtain ⟨_, _, _, xs, _, h5⟩ := h.ent k _ h3
      rw [p3] at h5
      exact ⟨h3, p3, ownVal_lt h5⟩
    by_cases hi' : i = es.length <;> by_cases hj' : j = es.length
    · rw [hi', hj']
    · obtain ⟨_, _, hlt⟩ := old j _ _ _ _ _ hj' hj pj
      simp only [Core.alloc, if_pos hi'] at pi
      injection pi with pi
      injection pi with pi _
      omega
    · obtain ⟨_, _, hlt⟩ := old i _ _ _ _ _ hi' hi pi
      simp only [Core.alloc, if_pos hj'] at pj
      injection pj with pj
      injection pj with pj _
      omega
    · obtain ⟨a1, a2, _⟩ := old i _ _ _ _ _ hi' hi pi
      obtain ⟨b1, b2, _⟩ := old j _ _ _ _ _ hj' hj pj
      exact h.inj i j _ _ _ _ _ _ _ _ _ _ _ a1 b1 a2 b2

/-- A row is written, or moved: it bears a new stamp s' (or its old one, its length unchanged), and lies at p'. -/
def Core.turn (c : Core) (w' : World) (id : Nat) (p' : Option (Nat × Nat)) : Core :=
  { w := w', phi := fun j => if j = id then p' else c.phi j, now := c.now + 1, fro := c.fro }
theorem ext_turn {w0 : World} {c : Core} {es : List Ent} (h : Ok w0 c es) {id s e sz : Nat} {rows rows' : List (List AV)} (hid : at_ es id = some (.row s e sz rows)) {w' : World} {p' : Option (Nat × Nat)} {s' : Nat}
    (hg : c.w.grownBy w' (ownVal (c.phi id) rows.length).ownBlock) (hs : s' = c.now ∨ (s' = s ∧ rows'.length = rows.length ∧ p' = c.phi id)) :
    Ext c es (c.turn w' id p') (setAt es id (.row s' e sz rows')) := by
  obtain ⟨_, _, hf, _⟩ := h.ent id _ hid
  refine ⟨Nat.le_succ _, fun b hb => ⟨hb, hg.block b (h.lt b hb) (fun e => ?_)⟩, fun j s2 e2 sz2 rows2 hj hlt => ?_⟩
  · cases hp : c.phi id with
    | none => rw [hp] at e; cases e
    | some x =>
      obtain ⟨g, cap⟩ := x
      rw [hp] at e
      have e2 : b = g := by injection e
      subst e2
      exact hf b cap hp hb
  · by_cases hji : j = id
    · subst hji
      rw [at_setAt_same _ hid] at hj
      injection hj with hj
      injection hj with a1 a2 a3 a4
      subst a1 a2 a3 a4
      rcases hs with hs | ⟨h1, h2, h3⟩
      · omega
      · subst h1
        exact ⟨rows, hid, h2.symm, by simp [Core.turn, h3]⟩
    · rw [at_setAt_ne _ hji] at hj
      exact ⟨rows2, hj, rfl, by simp [Core.turn, hji]⟩
theorem ok_turn {w0 : World} {c : Core} {es : List Ent} (h : Ok w0 c es) {id s e sz : Nat} {rows rows' : List (List AV)} (hid : at_ es id = some (.row s e sz rows)) {w' : World} {p' : Option (Nat × Nat)} {s' : Nat}
    (hg : c.w.grownBy w' (ownVal (c.phi id) rows.length).ownBlock) (hs : s' = c.now ∨ (s' = s ∧ rows'.length = rows.length ∧ p' = c.phi id))
    (hp : (ownVal p' rows'.length).ownBlock = (ownVal (c.phi id) rows.length).ownBlock ∨ (ownVal p' rows'.length).ownBlock = some c.w.heap.size)
    (hm : rows'.length ≤ most) {xs' : List Value} (hr : RepRows c (some es) sz rows' xs') (ho : w'.ownsRow 0 e sz (ownVal p' rows'.length) rows'.length xs') :
    Ok w0 (c.turn w' id p') (setAt es id (.row s' e sz rows')) := by
  have x := ext_turn h hid hg hs
  obtain ⟨hlt, _, hf, xs, hxs, how⟩ := h.ent id _ hid
  have hrow : ∀ k, (ownVal (c.phi id) rows.length).ownBlock = some k → w0.heap.size ≤ k := by
    intro k hk
    cases hp : c.phi id with
    | none => rw [hp] at hk; cases hk
    | some y =>
      obtain ⟨g, cap⟩ := y
      rw [hp] at hk
      injection hk with hk
      subst hk
      by_cases hh : w0.heap.size ≤ g
      · exact hh
      · exact absurd (h.old g (by omega)) (hf g cap hp)
  have news : ∀ g cap, p' = some (g, cap) → (c.phi id = some (g, cap) ∨ (∃ cap0, c.phi id = some (g, cap0)) ∨ g = c.w.heap.size) := by
    intro g cap hpp
    subst hpp
    rw [own_block_some] at hp
    rcases hp with hp | hp
    · cases hq : c.phi id with
      | none => rw [hq] at hp; cases hp
      | some y =>
        obtain ⟨g0, cap0⟩ := y
        rw [hq, own_block_some] at hp
        injection hp with hp
        subst hp
        exact .inr (.inl ⟨cap0, rfl⟩)
    · injection hp with hp
      exact .inr (.inr hp)
  refine ⟨h.below.grown hg h.below.size hrow, h.old, fun b hb => Nat.lt_of_lt_of_le (h.lt b hb) hg.size, fun j y hy => ?_, ?_⟩
  · by_cases hji : j = id
    · subst hji
      rw [at_setAt_same _ hid] at hy
      injection hy with hy
      subst hy
      refine ⟨?_, hm, fun g cap hgc hfg => ?_, xs', RepRows.ext (es := some es) (es' := some _) rows' x hr, ?_⟩
      · simp only [Core.turn]
        rcases hs with hs | ⟨h1, _⟩ <;> omega
      · simp only [Core.turn, if_pos] at hgc
        rcases news g cap hgc with h1 | ⟨cap0, h1⟩ | h1
        · exact hf _ _ h1 hfg
        · exact hf _ _ h1 hfg
        · have := h.lt g hfg; omega
      · simp only [Core.turn, if_pos]
        exact ho
    · rw [at_setAt_ne _ hji] at hy
      have he := h.ent j y hy
      cases y with
      | dead => trivial
      | row s2 e2 sz2 rows2 =>
        refine he.ext x (by simp [Core.turn, hji]) (fun g cap hgc => he.2.2.1 g cap hgc) (fun zs hz => hz.kept hg ?_)
        cases hq : c.phi j with
        | none => exact .inl rfl
        | some y =>
          obtain ⟨g, cap⟩ := y
          refine .inr (fun e => ?_)
          cases hp2 : c.phi id with
          | none => rw [hp2] at e; cases e
          | some y2 =>
            obtain ⟨g2, cap2⟩ := y2
            rw [hp2] at e
            injection e with e
            subst e
            exact hji (h.inj j id _ _ _ _ _ _ _ _ _ _ _ hy hid hq hp2)
  · have old : ∀ k s3 e3 sz3 rows3 g cap3, k ≠ id → at_ (setAt es id (.row s' e sz rows')) k = some (.row s3 e3 sz3 rows3) → (c.turn w' id p').phi k = some (g, cap3) → at_ es k = some (.row s3 e3 sz3 rows3) ∧ c.phi k = some (g, cap3) ∧ g < c.w.heap.size := by
      intro k s3 e3 sz3 rows3 g cap3 hk h3 p3
      rw [at_setAt_ne _ hk] at h3
      simp only [Core.turn, if_neg hk] at p3
      obtain ⟨_, _, _, xs, _, h5⟩ := h.ent k _ h3
      rw [p3] at h5
      exact ⟨h3, p3, ownVal_lt h5⟩
    have clash : ∀ k s3 e3 sz3 rows3 g cap3 cap4, k ≠ id → at_ (setAt es id (.row s' e sz rows')) k = some (.row s3 e3 sz3 rows3) → (c.turn w' id p').phi k = some (g, cap3) → (c.turn w' id p').phi id = some (g, cap4) → False := by
      intro k s3 e3 sz3 rows3 g cap3 cap4 hk h3 p3 p4
      obtain ⟨a1, a2, a3⟩ := old k _ _ _ _ _ _ hk h3 p3
      simp only [Core.turn, if_pos] at p4
      rcases news g cap4 p4 with h1 | ⟨cap0, h1⟩ | h1
      · exact hk (h.inj k id _ _ _ _ _ _ _ _ _ _ _ a1 hid a2 h1)
      · exact hk (h.inj k id _ _ _ _ _ _ _ _ _ _ _ a1 hid a2 h1)
      · omega
    intro i j s2 e2 sz2 rows2 s3 e3 sz3 rows3 g cap cap' hi hj pi pj
    by_cases hi' : i = id <;> by_cases hj' : j = id
    · rw [hi', hj']
    · subst hi'
      exact (clash j _ _ _ _ _ _ _ hj' hj pj pi).elim
    · subst hj'
      exact (clash i _ _ _ _ _ _ _ hi' hi pi pj).elim
    · obtain ⟨a1, a2, _⟩ := old i _ _ _ _ _ _ hi' hi pi
      obtain ⟨b1, b2, _⟩ := old j _ _ _ _ _ _ hj' hj pj
      exact h.inj i j _ _ _ _ _ _ _ _ _ _ _ a1 b1 a2 b2

/-- Entries are forgotten. -/
def Sub (es' es : List Ent) : Prop := ∀ id s e sz rows, at_ es' id = some (.row s e sz rows) → at_ es id = some (.row s e sz rows)
theorem Sub.refl (es : List Ent) : Sub es es := fun _ _ _ _ _ h => h
theorem Sub.trans {a b d : List Ent} (h : Sub a b) (k : Sub b d) : Sub a d := fun _ _ _ _ _ x => k _ _ _ _ _ (h _ _ _ _ _ x)
theorem Sub.tail (x : Ent) (es : List Ent) : Sub es (x :: es) := fun _ _ _ _ _ h => at_miss _ h
theorem Sub.kill (es : List Ent) (id : Nat) : Sub (setAt es id .dead) es := by
  intro j s e sz rows h
  rw [at_setAt] at h
  split at h
  · cases h
  · exact h
theorem Sub.ext (c : Core) {es es' : List Ent} (h : Sub es' es) : Ext c es c es' :=
  ⟨Nat.le_refl _, fun _ hb => ⟨hb, rfl⟩, fun id s e sz rows hr _ => ⟨rows, h _ _ _ _ _ hr, rfl, rfl⟩⟩
theorem Sub.ok {w0 : World} {c : Core} {es es' : List Ent} (h : Sub es' es) (k : Ok w0 c es) : Ok w0 c es' := by
  refine ⟨k.below, k.old, k.lt, fun id y hy => ?_, fun i j s e sz rows s' e' sz' rows' g cap cap' hi hj => k.inj i j _ _ _ _ _ _ _ _ _ _ _ (h _ _ _ _ _ hi) (h _ _ _ _ _ hj)⟩
  cases y with
  | dead => trivial
  | row s e sz rows =>
    have := k.ent id _ (h _ _ _ _ _ hy)
    exact this.ext (h.ext c) rfl (fun g cap hg => this.2.2.1 g cap hg) (fun _ ho => ho)

/-- A row is written no more. -/
def Core.freeze (c : Core) (id : Nat) : Core := { c with fro := fun b => c.fro b ∨ ∃ cap, c.phi id = some (b, cap) }
theorem ext_freeze {c : Core} {es : List Ent} (id : Nat) : Ext c es (c.freeze id) (setAt es id .dead) := by
  refine ⟨Nat.le_refl _, fun _ hb => ⟨.inl hb, rfl⟩, fun j s e sz rows hr _ => ⟨rows, Sub.kill es id _ _ _ _ _ hr, rfl, rfl⟩⟩
theorem ok_freeze {w0 : World} {c : Core} {es : List Ent} (k : Ok w0 c es) {id s e sz : Nat} {rows : List (List AV)} (hid : at_ es id = some (.row s e sz rows)) : Ok w0 (c.freeze id) (setAt es id .dead) := by
  have hsub := Sub.kill es id
  refine ⟨k.below, fun b hb => .inl (k.old b hb), fun b hb => ?_, fun j y hy => ?_, fun i j s e sz rows s' e' sz' rows' g cap cap' hi hj => k.inj i j _ _ _ _ _ _ _ _ _ _ _ (hsub _ _ _ _ _ hi) (hsub _ _ _ _ _ hj)⟩
  · rcases hb with hb | ⟨cap, hb⟩
    · exact k.lt b hb
    · obtain ⟨_, _, _, xs, _, h5⟩ := k.ent id _ hid
      rw [hb] at h5
      exact ownVal_lt h5
  · cases y with
    | dead => trivial
    | row s2 e2 sz2 rows2 =>
      have hj := hsub _ _ _ _ _ hy
      have hji : j ≠ id := by
        intro e
        subst e
        rw [at_setAt_same _ hid] at hy
        cases hy
      have := k.ent j _ hj
      refine this.ext (ext_freeze id) rfl (fun g cap hg hf => ?_) (fun _ ho => ho)
      rcases hf with hf | ⟨cap', hf⟩
      · exact this.2.2.1 g cap hg hf
      · exact hji (k.inj j id _ _ _ _ _ _ _ _ _ _ _ hj hid hg hf)
theorem rep_freeze {w0 : World} {c : Core} {es : List Ent} (k : Ok w0 c es) {id s e sz : Nat} {rows : List (List AV)} (hid : at_ es id = some (.row s e sz rows)) (hclean : rows.all cleans = true) (m : Option (List Ent)) :
    Rep (c.freeze id) m (.list sz rows) (ownVal (c.phi id) rows.length) := by
  obtain ⟨_, hm, _, xs, h4, h5⟩ := k.ent id _ hid
  have x : ExtM c none (c.freeze id) none := ⟨Nat.le_refl _, fun _ hb => ⟨.inl hb, rfl⟩⟩
  have h4' := RepRows.ext rows x (h4.down rows hclean)
  simp only [Rep]
  cases hp : c.phi id with
  | none =>
    rw [hp] at h5
    rcases h5.2 with ⟨_, h6⟩ | ⟨g, cap, cur, h6, _⟩
    · have hr : rows = [] := List.eq_nil_of_length_eq_zero h6
      subst hr
      refine ⟨none, 0, [], rfl, Nat.le_refl _, Nat.zero_le _, rfl, fun hv => absurd rfl hv⟩
    · cases h6
  | some y =>
    obtain ⟨g, cap⟩ := y
    rw [hp] at h5
    rcases h5.2 with ⟨h6, _⟩ | ⟨g', cap', cur, h6, _, h7, h8, _, _, _⟩
    · cases h6
    · injection h6 with h6 h6' h6''
      injection h6 with h6
      injection h6 with h6
      subst h6 h6''
      refine ⟨some ⟨g, 0, none⟩, cap, xs, rfl, h8, hm, h4', fun hv => ⟨g, 0, rfl, .inr ⟨cap, hp⟩, fun j hj => ?_⟩⟩
      have := h5.cells (g := g) rfl j _ (List.getElem?_eq_getElem hj)
      rw [Nat.zero_add, List.getElem?_eq_getElem hj, ← this]
      show c.w.cell? _ = c.w.cell? _
      congr 1
      unfold Addr.add
      split <;> simp_all
/-- An empty row to which nothing is bound yet: the nil slice taken for one's own. -/
def Core.adopt (c : Core) (es : List Ent) : Core := { c with phi := fun j => if j = es.length then none else c.phi j, now := c.now + 1 }
theorem ext_adopt {w0 : World} {c : Core} {es : List Ent} (e sz : Nat) : Ext c es (c.adopt es) (.row c.now e sz [] :: es) := by
  refine ⟨Nat.le_succ _, fun b hb => ⟨hb, rfl⟩, fun id s e' sz' rows' hr hs => ?_⟩
  by_cases hid : id = es.length
  · subst hid
    rw [at_hit] at hr
    injection hr with hr
    injection hr with hr
    omega
  · have h2 : at_ es id = some (.row s e' sz' rows') := by
      simp only [at_] at hr
      rwa [if_neg hid] at hr
    exact ⟨rows', h2, rfl, by simp [Core.adopt, hid]⟩
theorem ok_adopt {w0 : World} {c : Core} {es : List Ent} (h : Ok w0 c es) (e sz : Nat) : Ok w0 (c.adopt es) (.row c.now e sz [] :: es) := by
  have x := ext_adopt (w0 := w0) (c := c) (es := es) e sz
  refine ⟨h.below, h.old, h.lt, fun id y hy => ?_, ?_⟩
  · by_cases hid : id = es.length
    · subst hid
      rw [at_hit] at hy
      injection hy with hy
      subst hy
      refine ⟨Nat.lt_succ_self _, Nat.zero_le _, fun g cap hg => by simp [Core.adopt] at hg, [], rfl, ?_⟩
      simp only [Core.adopt, if_pos]
      exact World.ownsRow_nil _ 0 e sz
    · have h2 : at_ es id = some y := by
        simp only [at_] at hy
        rwa [if_neg hid] at hy
      have he := h.ent id y h2
      cases y with
      | dead => trivial
      | row s e' sz' rows' => exact he.ext x (by simp [Core.adopt, hid]) (fun g cap hg => he.2.2.1 g cap hg) (fun xs ho => ho)
  · intro i j s e' sz' rows' s2 e2 sz2 rows2 g cap cap' hi hj pi pj
    have old : ∀ k s3 e3 sz3 rows3 cap3, at_ (Ent.row c.now e sz [] :: es) k = some (.row s3 e3 sz3 rows3) → (if k = es.length then none else c.phi k) = some (g, cap3) → at_ es k = some (.row s3 e3 sz3 rows3) ∧ c.phi k = some (g, cap3) := by
      intro k s3 e3 sz3 rows3 cap3 h3 p3
      by_cases hk : k = es.length
      · rw [if_pos hk] at p3; cases p3
      · simp only [at_] at h3
        rw [if_neg hk] at h3 p3
        exact ⟨h3, p3⟩
    obtain ⟨a1, a2⟩ := old i _ _ _ _ _ hi pi
    obtain ⟨b1, b2⟩ := old j _ _ _ _ _ hj pj
    exact h.inj i j _ _ _ _ _ _ _ _ _ _ _ a1 b1 a2 b2
end Go.Proofs.YtfdgbghlanbddaaDoor.Av
