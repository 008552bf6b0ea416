import Derived.Test.YtfdgbghlanbddaaDoorAvConv
import Derived.Orders
set_option linter.unusedVariables false
set_option linter.unusedSimpArgs false
namespace Go.Proofs.YtfdgbghlanbddaaDoor.Av
open Go.RowKit

/-- What an operation looks at: its operands' slots, its guard's. -/
def looks (l : List Oper) (o : Oper) : List Nat :=
  (o.op.operands.toList.filterMap fun x => match x with | .tmp t => some t | _ => none) ++
  (match o.guard with | some (j, _) => ((l[j]?).bind (·.dst)).toList | none => [])
def preds (o : Oper) : List Nat := (o.after.toList.filter (Region.binds .any)).map (·.on)
theorem mem_preds {o : Oper} {j : Nat} : j ∈ preds o ↔ ∃ e ∈ o.after, Region.binds .any e = true ∧ e.on = j := by
  simp only [preds, List.mem_map, List.mem_filter, Array.mem_toList_iff]
  constructor
  · rintro ⟨e, ⟨h1, h2⟩, h3⟩; exact ⟨e, h1, h2, h3⟩
  · rintro ⟨e, h1, h2, h3⟩; exact ⟨e, ⟨h1, h2⟩, h3⟩
/-- Of each operation all that must be behind it, near or far. -/
def farOf (acc : List (List Nat)) (o : Oper) : List Nat := (preds o ++ (preds o).flatMap fun j => acc.getD j []).eraseDups
def far : List Oper → List (List Nat) → List (List Nat)
  | [], acc => acc
  | o :: rest, acc => far rest (acc ++ [farOf acc o])
/-- A set of operations with all that is ahead of each. -/
def Closed (l : List Oper) (L : Nat → Prop) : Prop := ∀ (i : Nat) (o : Oper), l[i]? = some o → L i → ∀ j ∈ preds o, L j
theorem far_sound {l : List Oper} {L : Nat → Prop} (hL : Closed l L) : ∀ (rest : List Oper) (acc : List (List Nat)), l = l.take acc.length ++ rest →
    (∀ (i : Nat) (o : Oper), i < acc.length → l[i]? = some o → (∀ j ∈ preds o, L j) → ∀ j ∈ acc.getD i [], L j) →
    ∀ (i : Nat) (o : Oper), l[i]? = some o → (∀ j ∈ preds o, L j) → ∀ j ∈ (far rest acc).getD i [], L j
  | [], acc, hl, h, i, o, hi, hp, j, hj => by
    simp only [far] at hj
    by_cases hia : i < acc.length
    · exact h i o hia hi hp j hj
    · rw [List.getD_eq_getElem?_getD, List.getElem?_eq_none (by omega)] at hj
      simp at hj
  | x :: rest, acc, hl, h, i, o, hi, hp, j, hj => by
    have hacc : acc.length < l.length := by
      have := congrArg List.length hl
      simp only [List.length_append, List.length_take, List.length_cons] at this
      omega
    have hx : l[acc.length]? = some x := by
      rw [hl, List.getElem?_append_right (by simp [List.length_take]; omega)]
      have : acc.length - (l.take acc.length).length = 0 := by simp [List.length_take]; omega
      rw [this]
      rfl
    refine far_sound hL rest (acc ++ [farOf acc x]) ?_ ?_ i o hi hp j hj
    · have hlen : (acc ++ [farOf acc x]).length = acc.length + 1 := by simp
      rw [hlen, List.take_add_one, hx, List.append_assoc]
      exact hl
    · intro i' o' hi' hio' hp' j' hj'
      have hlen : (acc ++ [farOf acc x]).length = acc.length + 1 := by simp
      rw [hlen] at hi'
      by_cases hia : i' < acc.length
      · rw [List.getD_eq_getElem?_getD, List.getElem?_append_left hia, ← List.getD_eq_getElem?_getD] at hj'
        exact h i' o' hia hio' hp' j' hj'
      · have : i' = acc.length := by omega
        subst this
        rw [List.getD_eq_getElem?_getD, List.getElem?_append_right (Nat.le_refl _)] at hj'
        simp only [Nat.sub_self, List.getElem?_cons_zero, Option.getD_some, farOf, List.mem_eraseDups, List.mem_append, List.mem_flatMap] at hj'
        rw [hx] at hio'
        injection hio' with e
        subst e
        rcases hj' with hj' | ⟨k, hk, hj'⟩
        · exact hp' j' hj'
        · have hLk := hp' k hk
          by_cases hka : k < acc.length
          · exact h k l[k] hka (List.getElem?_eq_getElem (by omega)) (hL k _ (List.getElem?_eq_getElem (by omega)) hLk) j' hj'
          · rw [List.getD_eq_getElem?_getD, List.getElem?_eq_none (by omega)] at hj'
            simp at hj'

/-- The first m operations: those in ms one behind the other, the others quiet; all later ones one behind the other, behind these. -/
def drawOk (l : List Oper) (m : Nat) (ms : List Nat) : Bool :=
  let F := far l []
  decide (m ≤ l.length) && decide (((l.take m).filterMap (·.dst)).Nodup) &&
  (l.zipIdx.all fun x => (preds x.1).all fun j => decide (j < x.2)) &&
  ((l.take m).zipIdx.all fun x => (looks l x.1).all fun t => (l.take m).zipIdx.all fun y => !(y.1.dst == some t) || ((preds x.1).contains y.2 && (!(ms.contains y.2) || ms.contains x.2))) &&
  (l.zipIdx.all fun x => decide (x.2 < m) || (List.range x.2).all fun j => (F.getD x.2 []).contains j) &&
  ((l.take m).zipIdx.all fun x => if ms.contains x.2 then x.1.guard.isNone && (ms.all fun j => !(decide (j < x.2)) || (F.getD x.2 []).contains j) else x.1.dst.isSome) &&
  decide (ms.Pairwise (· < ·)) && ms.all (fun j => decide (j < m))

structure DrawOk (l : List Oper) (m : Nat) (ms : List Nat) : Prop where
  le : m ≤ l.length
  dist : ∀ (i j : Nat) (o o' : Oper) (d : Nat), i < m → j < m → l[i]? = some o → l[j]? = some o' → o.dst = some d → o'.dst = some d → i = j
  back : ∀ (i : Nat) (o : Oper), l[i]? = some o → ∀ j ∈ preds o, j < i
  wait : ∀ (i : Nat) (o : Oper), i < m → l[i]? = some o → ∀ t ∈ looks l o, ∀ (j : Nat) (o' : Oper), j < m → l[j]? = some o' → o'.dst = some t → j ∈ preds o ∧ (j ∈ ms → i ∈ ms)
  tail : ∀ (L : Nat → Prop), Closed l L → ∀ (i : Nat) (o : Oper), m ≤ i → l[i]? = some o → (∀ j ∈ preds o, L j) → ∀ j, j < i → L j
  quiet : ∀ (i : Nat) (o : Oper), i < m → i ∉ ms → l[i]? = some o → ∃ d, o.dst = some d
  plain : ∀ (i : Nat) (o : Oper), i < m → i ∈ ms → l[i]? = some o → o.guard = none
  chain : ∀ (L : Nat → Prop), Closed l L → ∀ (i : Nat) (o : Oper), i < m → i ∈ ms → l[i]? = some o → (∀ j ∈ preds o, L j) → ∀ j ∈ ms, j < i → L j
  rise : ms.Pairwise (· < ·)
  lt : ∀ j ∈ ms, j < m
theorem take_get {α : Type} {l : List α} {m i : Nat} {o : α} (h : i < m) (hi : l[i]? = some o) : (l.take m)[i]? = some o := by
  rw [List.getElem?_take, if_pos h, hi]
theorem nodup_filterMap_idx {α β : Type} {g : α → Option β} : ∀ {l : List α}, (l.filterMap g).Nodup → ∀ {i j : Nat} {x y : α} {d : β}, l[i]? = some x → l[j]? = some y → g x = some d → g y = some d → i = j
  | [], _, i, _, _, _, _, hi, _, _, _ => by simp at hi
  | a :: t, h, i, j, x, y, d, hi, hj, hx, hy => by
    have mem : ∀ {k : Nat} {z : α}, t[k]? = some z → g z = some d → d ∈ t.filterMap g := fun hk hz => List.mem_filterMap.2 ⟨_, List.mem_of_getElem? hk, hz⟩
    rcases i with _ | i <;> rcases j with _ | j
    · rfl
    · exfalso
      simp only [List.getElem?_cons_zero, Option.some.injEq, List.getElem?_cons_succ] at hi hj
      subst hi
      rw [List.filterMap_cons_some hx, List.nodup_cons] at h
      exact h.1 (mem hj hy)
    · exfalso
      simp only [List.getElem?_cons_zero, Option.some.injEq, List.getElem?_cons_succ] at hi hj
      subst hj
      rw [List.filterMap_cons_some hy, List.nodup_cons] at h
      exact h.1 (mem hi hx)
    · simp only [List.getElem?_cons_succ] at hi hj
      have ht : (t.filterMap g).Nodup := by
        cases hg : g a with
        | none => rwa [List.filterMap_cons_none hg] at h
        | some z => rw [List.filterMap_cons_some hg, List.nodup_cons] at h; exact h.2
      rw [nodup_filterMap_idx ht hi hj hx hy]
theorem drawOk_of {l : List Oper} {m : Nat} {ms : List Nat} (h : drawOk l m ms = true) : DrawOk l m ms := by
  simp only [drawOk, Bool.and_eq_true, decide_eq_true_eq, List.all_eq_true] at h
  obtain ⟨⟨⟨⟨⟨⟨⟨h0, h1⟩, h2⟩, h3⟩, h4⟩, h5⟩, h6⟩, h7⟩ := h
  have mem : ∀ {i o}, i < m → l[i]? = some o → (o, i) ∈ (l.take m).zipIdx := fun hm hi => List.mem_zipIdx_iff_getElem?.2 (by simpa using take_get hm hi)
  have mem' : ∀ {i o}, l[i]? = some o → (o, i) ∈ l.zipIdx := fun hi => List.mem_zipIdx_iff_getElem?.2 (by simpa using hi)
  have snd : ∀ (L : Nat → Prop), Closed l L → ∀ (i : Nat) (o : Oper), l[i]? = some o → (∀ j ∈ preds o, L j) → ∀ j ∈ (far l []).getD i [], L j :=
    fun L hL => far_sound hL l [] (by simp) (fun i o hi => by simp at hi)
  refine ⟨h0, fun i j o o' d him hjm hi hj hd hd' => nodup_filterMap_idx h1 (take_get him hi) (take_get hjm hj) hd hd', fun i o hi j hj => h2 _ (mem' hi) j hj, fun i o him hi t ht j o' hjm hj hd => ?_, fun L hL i o hmi hi hp j hj => ?_, fun i o him hn hi => ?_, fun i o him hn hi => ?_, fun L hL i o him hn hi hp j hj hji => ?_, h6, h7⟩
  · have := h3 _ (mem him hi) t ht _ (mem hjm hj)
    simp only [hd, beq_self_eq_true, Bool.not_true, Bool.false_or, Bool.and_eq_true, List.contains_iff_mem, Bool.or_eq_true, Bool.not_eq_true'] at this
    refine ⟨this.1, fun hj => ?_⟩
    rcases this.2 with h8 | h8
    · simp [hj] at h8
    · exact h8
  · have := h4 _ (mem' hi)
    simp only [Bool.or_eq_true, decide_eq_true_eq, List.all_eq_true, List.mem_range, List.contains_iff_mem] at this
    rcases this with h8 | h8
    · omega
    · exact snd L hL i o hi hp j (h8 j hj)
  · have := h5 _ (mem him hi)
    rw [if_neg (by simpa using hn)] at this
    exact Option.isSome_iff_exists.1 this
  · have := h5 _ (mem him hi)
    rw [if_pos (by simpa using hn), Bool.and_eq_true] at this
    exact Option.isNone_iff_eq_none.1 this.1
  · have := h5 _ (mem him hi)
    rw [if_pos (by simpa using hn), Bool.and_eq_true, List.all_eq_true] at this
    have := this.2 j hj
    simp only [hji, decide_true, Bool.not_true, Bool.false_or, List.contains_iff_mem] at this
    exact snd L hL i o hi hp j this

section
variable {P : Program} {w0 : World} {N : Nat}

/-- One operation of a region whose order is open: whatever else is known, it leaves v in its slot, and the rows as they are. F is what is known of what it looks at. -/
def QOp (P : Program) (w0 : World) (N : Nat) (o : Oper) (F : Frame) (v : AV) (es : List Ent) : Prop :=
  ∀ f : Frame, (∀ x ∈ o.op.operands, ev f x = ev F x) → AOp P w0 N o f es fun f' es' => es' = es ∧ f' = put f o.dst v
def QStep (P : Program) (w0 : World) (N : Nat) (G : List Ent → Prop) (ops : Array Oper) (o : Oper) (F : Frame) (v : AV) : Prop :=
  match o.guard with
  | none => ∀ es, G es → QOp P w0 N o F v es
  | some (j, want) => ∃ d, (ops[j]?).bind (·.dst) = some d ∧ Nat.blt d N = true ∧ ((F d = .bool want ∧ ∀ es, G es → QOp P w0 N o F v es) ∨ ((F d = .bool (!want) ∨ F d = .raw undef) ∧ v = .raw undef))
/-- The quiet operations in the text's order; what is known grows. -/
def QList (P : Program) (w0 : World) (N : Nat) (G : List Ent → Prop) (ops : Array Oper) : List Oper → Frame → (Frame → Prop) → Prop
  | [], F, k => k F
  | o :: rest, F, k => ∃ d v, o.dst = some d ∧ Nat.blt d N = true ∧ QStep P w0 N G ops o F v ∧ QList P w0 N G ops rest (upd F d v) k
/-- The others, one behind the other. -/
def MList (P : Program) (w0 : World) (N : Nat) (G : List Ent → Prop) : List Oper → Frame → List Ent → (Frame → List Ent → Prop) → Prop
  | [], F, es, k => k F es
  | o :: rest, F, es, k => ∀ f : Frame, (∀ x ∈ o.op.operands, ev f x = ev F x) → AOp P w0 N o f es fun f' es' => ∃ v, f' = put f o.dst v ∧ G es' ∧ MList P w0 N G rest (put F o.dst v) es' k

theorem ok_drew {c : Core} {es : List Ent} (h : Ok w0 c es) : Ext c es { c with w := { c.w with drawn := c.w.drawn + 1 } } es ∧ Ok w0 { c with w := { c.w with drawn := c.w.drawn + 1 } } es := by
  have x : Ext c es { c with w := { c.w with drawn := c.w.drawn + 1 } } es := ⟨Nat.le_refl _, fun b hb => ⟨hb, rfl⟩, fun id s e sz rows hr _ => ⟨rows, hr, rfl, rfl⟩⟩
  refine ⟨x, ⟨h.below.drew, h.old, h.lt, fun id y hy => ?_, h.inj⟩⟩
  cases y with
  | dead => trivial
  | row s e sz rows =>
    have he := h.ent id _ hy
    exact he.ext x rfl (fun g cap hg => he.2.2.1 g cap hg) (fun xs ho => ho)

def blocked (l : List Oper) (m : Nat) (listed : Array Bool) (t : Nat) : Bool := (l.take m).zipIdx.any fun x => x.1.dst == some t && !(listed.getD x.2 true)
def mix (l : List Oper) (m : Nat) (listed : Array Bool) (F : Frame) : Frame := fun t => if blocked l m listed t then .any else F t
theorem blocked_iff {l : List Oper} {m : Nat} {listed : Array Bool} {t : Nat} : blocked l m listed t = true ↔ ∃ j o, j < m ∧ l[j]? = some o ∧ o.dst = some t ∧ listed.getD j true = false := by
  simp only [blocked, List.any_eq_true, Bool.and_eq_true, Bool.not_eq_true', beq_iff_eq]
  constructor
  · rintro ⟨⟨o, j⟩, hm, h1, h2⟩
    have := List.mem_zipIdx_iff_getElem?.1 hm
    simp only [List.getElem?_take] at this
    split at this
    · exact ⟨j, o, by assumption, by simpa using this, h1, h2⟩
    · cases this
  · rintro ⟨j, o, hjm, h1, h2, h3⟩
    exact ⟨⟨o, j⟩, List.mem_zipIdx_iff_getElem?.2 (by simpa using take_get hjm h1), h2, h3⟩
def IsL (listed : Array Bool) (j : Nat) : Prop := listed.getD j false = true
theorem isL_t {listed : Array Bool} {j : Nat} (h : j < listed.size) : IsL listed j ↔ listed.getD j true = true := by
  simp only [IsL, Array.getD_eq_getD_getElem?, Array.getElem?_eq_getElem h, Option.getD_some]
theorem isL_f {listed : Array Bool} {j : Nat} (h : j < listed.size) : ¬ IsL listed j ↔ listed.getD j true = false := by
  rw [isL_t h]; simp
theorem isL_set {listed : Array Bool} {i j : Nat} (h : i < listed.size) : IsL (listed.setIfInBounds i true) j ↔ (j = i ∨ IsL listed j) := by
  unfold IsL
  by_cases hji : j = i
  · subst hji
    rw [Array.getD_eq_getD_getElem?, Array.getElem?_setIfInBounds_self_of_lt h]
    simp
  · rw [Array.getD_eq_getD_getElem?, Array.getElem?_setIfInBounds_ne (Ne.symm hji), ← Array.getD_eq_getD_getElem?]
    simp [hji]
theorem ready_iff {l : List Oper} {listed : Array Bool} {i : Nat} (hs : listed.size = l.length) : i ∈ Region.ready .any l.toArray listed ↔ ∃ h : i < l.length, ¬ IsL listed i ∧ ∀ j ∈ preds l[i], IsL listed j := by
  simp only [Region.ready, List.mem_filter, List.mem_range, Bool.and_eq_true, Bool.not_eq_true', List.size_toArray]
  constructor
  · rintro ⟨h1, h2, h3⟩
    refine ⟨h1, (isL_f (by omega)).2 h2, fun j hj => ?_⟩
    obtain ⟨e, he, hb, rfl⟩ := mem_preds.1 hj
    simp only [List.getElem?_toArray, List.getElem?_eq_getElem h1, Option.map_some, Option.getD_some] at h3
    rw [Array.all_eq_true_iff_forall_mem] at h3
    have := h3 e he
    rw [hb] at this
    simpa [IsL] using this
  · rintro ⟨h1, h2, h3⟩
    refine ⟨h1, (isL_f (by omega)).1 h2, ?_⟩
    simp only [List.getElem?_toArray, List.getElem?_eq_getElem h1, Option.map_some, Option.getD_some]
    rw [Array.all_eq_true_iff_forall_mem]
    intro e he
    cases hb : Region.binds .any e with
    | false => rfl
    | true =>
      have := h3 e.on (mem_preds.2 ⟨e, he, hb, rfl⟩)
      simpa [IsL] using this

/-- The frame at the end of the quiet part: each quiet operation is shown at it. -/
theorem qlist_end {G : List Ent → Prop} {ops : Array Oper} : ∀ {l : List Oper} {F0 : Frame} {k : Frame → Prop}, QList P w0 N G ops l F0 k →
    (∀ (i : Nat) (o : Oper) (t : Nat), l[i]? = some o → t ∈ looks ops.toList o → ∀ (j : Nat) (o' : Oper), l[j]? = some o' → o'.dst = some t → j < i) →
    (∀ (i j : Nat) (o o' : Oper) (d : Nat), l[i]? = some o → l[j]? = some o' → o.dst = some d → o'.dst = some d → i = j) →
    ∃ F, k F ∧ (∀ t, (∀ o ∈ l, o.dst ≠ some t) → F t = F0 t) ∧ ∀ o ∈ l, ∃ d v, o.dst = some d ∧ Nat.blt d N = true ∧ F d = v ∧ QStep P w0 N G ops o F v
  | [], F0, k, h, _, _ => ⟨F0, h, fun _ _ => rfl, fun o ho => by cases ho⟩
  | o :: rest, F0, k, h, hl, hd => by
    obtain ⟨d, v, h1, h2, h3, h4⟩ := h
    obtain ⟨F, e1, e2, e3⟩ := qlist_end (l := rest) h4
      (fun i o2 t hi ht j o' hj hdj => by have := hl (i + 1) o2 t (by simpa using hi) ht (j + 1) o' (by simpa using hj) hdj; omega)
      (fun i j o1 o' d' hi hj h5 h6 => by have := hd (i + 1) (j + 1) o1 o' d' (by simpa using hi) (by simpa using hj) h5 h6; omega)
    have hFd : F d = v := by
      rw [e2 d fun o' ho' hd' => ?_, upd_same]
      obtain ⟨j, hj⟩ := List.mem_iff_getElem?.1 ho'
      have := hd 0 (j + 1) o o' d rfl (by simpa using hj) h1 hd'
      omega
    have hsame : ∀ t ∈ looks ops.toList o, F t = F0 t := by
      intro t ht
      have hne : t ≠ d := by
        intro e
        subst e
        have := hl 0 o t rfl ht 0 o rfl h1
        omega
      rw [e2 t fun o' ho' hd' => ?_, upd_ne _ _ hne]
      obtain ⟨j, hj⟩ := List.mem_iff_getElem?.1 ho'
      have := hl 0 o t rfl ht (j + 1) o' (by simpa using hj) hd'
      omega
    refine ⟨F, e1, fun t ht => ?_, fun o' ho' => ?_⟩
    · rw [e2 t fun o' ho' => ht o' (List.mem_cons_of_mem _ ho')]
      exact upd_ne _ _ (fun e => ht o (by simp) (e ▸ h1))
    · rcases List.mem_cons.1 ho' with rfl | ho'
      · refine ⟨d, v, h1, h2, hFd, ?_⟩
        have hev : ∀ x ∈ o'.op.operands, ev F x = ev F0 x := by
          intro x hx
          cases x with
          | tmp t => exact hsame t (by simp only [looks, List.mem_append, List.mem_filterMap]; exact .inl ⟨.tmp t, by simpa using hx, rfl⟩)
          | _ => rfl
        have up : ∀ {v : AV} {es}, QOp P w0 N o' F0 v es → QOp P w0 N o' F v es := fun hq f hf => hq f fun x hx => (hf x hx).trans (hev x hx)
        unfold QStep at h3 ⊢
        split at h3
        · rename_i hg
          exact fun es hes => up (h3 es hes)
        · rename_i j want hg
          obtain ⟨gd, g1, g2, g3⟩ := h3
          have hgd : F gd = F0 gd := by
            refine hsame gd ?_
            simp only [looks, List.mem_append, hg]
            right
            have g1' : (ops.toList[j]?).bind (·.dst) = some gd := by simpa using g1
            rw [g1']
            simp
          refine ⟨gd, g1, g2, ?_⟩
          rw [hgd]
          rcases g3 with g3 | g3
          · exact .inl ⟨g3.1, fun es hes => up (g3.2 es hes)⟩
          · exact .inr g3
      · exact e3 o' ho'
end
end Go.Proofs.YtfdgbghlanbddaaDoor.Av
