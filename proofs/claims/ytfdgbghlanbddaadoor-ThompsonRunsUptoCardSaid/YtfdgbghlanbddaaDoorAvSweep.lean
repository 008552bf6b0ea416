import Derived.Test.YtfdgbghlanbddaaDoorAvLaw8
namespace Go.Proofs.YtfdgbghlanbddaaDoor.Av
/-! ### the document's own closing -/
structure RI (n : Nf) (l : List Int) (bs : List Bool) : Prop where
  len : bs.length = n.st.length
  sound : ∀ i, On bs i → Reach n l i
  roots : ∀ x ∈ l, 0 ≤ x → x.toNat < n.st.length → On bs x.toNat
/-- One sweep under way: what was at its beginning, is there anything new, now, how far. -/
structure SW (n : Nf) (l : List Int) (bs0 : List Bool) (again : Bool) (bs : List Bool) (i k : Nat) : Prop where
  ri : RI n l bs
  le : bs.count false ≤ bs0.count false
  less : again = true → bs.count false < bs0.count false
  past : again = false → ∀ i' (h : i' < n.st.length), i' < i → On bs i' → ∀ x ∈ (n.st[i']).free, On bs x.toNat
  here : again = false → ∀ h : i < n.st.length, On bs i → ∀ x ∈ ((n.st[i]).free).take k, On bs x.toNat
theorem on_set_same {bs : List Bool} {i : Nat} (h : On bs i) : bs.set i true = bs := by
  unfold On at h
  refine List.ext_getElem? fun j => ?_
  rw [List.getElem?_set]
  split
  · rename_i e
    subst e
    rw [if_pos (List.getElem?_eq_some_iff.1 h).1, h]
  · rfl
theorem count_set_new {bs : List Bool} {i : Nat} (hi : i < bs.length) (h : bs[i] = false) : (bs.set i true).count false < bs.count false := by
  rw [List.count_set hi]
  have hpos : 0 < bs.count false := List.count_pos_iff.2 (h ▸ List.getElem_mem hi)
  have e2 : (true == false) = false := rfl
  simp only [h, beq_self_eq_true, if_true, e2, Bool.false_eq_true, if_false]
  omega
theorem SW.begin {n : Nf} {l : List Int} {bs : List Bool} (h : RI n l bs) : SW n l bs false bs 0 0 :=
  ⟨h, Nat.le_refl _, fun e => (by cases e), fun _ i' _ hi => absurd hi (Nat.not_lt_zero _), fun _ _ _ x hx => by simp at hx⟩
theorem SW.mark {n : Nf} {l : List Int} {bs0 bs : List Bool} {again : Bool} {i k : Nat} (hi : i < n.st.length) (hk : k < (n.st[i]).free.length) (h : SW n l bs0 again bs i k) (hon : On bs i) (h0 : 0 ≤ (n.st[i]).free[k]) (h1 : (n.st[i]).free[k].toNat < bs.length) :
    SW n l bs0 (again || !(bs[(n.st[i]).free[k].toNat])) (bs.set (n.st[i]).free[k].toNat true) i (k + 1) := by
  have hR := h.ri.sound i hon
  have hri : RI n l (bs.set (n.st[i]).free[k].toNat true) := by
    refine ⟨by rw [List.length_set]; exact h.ri.len, fun j hj => ?_, fun x hx hx0 hx1 => ?_⟩
    · rcases (on_set h1).1 hj with rfl | hj
      · exact .step hi hR (by rw [Int.toNat_of_nonneg h0]; exact List.getElem_mem hk) (by rw [← h.ri.len]; exact h1)
      · exact h.ri.sound j hj
    · exact (on_set h1).2 (.inr (h.ri.roots x hx hx0 hx1))
  by_cases hb : bs[(n.st[i]).free[k].toNat] = true
  · have hon2 : On bs (n.st[i]).free[k].toNat := by unfold On; rw [List.getElem?_eq_getElem h1, hb]
    rw [hb]
    simp only [Bool.not_true, Bool.or_false]
    rw [on_set_same hon2]
    refine ⟨h.ri, h.le, h.less, h.past, fun e hi' ho x hx => ?_⟩
    rw [List.take_add_one, List.getElem?_eq_getElem hk] at hx
    rcases List.mem_append.1 hx with hx | hx
    · exact h.here e hi' ho x hx
    · simp only [Option.toList_some, List.mem_singleton] at hx
      subst hx
      exact hon2
  · have hb' : bs[(n.st[i]).free[k].toNat] = false := by simpa using hb
    rw [hb']
    simp only [Bool.not_false, Bool.or_true]
    have hc := count_set_new h1 hb'
    exact ⟨hri, by have := h.le; omega, fun _ => by have := h.le; omega, fun e => (by cases e), fun e => (by cases e)⟩
theorem SW.next {n : Nf} {l : List Int} {bs0 bs : List Bool} {again : Bool} {i k : Nat} (hi : i < n.st.length) (h : SW n l bs0 again bs i k) (hd : k = (n.st[i]).free.length ∨ ¬ On bs i) : SW n l bs0 again bs (i + 1) 0 := by
  refine ⟨h.ri, h.le, h.less, fun e i' hi' hlt ho x hx => ?_, fun _ _ _ x hx => by simp at hx⟩
  rcases Nat.lt_or_eq_of_le (Nat.le_of_lt_succ hlt) with h1 | h1
  · exact h.past e i' hi' h1 ho x hx
  · subst h1
    rcases hd with rfl | hd
    · exact h.here e hi ho x (by rw [List.take_length]; exact hx)
    · exact absurd ho hd
theorem SW.fin {n : Nf} {l : List Int} {bs0 bs : List Bool} {k : Nat} (h : SW n l bs0 false bs n.st.length k) (i : Nat) : On bs i ↔ Reach n l i := by
  refine ⟨h.ri.sound i, fun hr => ?_⟩
  induction hr with
  | base hi hm => have := h.ri.roots _ hm (by omega) (by simpa using hi); simpa using this
  | step hi _ hm hj ih => have := h.past rfl _ hi hi ih _ hm; simpa using this
open Classical in
theorem marks_reach {n : Nf} {l : List Int} {bs : List Bool} (hl : bs.length = n.st.length) (h : ∀ i, On bs i ↔ Reach n l i) : marks bs bs.length = closed n l := by
  unfold marks closed
  rw [hl]
  congr 1
  refine List.filter_congr fun i hi => ?_
  have := h i
  unfold On at this
  rw [List.getD_eq_getElem?_getD]
  by_cases hr : Reach n l i
  · rw [this.2 hr]; simp [hr]
  · have h2 := mt this.1 hr
    simp only [hr, decide_false]
    cases hb : bs[i]? with
    | none => rfl
    | some b => cases b with
      | false => rfl
      | true => exact absurd hb h2
/-- The roots, one after the other. -/
structure RT (n : Nf) (l : List Int) (bs : List Bool) (j : Nat) : Prop where
  len : bs.length = n.st.length
  sound : ∀ i, On bs i → Reach n l i
  roots : ∀ x ∈ l.take j, 0 ≤ x → x.toNat < n.st.length → On bs x.toNat
theorem RT.begin (n : Nf) (l : List Int) : RT n l (List.replicate n.st.length false) 0 := by
  have no : ∀ i, ¬ On (List.replicate n.st.length false) i := by
    intro i h
    unfold On at h
    rw [List.getElem?_replicate] at h
    split at h <;> cases h
  exact ⟨by simp, fun i hi => absurd hi (no i), fun x hx => by simp at hx⟩
theorem RT.yes {n : Nf} {l : List Int} {bs : List Bool} {j : Nat} (h : RT n l bs j) (hj : j < l.length) (h0 : 0 ≤ l[j]) (h1 : l[j].toNat < bs.length) : RT n l (bs.set l[j].toNat true) (j + 1) := by
  refine ⟨by rw [List.length_set]; exact h.len, fun i hi => ?_, fun x hx hx0 hx1 => ?_⟩
  · rcases (on_set h1).1 hi with rfl | hi
    · exact .base (by rw [← h.len]; exact h1) (by rw [Int.toNat_of_nonneg h0]; exact List.getElem_mem hj)
    · exact h.sound i hi
  · rw [List.take_add_one, List.getElem?_eq_getElem hj] at hx
    rcases List.mem_append.1 hx with hx | hx
    · exact (on_set h1).2 (.inr (h.roots x hx hx0 hx1))
    · simp only [Option.toList_some, List.mem_singleton] at hx
      subst hx
      exact (on_set h1).2 (.inl rfl)
theorem RT.no {n : Nf} {l : List Int} {bs : List Bool} {j : Nat} (h : RT n l bs j) (hj : j < l.length) (hn : ¬ 0 ≤ l[j] ∨ ¬ l[j] < bs.length) : RT n l bs (j + 1) := by
  refine ⟨h.len, h.sound, fun x hx hx0 hx1 => ?_⟩
  rw [List.take_add_one, List.getElem?_eq_getElem hj] at hx
  rcases List.mem_append.1 hx with hx | hx
  · exact h.roots x hx hx0 hx1
  · simp only [Option.toList_some, List.mem_singleton] at hx
    subst hx
    have := h.len
    omega
theorem RT.fin {n : Nf} {l : List Int} {bs : List Bool} {j : Nat} (h : RT n l bs j) (hj : j = l.length) : RI n l bs := ⟨h.len, h.sound, fun x hx => h.roots x (by subst hj; rw [List.take_length]; exact hx)⟩
end Go.Proofs.YtfdgbghlanbddaaDoor.Av
namespace Go.Proofs.YtfdgbghlanbddaaDoor.Av
theorem may_free {n : Nf} (h : mayN n = true) {i k : Nat} (hi : i < n.st.length) (hk : k < (n.st[i]).free.length) : 0 ≤ (n.st[i]).free[k] ∧ (n.st[i]).free[k] < n.st.length := by
  unfold mayN at h
  simp only [Bool.and_eq_true, List.all_eq_true] at h
  have h2 := h.2 _ (List.getElem_mem hi)
  unfold okS at h2
  simp only [Bool.and_eq_true, List.all_eq_true] at h2
  have h3 := h2.2 _ (List.getElem_mem hk)
  unfold inN at h3
  simpa only [Bool.and_eq_true, decide_eq_true_eq] using h3
end Go.Proofs.YtfdgbghlanbddaaDoor.Av
