import Derived.Test.YtfdgbghlanbddaaDoorAvShut
namespace Go.Proofs.YtfdgbghlanbddaaDoor.Av
theorem Reach.lt {n : Nf} {l : List Int} {i : Nat} (h : Reach n l i) : i < n.st.length := by cases h <;> assumption
theorem Reach.mono {n : Nf} {l l' : List Int} (h : ∀ x ∈ l, x ∈ l') {i : Nat} (hr : Reach n l i) : Reach n l' i := by
  induction hr with
  | base hi hm => exact .base hi (h _ hm)
  | step hi _ hm hj ih => exact .step hi ih hm hj
theorem closed_mem {n : Nf} {l : List Int} {x : Int} : x ∈ closed n l ↔ ∃ i : Nat, x = i ∧ Reach n l i := by
  unfold closed
  simp only [List.mem_map, List.mem_filter, List.mem_range, decide_eq_true_eq]
  constructor
  · rintro ⟨i, ⟨_, h⟩, rfl⟩; exact ⟨i, rfl, h⟩
  · rintro ⟨i, rfl, h⟩; exact ⟨i, ⟨h.lt, h⟩, rfl⟩
theorem closed_mono {n : Nf} {l l' : List Int} (h : ∀ x ∈ l, x ∈ l') {x : Int} (hx : x ∈ closed n l) : x ∈ closed n l' := by
  obtain ⟨i, rfl, hr⟩ := closed_mem.1 hx
  exact closed_mem.2 ⟨i, rfl, hr.mono h⟩
theorem closed_sorted (n : Nf) (l : List Int) : (closed n l).Pairwise (· < ·) := by
  unfold closed
  rw [List.pairwise_map]
  exact (List.pairwise_lt_range.filter _).imp fun h => Int.ofNat_lt.2 h
theorem closed_closed (n : Nf) (l : List Int) : closed n (closed n l) = closed n l := by
  have : ∀ i, Reach n (closed n l) i ↔ Reach n l i := by
    intro i
    constructor
    · intro h
      induction h with
      | base hi hm =>
        obtain ⟨j, e, hr⟩ := closed_mem.1 hm
        have : j = _ := (Int.ofNat_inj.1 e).symm
        exact this ▸ hr
      | step hi _ hm hj ih => exact .step hi ih hm hj
    · exact fun h => .base h.lt (closed_mem.2 ⟨i, rfl, h⟩)
  have key : ∀ l' : List Int, (∀ i, Reach n l' i ↔ Reach n l i) → closed n l' = closed n l := by
    intro l' h
    unfold closed
    congr 1
    refine List.filter_congr fun i _ => ?_
    rw [Bool.eq_iff_iff]
    simp [h]
  exact key _ this
theorem closeN_any (n : Nf) (l m : List Int) {i : Nat} (hi : i < (closeN n l).length) : (closeN n (l ++ m)).any (fun z => decide ((closeN n l)[i] = z)) = true := by
  rw [List.any_eq_true]
  refine ⟨(closeN n l)[i], ?_, by simp⟩
  have hm := List.getElem_mem hi
  generalize (closeN n l)[i] = x at hm
  unfold closeN at hm ⊢
  split at hm
  · rename_i h
    rw [if_pos h]
    exact closed_mono (fun x hx => List.mem_append_left _ hx) hm
  · cases hm
theorem closeN_lt (n : Nf) (l : List Int) {i j : Nat} (hij : i < j) (hj : j < (closeN n l).length) : (closeN n l)[i] < (closeN n l)[j] := by
  have : (closeN n l).Pairwise (· < ·) := by
    unfold closeN
    split
    · exact closed_sorted n l
    · exact List.Pairwise.nil
  exact List.pairwise_iff_getElem.1 this i j (by omega) hj hij
theorem closeN_closeN (n : Nf) (l : List Int) : closeN n (closeN n l) = closeN n l := by
  unfold closeN
  split
  · exact closed_closed n l
  · rfl
theorem closeN_len (n : Nf) (l : List Int) : (closeN n l).length ≤ 2000 := by
  unfold closeN
  split
  · rename_i h
    exact Nat.le_trans (closed_len n l) (may_le h)
  · simp
theorem any_take {α : Type} {p : α → Bool} {l : List α} {k : Nat} (hk : k < l.length) : (l.take (k + 1)).any p = ((l.take k).any p || p l[k]) := by
  rw [List.take_add_one, List.getElem?_eq_getElem hk, List.any_append]
  simp
end Go.Proofs.YtfdgbghlanbddaaDoor.Av
