import Derived.Test.YtfdgbghlanbddaaDoorAvLaw5
namespace Go.Proofs.YtfdgbghlanbddaaDoor.Av
theorem closed_congr {n : Nf} {l l' : List Int} (h : ∀ i : Nat, i < n.st.length → ((i : Int) ∈ l ↔ (i : Int) ∈ l')) : closed n l = closed n l' := by
  have key : ∀ a b : List Int, (∀ i : Nat, i < n.st.length → ((i : Int) ∈ a → (i : Int) ∈ b)) → ∀ i, Reach n a i → Reach n b i := by
    intro a b hab i hr
    induction hr with
    | base hi hm => exact .base hi (hab _ hi hm)
    | step hi _ hm hj ih => exact .step hi ih hm hj
  unfold closed
  congr 1
  refine List.filter_congr fun i _ => ?_
  rw [Bool.eq_iff_iff]
  simp only [decide_eq_true_eq]
  exact ⟨key l l' (fun i hi => (h i hi).1) i, key l' l (fun i hi => (h i hi).2) i⟩
theorem goes_start {n : Nf} (hm : mayN n = true) (hs : n.st.length ≤ 40) : closeN n [n.start, -1, (n.st.length : Int), 1099511627776] = closed n [n.start] := by
  unfold closeN
  rw [if_pos hm]
  refine closed_congr fun i hi => ?_
  simp only [List.mem_cons, List.not_mem_nil, or_false]
  omega
theorem goes_step {n : Nf} (hm : mayN n = true) (l : List Int) (b : Int) : stepN n ([-5, (n.st.length : Int) + 9] ++ l) b = stepped n l b := by
  unfold stepN stepped
  rw [if_pos hm]
  congr 1
  unfold stepTo
  rw [List.filterMap_append]
  have h1 : List.filterMap (stepOne n b) [-5, (n.st.length : Int) + 9] = [] := by
    have a1 : stepOne n b (-5) = none := stepOne_no (.inl (by omega))
    have a2 : stepOne n b ((n.st.length : Int) + 9) = none := stepOne_no (.inr (.inl (by omega)))
    simp [a1, a2]
  show List.filterMap (stepOne n b) [-5, (n.st.length : Int) + 9] ++ _ = _
  rw [h1]
  rfl
theorem fold_mem {n : Nf} {w : List Int} {x : Int} (hx : x ∈ w.foldl (stepped n) (closed n [n.start])) : 0 ≤ x ∧ x < n.st.length := by
  have key : ∀ l, x ∈ closed n l → 0 ≤ x ∧ x < n.st.length := by
    intro l h
    obtain ⟨i, rfl, hr⟩ := closed_mem.1 h
    have := hr.lt
    omega
  rcases List.eq_nil_or_concat w with rfl | ⟨t, b, rfl⟩
  · exact key _ hx
  · rw [List.concat_eq_append, List.foldl_append] at hx
    exact key _ hx
theorem run_any {n : Nf} (hm : mayN n = true) (w : List Int) : runN n w = (w.foldl (stepped n) (closed n [n.start])).any fun z => decide (z = n.stop) := by
  unfold runN
  rw [hm, Bool.true_and, contains_any]
  congr 1
  funext z
  rw [Bool.eq_iff_iff]
  simp only [decide_eq_true_eq]
  exact eq_comm
end Go.Proofs.YtfdgbghlanbddaaDoor.Av
