import Derived.Test.YtfdgbghlanbddaaDoorAvG7
import Derived.Test.YtfdgbghlanbddaaDoorAvG4
set_option linter.unusedVariables false
set_option maxRecDepth 8000
namespace Go.Proofs.YtfdgbghlanbddaaDoor.Av
open Go.RowKit Go.Proofs
/-- Where no state leads on, nothing is come to. -/
theorem closed_lone {n : Nf} (h : ∀ s ∈ n.st, s.free = []) (l : List Int) : closed n l = ((List.range n.st.length).filter fun i : Nat => l.contains (i : Int)).map Int.ofNat := by
  unfold closed
  congr 1
  refine List.filter_congr fun i hi => ?_
  have hi' : i < n.st.length := List.mem_range.1 hi
  have : Reach n l i ↔ (i : Int) ∈ l := by
    constructor
    · intro hr
      cases hr with
      | base _ hm => exact hm
      | step hc _ hm _ => rw [h _ (List.getElem_mem hc)] at hm; cases hm
    · exact fun hm => .base hi' hm
  rw [Bool.eq_iff_iff]
  simp [this]
theorem lone_a : ∀ s ∈ nfA.st, s.free = [] := by decide
theorem may_a' : mayN nfA = true := by decide
theorem closed_a1 : closed nfA [1] = [1] := by rw [closed_lone lone_a]; decide
theorem closed_a0 : closed nfA [0] = [0] := by rw [closed_lone lone_a]; decide
theorem run_a1 : runN nfA [97] = true := by
  unfold runN
  rw [may_a', show nfA.start = 1 from rfl, closed_a1]
  simp only [List.foldl_cons, List.foldl_nil, stepped]
  rw [show stepTo nfA [1] 97 = [0] by decide, closed_a0]
  decide
theorem run_a0 : runN nfA [] = false := by
  unfold runN
  rw [may_a', show nfA.start = 1 from rfl, closed_a1]
  decide
theorem close_a' : closeN nfA [1] = [1] := by
  unfold closeN
  rw [may_a', if_pos rfl, closed_a1]
/-- Arguments told otherwise. -/
theorem ACalls.args {P : Program} {w0 : World} {fid : FuncId} {a b : List AV} {es : List Ent} {R : AV → List Ent → Prop} (h : ∀ (c : Core) (m : Option (List Ent)) (vs : List Value), Reps c m b vs → Reps c m a vs) (k : ACalls P w0 fid a es R) : ACalls P w0 fid b es R :=
  fun c vs ok rs => k c vs ok (h _ _ _ rs)
theorem nil2 {a : AV} {sz : Nat} (c : Core) (m : Option (List Ent)) (vs : List Value) (h : Reps c m [a, .nil] vs) : Reps c m [a, .list sz []] vs := by
  simp only [Reps] at h ⊢
  obtain ⟨v, vs', e, h1, v2, vs2, e2, h2, e3⟩ := h
  exact ⟨v, vs', e, h1, v2, vs2, e2, rep_nilTo sz h2, e3⟩
theorem may_a {w0 : World} {es : List Ent} : ACalls Tryd.prog w0 30 [nfA.av] es fun v es' => v = .bool true ∧ es' = es := by
  have := may (w0 := w0) (es := es) nfA
  rwa [may_a'] at this
theorem run_a {w0 : World} {es : List Ent} : ACalls Tryd.prog w0 31 [nfA.av, .list 1 [[.int .u8 97]]] es fun v es' => v = .bool true ∧ es' = es := by
  have := run_walk (w0 := w0) (es := es) nfA [97] (by decide)
  rwa [run_a1] at this
theorem run_an {w0 : World} {es : List Ent} : ACalls Tryd.prog w0 31 [nfA.av, .nil] es fun v es' => v = .bool false ∧ es' = es := by
  have := run_walk (w0 := w0) (es := es) nfA [] (by decide)
  rw [run_a0] at this
  exact this.args nil2
theorem close_a {w0 : World} {es : List Ent} : ACalls Tryd.prog w0 37 [nfA.av, .list 1 [[.int .i64 1]]] es fun v es' => v = .list 1 [[.int .i64 1]] ∧ es' = es := by
  have := close_walk (w0 := w0) (es := es) nfA [1]
  rwa [close_a'] at this
end Go.Proofs.YtfdgbghlanbddaaDoor.Av
