import Derived.Test.YtfdgbghlanbddaaDoorAvShut
import Derived.Test.YtfdgbghlanbddaaDoorRows
import Derived.OpenVars
import Derived.Deep.Slices
import Derived.Deep.Strs
import Derived.OpenShut
set_option linter.unusedVariables false
set_option linter.unusedSimpArgs false
namespace Go.Proofs.YtfdgbghlanbddaaDoor.Av
open Go.RowKit Go.Proofs Go.Proofs.YtfdgbghlanbddaaDoor Go.Deep
/-! ### what comes in -/
def start (W : World) : Core := ⟨W, fun _ => none, 0, fun b => b < W.heap.size⟩
theorem ok_start (W : World) : Ok W (start W) [] :=
  ⟨Below.refl _ _, fun b hb => hb, fun b hb => hb, fun id x h => by simp [at_] at h, fun i j s e sz rows s' e' sz' rows' g cap cap' h => by simp [at_] at h⟩
theorem bulk_one {H : Type} (d : DataW H) : 1 ≤ Rows.uptoBulk d := by
  cases d with
  | lit l => cases l <;> simp [Rows.uptoBulk]
  | nil => simp [Rows.uptoBulk]
  | ptr d => simp [Rows.uptoBulk]
  | slice elems spare => simp [Rows.uptoBulk]
  | agg parts => simp [Rows.uptoBulk]
  | iface t d => simp [Rows.uptoBulk]
  | map entries => simp [Rows.uptoBulk]
  | held h => simp [Rows.uptoBulk]
theorem bulk_part {H : Type} {d : DataW H} {l : List (DataW H)} (h : d ∈ l) : Rows.uptoBulk d ≤ Rows.uptoBulkAll l := by
  induction l with
  | nil => cases h
  | cons x r ih =>
    simp only [Rows.uptoBulkAll]
    cases List.mem_cons.1 h with
    | inl e => subst e; omega
    | inr e => have := ih e; omega
theorem bulk_len {H : Type} (l : List (DataW H)) : l.length ≤ Rows.uptoBulkAll l := by
  induction l with
  | nil => simp [Rows.uptoBulkAll]
  | cons x r ih => have := bulk_one x; simp only [Rows.uptoBulkAll, List.length_cons]; omega

theorem repRows_of {c : Core} {m : Option (List Ent)} {sz : Nat} : ∀ {rows : List (List AV)} {vs : List Value}, vs.length = rows.length * sz → (∀ i r, rows[i]? = some r → r.length = sz ∧ Reps c m r ((vs.drop (i * sz)).take sz)) → (∀ v ∈ vs, v.oneCell' = true) → RepRows c m sz rows vs
  | [], vs, hl, _, _ => by
    simp only [List.length_nil, Nat.zero_mul] at hl
    simp only [RepRows]
    exact List.length_eq_zero_iff.1 hl
  | r :: rs, vs, hl, h, ho => by
    simp only [RepRows]
    have h0 := h 0 r rfl
    simp only [Nat.zero_mul, List.drop_zero] at h0
    refine ⟨vs.take sz, vs.drop sz, (List.take_append_drop _ _).symm, h0.1, h0.2, fun v hv => ho v (List.mem_of_mem_take hv), repRows_of ?_ (fun i r' hr => ?_) fun v hv => ho v (List.mem_of_mem_drop hv)⟩
    · rw [List.length_drop, hl, List.length_cons, Nat.succ_mul]
      omega
    · have := h (i + 1) r' (by simpa using hr)
      rw [List.drop_drop]
      rw [show sz + i * sz = (i + 1) * sz by rw [Nat.succ_mul]; omega]
      exact this

/-- What a type's data are told as. -/
def RD {α : Type} (P : Program) (W : World) (t : TypeId) (sz : Nat) (en : α → List AV) (Q : α → Prop) : Prop :=
  ∀ (H : Type) (enc : TypeId × Value → H) (n : Nat) (cs : List Value) (x : DataW H × List MemPlace), DataW.trod enc P W 0 (fun _ => true) true n t cs = some x → Rows.uptoBulk x.1 ≤ 1048576 →
    ∃ a : α, Q a ∧ Reps (start W) none (en a) cs ∧ (en a).length = sz ∧ ∀ v ∈ cs, v.oneCell' = true
theorem addr_add (a : Addr) (p q : Nat) : (a.add p).add q = a.add (p + q) := by
  unfold Addr.add
  by_cases hp : p = 0
  · subst hp; simp
  · by_cases hq : q = 0
    · subst hq; simp [hp]
    · simp [hp, hq, Nat.add_assoc]
theorem cell_at {W : World} {a : Addr} {v : Value} (h : W.cell? a = some v) : a.spot = none ∧ a.block < W.heap.size := by
  unfold World.cell? at h
  split at h
  · rename_i hb
    constructor
    · cases hs : a.spot with
      | none => rfl
      | some k => rw [hs] at h; simp at h
    · exact (Array.getElem?_eq_some_iff.1 hb).1
  · cases h
theorem rd_int {P : Program} {W : World} {t : TypeId} {k : IntKind} (ht : P.underlying t = some (.int k)) : RD P W t 1 (fun n : Int => [AV.int k n]) (fun n => (Lit.int k n).wf = true) := by
  intro H enc n cs x h hb
  obtain ⟨m, rfl, rfl, hw⟩ := DataW.trod_int ht h
  exact ⟨m, hw, by simp only [Reps, Rep]; exact ⟨_, _, rfl, rfl, rfl⟩, rfl, by simp [Value.oneCell']⟩
theorem rd_slice {α : Type} [Inhabited α] {P : Program} {W : World} {t e : TypeId} {sz : Nat} {en : α → List AV} {Q : α → Prop} (ht : P.underlying t = some (.slice e)) (hc : P.cellsOf e = sz) (hsz : 0 < sz) (he : RD P W e sz en Q) :
    RD P W t 1 (fun l : List α => [AV.list sz (l.map en)]) (fun l => ∀ a ∈ l, Q a) := by
  intro H enc n cs x h hb
  rcases open_slice ht h with ⟨rfl, rfl⟩ | ⟨a, len, cap, m, n', D, Pl, rfl, _, hlc, _, hm, rfl, hi⟩
  · refine ⟨[], by simp, ?_, rfl, by simp [Value.oneCell']⟩
    simp only [Reps, Rep, List.map_nil]
    exact ⟨_, _, rfl, ⟨none, 0, [], rfl, Nat.le_refl _, Nat.zero_le _, by simp only [RepRows], fun e => absurd rfl e⟩, rfl⟩
  · simp only [if_true] at hm
    subst hm
    simp only [Rows.uptoBulk] at hb
    have hlen : len ≤ 1048576 := by
      have := bulk_len ((List.range len).map D)
      simp only [List.length_map, List.length_range] at this
      omega
    rw [hc] at hi
    have hA : ∀ i, i < len → ∃ b : α, Q b ∧ (en b).length = sz ∧ ∃ cs', W.cells? 0 (a.add (i * sz)) sz = some cs' ∧ Reps (start W) none (en b) cs' ∧ ∀ v ∈ cs', v.oneCell' = true := by
      intro i hil
      obtain ⟨cs', h1, h2⟩ := hi i (by omega)
      have hbi : Rows.uptoBulk (D i) ≤ 1048576 := by
        have := bulk_part (l := (List.range len).map D) (List.mem_map.2 ⟨i, List.mem_range.2 hil, rfl⟩)
        omega
      obtain ⟨b, hQ, hr, hl, ho⟩ := he H enc n' cs' (D i, Pl i) h2 hbi
      exact ⟨b, hQ, hl, cs', h1, hr, ho⟩
    obtain ⟨A, hA⟩ := choose_lt hA
    have hsome : ∀ i j, i < len → j < sz → ∃ v, W.cell? (a.add (i * sz + j)) = some v := by
      intro i j hil hj
      obtain ⟨_, _, cs', h1, _, _⟩ := hA i hil
      obtain ⟨_, hl, hcell⟩ := World.cells?_some h1
      have := hcell j hj
      rw [addr_add, List.getElem?_eq_getElem (by omega)] at this
      exact ⟨_, this⟩
    refine ⟨(List.range len).map A, fun b hb => ?_, ?_, rfl, by simp [Value.oneCell']⟩
    · obtain ⟨i, hil, rfl⟩ := List.mem_map.1 hb
      exact (hA i (List.mem_range.1 hil)).1
    · let vs : List Value := (List.range (len * sz)).map fun j => (W.cell? (a.add j)).getD undef
      have hget : ∀ j, j < len * sz → W.cell? (a.add j) = vs[j]? := by
        intro j hj
        have hdm := Nat.div_add_mod j sz
        obtain ⟨v, hv⟩ := hsome (j / sz) (j % sz) (by rw [Nat.div_lt_iff_lt_mul hsz]; exact hj) (Nat.mod_lt _ hsz)
        rw [show j / sz * sz + j % sz = j by rw [Nat.mul_comm]; exact hdm] at hv
        simp only [vs, List.getElem?_map, List.getElem?_range hj, Option.map_some, hv, Option.getD_some]
      have hrow : ∀ i, i < len → ∃ cs', (vs.drop (i * sz)).take sz = cs' ∧ Reps (start W) none (en (A i)) cs' ∧ ∀ v ∈ cs', v.oneCell' = true := by
        intro i hil
        obtain ⟨_, _, cs', h1, h2, h3⟩ := hA i hil
        obtain ⟨_, hl, hcell⟩ := World.cells?_some h1
        refine ⟨cs', ?_, h2, h3⟩
        refine List.ext_getElem? fun j => ?_
        rw [List.getElem?_take]
        by_cases hj : j < sz
        · rw [if_pos hj, List.getElem?_drop, ← hcell j hj, addr_add]
          have : i * sz + j < len * sz := by
            have : (i + 1) * sz ≤ len * sz := Nat.mul_le_mul_right _ hil
            rw [Nat.succ_mul] at this
            omega
          exact (hget _ this).symm
        · rw [if_neg hj, List.getElem?_eq_none (by omega)]
      have hone : ∀ v ∈ vs, v.oneCell' = true := by
        intro v hv
        obtain ⟨j, hj⟩ := List.mem_iff_getElem?.1 hv
        have hjl : j < len * sz := by
          have := (List.getElem?_eq_some_iff.1 hj).1
          simpa [vs] using this
        have hdm := Nat.div_add_mod j sz
        have hil : j / sz < len := by rw [Nat.div_lt_iff_lt_mul hsz]; exact hjl
        obtain ⟨cs', h1, _, h3⟩ := hrow (j / sz) hil
        refine h3 v (List.mem_of_getElem? (i := j % sz) ?_)
        rw [← h1, List.getElem?_take, if_pos (Nat.mod_lt _ hsz), List.getElem?_drop, show j / sz * sz + j % sz = j by rw [Nat.mul_comm]; exact hdm]
        exact hj
      have hrr : RepRows (start W) none sz (((List.range len).map A).map en) vs := by
        refine repRows_of (by simp [vs]) (fun i r hr => ?_) hone
        simp only [List.getElem?_map] at hr
        by_cases hil : i < len
        · rw [List.getElem?_range hil] at hr
          simp only [Option.map_some, Option.some.injEq] at hr
          subst hr
          obtain ⟨cs', h1, h2, _⟩ := hrow i hil
          rw [h1]
          exact ⟨(hA i hil).2.1, h2⟩
        · rw [List.getElem?_eq_none (by simpa using hil)] at hr
          cases hr
      simp only [Reps, Rep]
      refine ⟨_, _, rfl, ⟨some a, m, vs, by simp, by simpa using hlc, by simp [most]; omega, hrr, fun hne => ?_⟩, rfl⟩
      have hpos : 0 < len * sz := by
        rcases Nat.eq_zero_or_pos (len * sz) with h0 | h0
        · exact absurd (List.length_eq_zero_iff.1 (by simp [vs, h0])) hne
        · exact h0
      have hlen0 : 0 < len := Nat.pos_of_mul_pos_right hpos
      obtain ⟨v, hv⟩ := hsome 0 0 hlen0 hsz
      have hat := cell_at hv
      have ha0 : a.add (0 * sz + 0) = a := by simp [Addr.add]
      rw [ha0] at hat
      obtain ⟨b, o, sp⟩ := a
      simp only at hat
      obtain ⟨rfl, hbl⟩ := hat
      refine ⟨b, o, rfl, hbl, fun j hj => ?_⟩
      have := hget j (by simpa [vs] using hj)
      rw [← this]
      show W.cell? _ = W.cell? _
      congr 1
      unfold Addr.add
      split
      · rename_i h0; subst h0; rfl
      · rfl
end Go.Proofs.YtfdgbghlanbddaaDoor.Av
