import Derived.Test.YtfdgbghlanbddaaDoorAvPlain
namespace Go.Proofs.YtfdgbghlanbddaaDoor.Av
/-! ### how states are closed -/
def On (bs : List Bool) (i : Nat) : Prop := bs[i]? = some true
def meetB (bs : List Bool) (k : Int) : Bool := decide (0 ≤ k) && decide (k < bs.length) && !(bs.getD k.toNat true)
def meetS (bs : List Bool) (k : Int) : List Bool := if meetB bs k then bs.set k.toNat true else bs
def meetW (bs : List Bool) (ws : List Int) (k : Int) : List Int := if meetB bs k then ws ++ [k] else ws
/-- Which of a state's ways on must have been gone: of the state that is looked at, the first j. -/
def gone (n : Nf) (ex : Option (Nat × Nat)) (i : Nat) (h : i < n.st.length) : List Int :=
  match ex with
  | some (c, j) => if i = c then (n.st[i]).free.take j else (n.st[i]).free
  | none => (n.st[i]).free
structure CI (n : Nf) (l : List Int) (bs : List Bool) (ws : List Int) (done : List Int) (ex : Option (Nat × Nat)) : Prop where
  len : bs.length = n.st.length
  nodup : ws.Nodup
  cnt : ws.length ≤ bs.count true
  wait : ∀ w ∈ ws, 0 ≤ w ∧ On bs w.toNat
  sound : ∀ i, On bs i → Reach n l i
  roots : ∀ x ∈ done, 0 ≤ x → x.toNat < n.st.length → On bs x.toNat
  cur : ∀ c j, ex = some (c, j) → On bs c
  next : ∀ i (h : i < n.st.length), On bs i → (i : Int) ∉ ws → ∀ x ∈ gone n ex i h, 0 ≤ x → x.toNat < n.st.length → On bs x.toNat
theorem meetB_iff {bs : List Bool} {k : Int} : meetB bs k = true ↔ 0 ≤ k ∧ k.toNat < bs.length ∧ ¬ On bs k.toNat := by
  unfold meetB On
  simp only [Bool.and_eq_true, decide_eq_true_eq, Bool.not_eq_true', List.getD_eq_getElem?_getD]
  constructor
  · rintro ⟨⟨h1, h2⟩, h3⟩
    refine ⟨h1, by omega, fun h4 => ?_⟩
    rw [h4] at h3
    cases h3
  · rintro ⟨h1, h2, h3⟩
    refine ⟨⟨h1, by omega⟩, ?_⟩
    rw [List.getElem?_eq_getElem h2] at h3 ⊢
    simp only [Option.getD_some, Option.some.injEq, Bool.not_eq_true] at h3 ⊢
    exact h3
theorem on_lt {bs : List Bool} {i : Nat} (h : On bs i) : i < bs.length := (List.getElem?_eq_some_iff.1 h).1
theorem on_set {bs : List Bool} {i j : Nat} (h : i < bs.length) : On (bs.set i true) j ↔ j = i ∨ On bs j := by
  unfold On
  rw [List.getElem?_set]
  by_cases hij : i = j
  · subst hij; simp [h]
  · rw [if_neg hij]
    constructor
    · exact .inr
    · rintro (e | e)
      · exact absurd e.symm hij
      · exact e
theorem on_meet {bs : List Bool} {k : Int} {j : Nat} : On (meetS bs k) j ↔ (meetB bs k = true ∧ j = k.toNat) ∨ On bs j := by
  unfold meetS
  by_cases h : meetB bs k = true
  · rw [if_pos h, on_set (meetB_iff.1 h).2.1]; simp [h]
  · rw [if_neg h]; simp [h]
theorem on_met {bs : List Bool} {k : Int} (h0 : 0 ≤ k) (h1 : k.toNat < bs.length) : On (meetS bs k) k.toNat := by
  rw [on_meet]
  by_cases h : On bs k.toNat
  · exact .inr h
  · exact .inl ⟨meetB_iff.2 ⟨h0, h1, h⟩, rfl⟩
theorem meetS_len (bs : List Bool) (k : Int) : (meetS bs k).length = bs.length := by
  unfold meetS; split <;> simp
theorem meet_cnt {bs : List Bool} {ws : List Int} {k : Int} (h : ws.length ≤ bs.count true) : (meetW bs ws k).length ≤ (meetS bs k).count true := by
  unfold meetS meetW
  split
  · rename_i hm
    obtain ⟨h0, h1, h2⟩ := meetB_iff.1 hm
    rw [List.count_set h1]
    have : bs[k.toNat] = false := by
      unfold On at h2
      rw [List.getElem?_eq_getElem h1] at h2
      simpa using h2
    have e2 : (false == true) = false := rfl
    simp only [this, beq_self_eq_true, if_true, e2, Bool.false_eq_true, if_false, List.length_append, List.length_cons, List.length_nil]
    omega
  · exact h
theorem CI.meet {n : Nf} {l : List Int} {bs : List Bool} {ws done : List Int} {ex : Option (Nat × Nat)} (h : CI n l bs ws done ex) {k : Int} (hk : 0 ≤ k → k.toNat < n.st.length → Reach n l k.toNat) :
    CI n l (meetS bs k) (meetW bs ws k) done ex := by
  have mono : ∀ {i}, On bs i → On (meetS bs k) i := fun hi => on_meet.2 (.inr hi)
  refine ⟨by rw [meetS_len]; exact h.len, ?_, meet_cnt h.cnt, fun w hw => ?_, fun i hi => ?_, fun x hx h0 h1 => mono (h.roots x hx h0 h1), fun c j e => mono (h.cur c j e), fun i hi ho hw x hx h0 h1 => ?_⟩
  · unfold meetW
    split
    · rename_i hm
      rw [List.nodup_append]
      refine ⟨h.nodup, by simp, fun a ha b hb => ?_⟩
      simp only [List.mem_singleton] at hb
      subst hb
      rintro rfl
      exact (meetB_iff.1 hm).2.2 (h.wait _ ha).2
    · exact h.nodup
  · unfold meetW at hw
    split at hw
    · rename_i hm
      rcases List.mem_append.1 hw with h1 | h1
      · exact ⟨(h.wait w h1).1, mono (h.wait w h1).2⟩
      · simp only [List.mem_singleton] at h1
        subst h1
        have := meetB_iff.1 hm
        exact ⟨this.1, on_met this.1 this.2.1⟩
    · exact ⟨(h.wait w hw).1, mono (h.wait w hw).2⟩
  · rcases on_meet.1 hi with ⟨h1, rfl⟩ | h1
    · have := meetB_iff.1 h1
      exact hk this.1 (by rw [← h.len]; exact this.2.1)
    · exact h.sound i h1
  · have hiw : (i : Int) ∉ ws := by
      intro hin
      refine hw ?_
      unfold meetW
      split
      · exact List.mem_append_left _ hin
      · exact hin
    rcases on_meet.1 ho with ⟨h2, rfl⟩ | h2
    · exfalso
      refine hw ?_
      unfold meetW
      rw [if_pos h2]
      have := (meetB_iff.1 h2).1
      simp [Int.toNat_of_nonneg this]
    · exact mono (h.next i hi h2 hiw x hx h0 h1)
theorem CI.root {n : Nf} {l : List Int} {bs : List Bool} {ws : List Int} {j : Nat} (hj : j < l.length) (h : CI n l bs ws (l.take j) none) : CI n l (meetS bs l[j]) (meetW bs ws l[j]) (l.take (j + 1)) none := by
  have h2 := h.meet (k := l[j]) (fun h0 h1 => .base h1 (by rw [Int.toNat_of_nonneg h0]; exact List.getElem_mem hj))
  refine ⟨h2.len, h2.nodup, h2.cnt, h2.wait, h2.sound, fun x hx h0 h1 => ?_, h2.cur, h2.next⟩
  rw [List.take_add_one, List.getElem?_eq_getElem hj] at hx
  rcases List.mem_append.1 hx with h3 | h3
  · exact h2.roots x h3 h0 h1
  · simp only [Option.toList_some, List.mem_singleton] at h3
    subst h3
    exact on_met h0 (by rw [h.len]; exact h1)
theorem CI.way {n : Nf} {l : List Int} {bs : List Bool} {ws done : List Int} {c j : Nat} (hc : c < n.st.length) (hj : j < (n.st[c]).free.length) (h : CI n l bs ws done (some (c, j))) :
    CI n l (meetS bs (n.st[c]).free[j]) (meetW bs ws (n.st[c]).free[j]) done (some (c, j + 1)) := by
  have hR := h.sound c (h.cur c j rfl)
  have h2 := h.meet (k := (n.st[c]).free[j]) (fun h0 h1 => .step hc hR (by rw [Int.toNat_of_nonneg h0]; exact List.getElem_mem hj) h1)
  refine ⟨h2.len, h2.nodup, h2.cnt, h2.wait, h2.sound, h2.roots, fun c' j' e => ?_, fun i hi ho hw x hx h0 h1 => ?_⟩
  · injection e with e
    injection e with e1 e2
    subst e1
    exact h2.cur c j rfl
  · by_cases hic : i = c
    · subst hic
      simp only [gone, if_pos] at hx
      rw [List.take_add_one, List.getElem?_eq_getElem hj] at hx
      rcases List.mem_append.1 hx with h3 | h3
      · exact h2.next i hi ho hw x (by simpa only [gone, if_pos] using h3) h0 h1
      · simp only [Option.toList_some, List.mem_singleton] at h3
        subst h3
        exact on_met h0 (by rw [h.len]; exact h1)
    · exact h2.next i hi ho hw x (by simpa only [gone, if_neg hic] using hx) h0 h1
theorem CI.pop {n : Nf} {l : List Int} {bs : List Bool} {ws done : List Int} (hw : 0 < ws.length) (h : CI n l bs ws done none) : CI n l bs (ws.take (ws.length - 1)) done (some ((ws[ws.length - 1]).toNat, 0)) := by
  have hl : ws = ws.take (ws.length - 1) ++ [ws[ws.length - 1]] := by
    have := List.take_add_one (l := ws) (i := ws.length - 1)
    rw [List.getElem?_eq_getElem (by omega), show ws.length - 1 + 1 = ws.length by omega, List.take_length] at this
    exact this
  have hlast := h.wait (ws[ws.length - 1]) (List.getElem_mem _)
  have hsub : ∀ w ∈ ws.take (ws.length - 1), w ∈ ws := fun w hw => List.mem_of_mem_take hw
  refine ⟨h.len, h.nodup.sublist (List.take_sublist _ _), by rw [List.length_take]; have := h.cnt; omega, fun w hw => h.wait w (hsub w hw), h.sound, h.roots, fun c j e => ?_, fun i hi ho hiw x hx h0 h1 => ?_⟩
  · injection e with e
    injection e with e1 e2
    subst e1
    exact hlast.2
  · by_cases hic : i = (ws[ws.length - 1]).toNat
    · simp only [gone, if_pos hic, List.take_zero, List.not_mem_nil] at hx
    · refine h.next i hi ho ?_ x (by simpa only [gone, if_neg hic] using hx) h0 h1
      intro hin
      rw [hl] at hin
      rcases List.mem_append.1 hin with h3 | h3
      · exact hiw h3
      · simp only [List.mem_singleton] at h3
        exact hic (by omega)
theorem CI.full {n : Nf} {l : List Int} {bs : List Bool} {ws done : List Int} {c : Nat} (hc : c < n.st.length) (h : CI n l bs ws done (some (c, (n.st[c]).free.length))) : CI n l bs ws done none := by
  refine ⟨h.len, h.nodup, h.cnt, h.wait, h.sound, h.roots, fun c j e => (by cases e), fun i hi ho hiw x hx h0 h1 => h.next i hi ho hiw x ?_ h0 h1⟩
  simp only [gone] at hx ⊢
  split
  · rename_i e
    subst e
    rw [List.take_length]
    exact hx
  · exact hx
theorem CI.start (n : Nf) (l : List Int) : CI n l (List.replicate n.st.length false) [] (l.take 0) none := by
  have no : ∀ i, ¬ On (List.replicate n.st.length false) i := by
    intro i h
    unfold On at h
    rw [List.getElem?_replicate] at h
    split at h <;> cases h
  exact ⟨by simp, List.nodup_nil, Nat.zero_le _, fun w hw => by simp at hw, fun i hi => absurd hi (no i), fun x hx => by simp at hx, fun c j e => (by cases e), fun i hi ho => absurd ho (no i)⟩
theorem CI.done_ {n : Nf} {l : List Int} {bs : List Bool} (h : CI n l bs [] l none) (i : Nat) : On bs i ↔ Reach n l i := by
  refine ⟨h.sound i, fun hr => ?_⟩
  induction hr with
  | base hi hm => have := h.roots _ hm (by omega) (by simpa using hi); simpa using this
  | step hi _ hm hj ih =>
    have := h.next _ hi ih (by simp) _ hm (by omega) (by simpa using hj)
    simpa using this
/-- Those that are marked. -/
def marks (bs : List Bool) (k : Nat) : List Int := ((List.range k).filter fun i => bs.getD i false).map Int.ofNat
theorem marks_succ (bs : List Bool) (k : Nat) (h : k < bs.length) : marks bs (k + 1) = if bs[k] = true then marks bs k ++ [(k : Int)] else marks bs k := by
  unfold marks
  rw [List.range_succ, List.filter_append, List.map_append]
  rw [List.filter_cons, List.getD_eq_getElem?_getD, List.getElem?_eq_getElem h]
  simp only [Option.getD_some, List.filter_nil]
  split <;> simp
open Classical in
theorem marks_closed {n : Nf} {l : List Int} {bs : List Bool} (h : CI n l bs [] l none) : marks bs bs.length = closed n l := by
  unfold marks closed
  rw [h.len]
  congr 1
  refine List.filter_congr fun i hi => ?_
  have := h.done_ i
  unfold On at this
  rw [List.getD_eq_getElem?_getD]
  by_cases hr : Reach n l i
  · rw [this.2 hr]; simp [hr]
  · have h2 := mt this.1 hr
    simp only [hr, decide_false]
    cases hb : bs[i]? with
    | none => rfl
    | some b => cases b with
      | false => rfl
      | true => exact absurd hb h2
theorem marks_len (bs : List Bool) (k : Nat) : (marks bs k).length ≤ k := by
  unfold marks
  rw [List.length_map]
  exact Nat.le_trans (List.length_filter_le _ _) (by simp)
theorem CI.short {n : Nf} {l : List Int} {bs : List Bool} {ws done : List Int} {ex : Option (Nat × Nat)} (h : CI n l bs ws done ex) : ws.length ≤ n.st.length :=
  Nat.le_trans h.cnt (h.len ▸ List.count_le_length)
theorem meet_measure (bs : List Bool) (ws : List Int) (k : Int) : (meetS bs k).count false + (meetW bs ws k).length = bs.count false + ws.length := by
  unfold meetS meetW
  split
  · rename_i hm
    obtain ⟨h0, h1, h2⟩ := meetB_iff.1 hm
    rw [List.count_set h1]
    have : bs[k.toNat] = false := by
      unfold On at h2
      rw [List.getElem?_eq_getElem h1] at h2
      simpa using h2
    have hpos : 0 < bs.count false := List.count_pos_iff.2 (this ▸ List.getElem_mem h1)
    have e2 : (true == false) = false := rfl
    simp only [this, beq_self_eq_true, if_true, e2, Bool.false_eq_true, if_false, List.length_append, List.length_cons, List.length_nil]
    omega
  · rfl
end Go.Proofs.YtfdgbghlanbddaaDoor.Av
namespace Go.Proofs.YtfdgbghlanbddaaDoor.Av
theorem meet_yes {bs : List Bool} {k : Int} (h0 : 0 ≤ k) (h1 : k < bs.length) (h2 : bs[k.toNat]'(by omega) = false) : meetB bs k = true := by
  rw [meetB_iff]
  refine ⟨h0, by omega, fun h => ?_⟩
  unfold On at h
  rw [List.getElem?_eq_getElem (by omega), h2] at h
  cases h
theorem meet_no {bs : List Bool} {k : Int} (h : ¬ 0 ≤ k ∨ ¬ k < bs.length ∨ ∃ h, bs[k.toNat]'h = true) : meetB bs k = false := by
  rw [Bool.eq_false_iff]
  intro hm
  obtain ⟨h0, h1, h2⟩ := meetB_iff.1 hm
  rcases h with h | h | ⟨h, h3⟩
  · exact h h0
  · omega
  · exact h2 (by unfold On; rw [List.getElem?_eq_getElem h, h3])
end Go.Proofs.YtfdgbghlanbddaaDoor.Av
namespace Go.Proofs.YtfdgbghlanbddaaDoor.Av
open Classical in
theorem closed_len (n : Nf) (l : List Int) : (closed n l).length ≤ n.st.length := by
  unfold closed
  rw [List.length_map]
  exact Nat.le_trans (List.length_filter_le _ _) (by simp)
theorem stepTo_le (n : Nf) (l : List Int) (b : Int) : (stepTo n l b).length ≤ l.length := List.length_filterMap_le _ _
theorem light_no {n : Nf} {j : Nat} {k : Int} (h : k < n.st.length ∨ ∃ h : j < n.st.length, 20 < (n.st[j]).free.length) : lightN n k = false := by
  unfold lightN
  rcases h with h | ⟨hj, h⟩
  · rw [show decide ((n.st.length : Int) ≤ k) = false by simpa using h]; rfl
  · rw [all_no hj (by simpa using h)]; simp
theorem light_yes {n : Nf} {k : Int} (h : (n.st.length : Int) ≤ k) (h2 : (n.st.all fun s => decide (s.free.length ≤ 20)) = true) : lightN n k = true := by
  unfold lightN
  rw [h2, show decide ((n.st.length : Int) ≤ k) = true by simpa using h]; rfl
theorem same_no {a b : List Int} {k : Nat} (ha : k < a.length) (hb : k < b.length) (h : a[k] ≠ b[k]) : decide (a = b) = false := by
  simp only [decide_eq_false_iff_not]
  rintro rfl
  exact h rfl
theorem same_yes {a b : List Int} (hl : a.length = b.length) (h : ∀ j (h1 : j < a.length) (h2 : j < b.length), a[j] = b[j]) : decide (a = b) = true := by
  simp only [decide_eq_true_eq]
  exact List.ext_getElem hl fun i h1 h2 => h i h1 h2
/-- Where a byte leads from one state. -/
def stepOne (n : Nf) (b : Int) (k : Int) : Option Int := if h : 0 ≤ k ∧ k.toNat < n.st.length then (if 0 ≤ (n.st[k.toNat]).to ∧ (n.st[k.toNat]).has b = true then some (n.st[k.toNat]).to else none) else none
theorem stepTo_succ {n : Nf} {l : List Int} {b : Int} {k : Nat} (hk : k < l.length) : stepTo n (l.take (k + 1)) b = stepTo n (l.take k) b ++ (stepOne n b l[k]).toList := by
  unfold stepTo
  rw [List.take_add_one, List.getElem?_eq_getElem hk, List.filterMap_append]
  have : ∀ x : Int, List.filterMap (stepOne n b) (some x).toList = (stepOne n b x).toList := by
    intro x
    simp only [Option.toList_some, List.filterMap_cons, List.filterMap_nil]
    cases stepOne n b x <;> rfl
  rw [← this]
  rfl
theorem stepOne_yes {n : Nf} {b k : Int} (h0 : 0 ≤ k) (h1 : k.toNat < n.st.length) (h2 : 0 ≤ (n.st[k.toNat]).to) (h3 : (n.st[k.toNat]).has b = true) : stepOne n b k = some (n.st[k.toNat]).to := by
  unfold stepOne
  rw [dif_pos ⟨h0, h1⟩, if_pos ⟨h2, h3⟩]
theorem stepOne_no {n : Nf} {b k : Int} (h : ¬ 0 ≤ k ∨ ¬ k < n.st.length ∨ ∃ h : k.toNat < n.st.length, ¬ 0 ≤ (n.st[k.toNat]).to ∨ (n.st[k.toNat]).has b = false) : stepOne n b k = none := by
  unfold stepOne
  split
  · rename_i h1
    rw [if_neg]
    rintro ⟨h2, h3⟩
    rcases h with h | h | ⟨_, h | h⟩
    · exact h h1.1
    · omega
    · exact h h2
    · rw [h3] at h; cases h
  · rfl
/-! ### bits of a set -/
theorem quo64 {b : Int} (h0 : 0 ≤ b) (h1 : b < 256) : arithI .quo .u8 b 64 = some (b / 64) := by
  have : b.tdiv 64 = b / 64 := Int.tdiv_eq_ediv_of_nonneg h0
  simp only [arithI, this]
  rw [if_neg (by decide)]
  congr 1
  simp only [IntKind.wrap, IntKind.bits, IntKind.signed]
  simp
  omega
theorem rem64 {b : Int} (h0 : 0 ≤ b) : arithI .rem .u8 b 64 = some (b % 64) := by
  have : b.tmod 64 = b % 64 := Int.tmod_eq_emod_of_nonneg h0
  simp only [arithI, this]
  rw [if_neg (by decide)]
theorem and1 (x : Int) : arithI .and .u64 x 1 = some (x % 2) := by
  have h : (BitVec.ofInt IntKind.u64.bits x &&& BitVec.ofInt IntKind.u64.bits 1).toNat = (x % 2).toNat := by
    show (BitVec.ofInt 64 x &&& 1#64).toNat = _
    rw [BitVec.toNat_and, BitVec.toNat_ofInt]
    show (x % (2 ^ 64 : Nat)).toNat &&& 1 = _
    rw [Nat.and_one_is_mod]
    omega
  simp only [arithI, h]
  congr 1
  simp only [IntKind.wrap, IntKind.bits, IntKind.signed]
  simp
  omega
end Go.Proofs.YtfdgbghlanbddaaDoor.Av
namespace Go.Proofs.YtfdgbghlanbddaaDoor.Av
theorem may_le {n : Nf} (h : mayN n = true) : n.st.length ≤ 2000 := by
  unfold mayN at h
  simp only [Bool.and_eq_true, decide_eq_true_eq] at h
  exact h.1.1.1
theorem contains_any (l : List Int) (x : Int) : l.contains x = l.any fun y => decide (x = y) := by
  induction l with
  | nil => rfl
  | cons a t ih => rw [List.contains_cons, List.any_cons, ih]; rfl
theorem fold_len (n : Nf) : ∀ w : List Int, (w.foldl (stepped n) (closed n [n.start])).length ≤ n.st.length := by
  intro w
  rcases List.eq_nil_or_concat w with rfl | ⟨t, b, rfl⟩
  · exact closed_len n _
  · rw [List.concat_eq_append, List.foldl_append]
    exact closed_len n _
theorem fold_succ {n : Nf} {w : List Int} {k : Nat} (hk : k < w.length) : (w.take (k + 1)).foldl (stepped n) (closed n [n.start]) = stepped n ((w.take k).foldl (stepped n) (closed n [n.start])) w[k] := by
  rw [List.take_add_one, List.getElem?_eq_getElem hk, List.foldl_append]
  rfl
theorem word_at (c0 c1 c2 c3 : Int) {b : Int} (h0 : 0 ≤ b) (h1 : b < 256) : ∃ q : Nat, q < 4 ∧ b / 64 = (q : Int) ∧ loadAV false 1 [.int .u64 c0, .int .u64 c1, .int .u64 c2, .int .u64 c3] q = .int .u64 (word c0 c1 c2 c3 b) := by
  unfold word
  by_cases h2 : b < 64
  · exact ⟨0, by omega, by omega, by rw [if_pos h2]; rfl⟩
  · by_cases h3 : b < 128
    · exact ⟨1, by omega, by omega, by rw [if_neg h2, if_pos h3]; rfl⟩
    · by_cases h4 : b < 192
      · exact ⟨2, by omega, by omega, by rw [if_neg h2, if_neg h3, if_pos h4]; rfl⟩
      · exact ⟨3, by omega, by omega, by rw [if_neg h2, if_neg h3, if_neg h4]; rfl⟩
theorem word_nonneg {c0 c1 c2 c3 : Int} (h0 : 0 ≤ c0) (h1 : 0 ≤ c1) (h2 : 0 ≤ c2) (h3 : 0 ≤ c3) (b : Int) : 0 ≤ word c0 c1 c2 c3 b := by
  unfold word
  split
  · exact h0
  · split
    · exact h1
    · split
      · exact h2
      · exact h3
theorem shr_nonneg {x : Int} (h : 0 ≤ x) (k : Nat) : 0 ≤ x.fdiv (2 ^ k) := Int.fdiv_nonneg h (Int.le_of_lt (Int.pow_pos (by decide)))
theorem rem2 {x : Int} (h : 0 ≤ x) : arithI .rem .u64 x 2 = some (x % 2) := by
  have : x.tmod 2 = x % 2 := Int.tmod_eq_emod_of_nonneg h
  simp only [arithI, this]
  rw [if_neg (by decide)]
end Go.Proofs.YtfdgbghlanbddaaDoor.Av
