import Derived.Test.YtfdgbghlanbddaaDoorAvEnc
namespace Go.Proofs.YtfdgbghlanbddaaDoor.Av
/-- Where the first element lies of which p holds: -1 if nowhere. -/
def firstIdx {α : Type} (p : α → Bool) (l : List α) : Int := match l.findIdx? p with
  | some i => i
  | none => -1
theorem firstIdx_at {α : Type} {p : α → Bool} {l : List α} {k : Nat} (hk : k < l.length) (h : ∀ j (hj : j < k), p (l[j]'(by omega)) = false) (hp : p l[k] = true) : firstIdx p l = k := by
  unfold firstIdx
  have : l.findIdx? p = some k := by
    rw [List.findIdx?_eq_some_iff_getElem]
    exact ⟨hk, hp, fun j hj => by simp [h j hj]⟩
  rw [this]
theorem firstIdx_no {α : Type} {p : α → Bool} {l : List α} (h : ∀ j (hj : j < l.length), p l[j] = false) : firstIdx p l = -1 := by
  unfold firstIdx
  have : l.findIdx? p = none := by
    rw [List.findIdx?_eq_none_iff]
    intro x hx
    obtain ⟨j, hj, rfl⟩ := List.mem_iff_getElem.1 hx
    exact h j hj
  rw [this]
theorem firstIdx_ge {α : Type} (p : α → Bool) (l : List α) : decide (0 ≤ firstIdx p l) = l.any p := by
  unfold firstIdx
  cases h : l.findIdx? p with
  | some i =>
    rw [List.findIdx?_eq_some_iff_getElem] at h
    obtain ⟨hi, hp, _⟩ := h
    have : l.any p = true := List.any_eq_true.2 ⟨_, List.getElem_mem hi, hp⟩
    simp [this]
  | none =>
    rw [List.findIdx?_eq_none_iff] at h
    have : l.any p = false := by
      rw [List.any_eq_false]
      intro x hx
      simp [h x hx]
    rw [this]
    decide
theorem lt_succ_cases {k : Nat} {P : Nat → Prop} (h : ∀ j, j < k → P j) (hk : P k) : ∀ j, j < k + 1 → P j := by
  intro j hj
  rcases Nat.lt_or_eq_of_le (Nat.le_of_lt_succ hj) with h1 | h1
  · exact h j h1
  · exact h1 ▸ hk
end Go.Proofs.YtfdgbghlanbddaaDoor.Av
namespace Go.Proofs.YtfdgbghlanbddaaDoor.Av
/-! ### machines -/
def inN (n : Nf) (k : Int) : Bool := decide (0 ≤ k) && decide (k < n.st.length)
def okS (n : Nf) (s : St) : Bool := decide (s.free.length ≤ 8) && decide (s.to < n.st.length) && s.free.all (inN n)
def mayN (n : Nf) : Bool := decide (n.st.length ≤ 2000) && inN n n.start && inN n n.stop && n.st.all (okS n)
def lightN (n : Nf) (k : Int) : Bool := decide ((n.st.length : Int) ≤ k) && n.st.all fun s => decide (s.free.length ≤ 20)
def word (w0 w1 w2 w3 b : Int) : Int := if b < 64 then w0 else if b < 128 then w1 else if b < 192 then w2 else w3
def hasW (w0 w1 w2 w3 b : Int) : Bool := decide ((word w0 w1 w2 w3 b).fdiv (2 ^ (min (b % 64).toNat 64)) % 2 = 1)
def St.has (s : St) (b : Int) : Bool := hasW s.w0 s.w1 s.w2 s.w3 b
inductive Reach (n : Nf) (l : List Int) : Nat → Prop
  | base {i : Nat} : i < n.st.length → (i : Int) ∈ l → Reach n l i
  | step {i j : Nat} (h : i < n.st.length) : Reach n l i → (j : Int) ∈ (n.st[i]).free → j < n.st.length → Reach n l j
open Classical in
noncomputable def closed (n : Nf) (l : List Int) : List Int := ((List.range n.st.length).filter fun i => decide (Reach n l i)).map Int.ofNat
noncomputable def closeN (n : Nf) (l : List Int) : List Int := if mayN n then closed n l else []
def stepTo (n : Nf) (l : List Int) (b : Int) : List Int := l.filterMap fun k => if h : 0 ≤ k ∧ k.toNat < n.st.length then (if 0 ≤ (n.st[k.toNat]).to ∧ (n.st[k.toNat]).has b = true then some (n.st[k.toNat]).to else none) else none
noncomputable def stepped (n : Nf) (l : List Int) (b : Int) : List Int := closed n (stepTo n l b)
noncomputable def stepN (n : Nf) (l : List Int) (b : Int) : List Int := if mayN n then stepped n l b else []
noncomputable def runN (n : Nf) (w : List Int) : Bool := mayN n && (w.foldl (stepped n) (closed n [n.start])).contains n.stop
theorem take_all {α : Type} {p : α → Bool} {l : List α} {k : Nat} (hk : k < l.length) (h : (l.take k).all p = true) (hp : p l[k] = true) : (l.take (k + 1)).all p = true := by
  rw [List.take_add_one, List.getElem?_eq_getElem hk, List.all_append, h]
  simp [hp]
theorem all_no {α : Type} {p : α → Bool} {l : List α} {k : Nat} (hk : k < l.length) (hp : p l[k] = false) : l.all p = false := by
  rw [List.all_eq_false]
  exact ⟨_, List.getElem_mem hk, by simp [hp]⟩
end Go.Proofs.YtfdgbghlanbddaaDoor.Av
namespace Go.Proofs.YtfdgbghlanbddaaDoor.Av
theorem may_no1 {n : Nf} (h : 2000 < n.st.length ∨ (inN n n.start && inN n n.stop) = false) : mayN n = false := by
  unfold mayN
  rcases h with h | h
  · rw [show decide (n.st.length ≤ 2000) = false by simpa using h]; rfl
  · rw [Bool.and_assoc (decide _), h]; simp
theorem may_no2 {n : Nf} {k : Nat} (hk : k < n.st.length) (h : okS n n.st[k] = false) : mayN n = false := by
  unfold mayN
  rw [all_no hk h]
  simp
theorem may_yes {n : Nf} (h1 : n.st.length ≤ 2000) (h2 : inN n n.start = true) (h3 : inN n n.stop = true) (h4 : n.st.all (okS n) = true) : mayN n = true := by
  unfold mayN
  rw [h2, h3, h4, show decide (n.st.length ≤ 2000) = true by simpa using h1]; rfl
end Go.Proofs.YtfdgbghlanbddaaDoor.Av
