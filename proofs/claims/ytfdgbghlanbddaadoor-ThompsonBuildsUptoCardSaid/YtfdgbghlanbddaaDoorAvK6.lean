import Derived.Test.YtfdgbghlanbddaaDoorAvK0
import Derived.Test.YtfdgbghlanbddaaDoorAvK1
import Derived.Test.YtfdgbghlanbddaaDoorAvK2
import Derived.Test.YtfdgbghlanbddaaDoorAvK3
import Derived.Test.YtfdgbghlanbddaaDoorAvK4
import Derived.Test.YtfdgbghlanbddaaDoorAvK5
import Derived.Test.YtfdgbghlanbddaaDoorRows
import Derived.OpenVars
import Derived.Deep.Slices
import Derived.Deep.Strs
import Derived.OpenShut
import Derived.Test.YtfdgbghlanbddaaDoorCards
import Derived.Test.YtfdgbghlanbddaaDoorTie
import Derived.WalkKit
import Derived.ProofKit
import Derived.Carry
import Derived.Deep.DeepHandedRow
import Derived.Lib.LaidTab
import Derived.KernelRfl
set_option linter.unusedVariables false
set_option linter.unusedSimpArgs false
namespace Go.Proofs.YtfdgbghlanbddaaDoor.Av
/-! ### what the machine of an expression runs -/
/-- From a state to t, come to for the first time. -/
inductive PathTo (M : List St) (t : Nat) : Nat → List Int → Prop
  | done : PathTo M t t []
  | eps {i j : Nat} {w : List Int} {s : St} : M[i]? = some s → i ≠ t → (j : Int) ∈ s.free → PathTo M t j w → PathTo M t i w
  | byte {i j : Nat} {b : Int} {w : List Int} {s : St} : M[i]? = some s → i ≠ t → s.to = (j : Int) → s.has b = true → PathTo M t j w → PathTo M t i (b :: w)
def edgeIn (s : St) (P : Nat → Prop) : Prop := (∀ x ∈ s.free, ∃ j : Nat, x = (j : Int) ∧ P j) ∧ (s.to = -1 ∨ ∃ j : Nat, s.to = (j : Int) ∧ P j)
theorem edgeIn.mono {s : St} {P Q : Nat → Prop} (h : edgeIn s P) (k : ∀ j, P j → Q j) : edgeIn s Q :=
  ⟨fun x hx => (h.1 x hx).elim fun j hj => ⟨j, hj.1, k j hj.2⟩, h.2.elim .inl fun ⟨j, h1, h2⟩ => .inr ⟨j, h1, k j h2⟩⟩
structure Frag (M : List St) (a b f t : Nat) (L : List Int → Prop) : Prop where
  hf : a ≤ f ∧ f < b
  ht : a ≤ t ∧ t < b
  hb : b ≤ M.length
  cl : ∀ i s, M[i]? = some s → a ≤ i → i < b → i ≠ t → edgeIn s fun j => a ≤ j ∧ j < b
  la : ∀ w, PathTo M t f w ↔ L w
theorem path_agree {M M' : List St} {a b t : Nat} (cl : ∀ i s, M[i]? = some s → a ≤ i → i < b → i ≠ t → edgeIn s fun j => a ≤ j ∧ j < b) (e : ∀ i, a ≤ i → i < b → i ≠ t → M'[i]? = M[i]?) {i : Nat} {w : List Int} (h : PathTo M t i w) (h1 : a ≤ i) (h2 : i < b) : PathTo M' t i w := by
  induction h with
  | done => exact .done
  | @eps i j w s hs ht hm _ ih =>
    obtain ⟨k, e1, e2⟩ := (cl _ s hs h1 h2 ht).1 _ hm
    have : j = k := by omega
    subst this
    exact .eps (by rw [e _ h1 h2 ht]; exact hs) ht hm (ih e2.1 e2.2)
  | @byte i j b w s hs ht hm hh _ ih =>
    rcases (cl _ s hs h1 h2 ht).2 with e1 | ⟨k, e1, e2⟩
    · rw [hm] at e1; omega
    · have : j = k := by omega
      subst this
      exact .byte (by rw [e _ h1 h2 ht]; exact hs) ht hm hh (ih e2.1 e2.2)
theorem Frag.agree {M M' : List St} {a b f t : Nat} {L : List Int → Prop} (h : Frag M a b f t L) (hl : b ≤ M'.length) (e : ∀ i, a ≤ i → i < b → i ≠ t → M'[i]? = M[i]?) : Frag M' a b f t L := by
  have cl' : ∀ i s, M'[i]? = some s → a ≤ i → i < b → i ≠ t → edgeIn s fun j => a ≤ j ∧ j < b := fun i s hs h1 h2 h3 => h.cl i s (by rw [← e i h1 h2 h3]; exact hs) h1 h2 h3
  refine ⟨h.hf, h.ht, hl, cl', fun w => ?_⟩
  rw [← h.la]
  exact ⟨fun k => path_agree cl' (fun i h1 h2 h3 => (e i h1 h2 h3).symm) k h.hf.1 h.hf.2, fun k => path_agree h.cl e k h.hf.1 h.hf.2⟩
/-- On from a fragment's end. -/
theorem path_app {M : List St} {m t : Nat} {i : Nat} {u v : List Int} (h : PathTo M m i u) (k : PathTo M t m v) {P : Nat → Prop} (hp : ∀ i, P i → i ≠ m → i ≠ t) (hc : ∀ i s, M[i]? = some s → P i → i ≠ m → edgeIn s P) (hi : P i) : PathTo M t i (u ++ v) := by
  induction h with
  | done => exact k
  | @eps i j w s hs ht hm _ ih =>
    obtain ⟨x, e1, e2⟩ := (hc _ s hs hi ht).1 _ hm
    have : j = x := by omega
    subst this
    exact .eps hs (hp _ hi ht) hm (ih e2)
  | @byte i j b w s hs ht hm hh _ ih =>
    rcases (hc _ s hs hi ht).2 with e1 | ⟨x, e1, e2⟩
    · rw [hm] at e1; omega
    · have : j = x := by omega
      subst this
      exact .byte hs (hp _ hi ht) hm hh (ih e2)
/-- Whoever leaves a fragment comes by its end. -/
theorem path_cut {M : List St} {m t : Nat} {i : Nat} {w : List Int} (h : PathTo M t i w) {P : Nat → Prop} (hp : ∀ i, P i → i ≠ t) (hc : ∀ i s, M[i]? = some s → P i → i ≠ m → edgeIn s P) (hi : P i) : ∃ u v, w = u ++ v ∧ PathTo M m i u ∧ PathTo M t m v := by
  induction h with
  | done => exact absurd rfl (hp _ hi)
  | @eps i j w s hs ht hm hk ih =>
    by_cases him : i = m
    · subst him
      exact ⟨[], w, rfl, .done, .eps hs ht hm hk⟩
    · obtain ⟨x, e1, e2⟩ := (hc _ s hs hi him).1 _ hm
      have : j = x := by omega
      subst this
      obtain ⟨u, v, h1, h2, h3⟩ := ih e2
      exact ⟨u, v, h1, .eps hs him hm h2, h3⟩
  | @byte i j b w s hs ht hm hh hk ih =>
    by_cases him : i = m
    · subst him
      exact ⟨[], b :: w, rfl, .done, .byte hs ht hm hh hk⟩
    · rcases (hc _ s hs hi him).2 with e1 | ⟨x, e1, e2⟩
      · rw [hm] at e1; omega
      · have : j = x := by omega
        subst this
        obtain ⟨u, v, h1, h2, h3⟩ := ih e2
        exact ⟨b :: u, v, by rw [h1]; rfl, .byte hs him hm hh h2, h3⟩
/-- From a state that has ways alone. -/
theorem path_free {M : List St} {t i : Nat} {s : St} {w : List Int} (hs : M[i]? = some s) (ht : i ≠ t) (hto : s.to = -1) : PathTo M t i w ↔ ∃ j : Nat, (j : Int) ∈ s.free ∧ PathTo M t j w := by
  constructor
  · intro h
    cases h with
    | done => exact absurd rfl ht
    | @eps _ j _ s' hs' _ hm hk =>
      rw [hs] at hs'
      injection hs' with hs'
      subst hs'
      exact ⟨j, hm, hk⟩
    | @byte _ j _ _ s' hs' _ hm _ _ =>
      rw [hs] at hs'
      injection hs' with hs'
      subst hs'
      rw [hto] at hm; omega
  · rintro ⟨j, h1, h2⟩
    exact .eps hs ht h1 h2
theorem path_end {M : List St} {t : Nat} {w : List Int} (h : PathTo M t t w) : w = [] := by
  cases h with
  | done => rfl
  | eps _ hne _ _ => exact absurd rfl hne
  | byte _ hne _ _ _ => exact absurd rfl hne
theorem path_inv {M : List St} {t i : Nat} {s : St} {w : List Int} (h : PathTo M t i w) (ht : i ≠ t) (hs : M[i]? = some s) : (∃ j : Nat, (j : Int) ∈ s.free ∧ PathTo M t j w) ∨ ∃ (j : Nat) (b : Int) (v : List Int), w = b :: v ∧ s.to = (j : Int) ∧ s.has b = true ∧ PathTo M t j v := by
  cases h with
  | done => exact absurd rfl ht
  | @eps _ j _ s' hs' _ hm hk =>
    rw [hs] at hs'
    injection hs' with hs'
    subst hs'
    exact .inl ⟨j, hm, hk⟩
  | @byte _ j b v s' hs' _ hm hh hk =>
    rw [hs] at hs'
    injection hs' with hs'
    subst hs'
    exact .inr ⟨j, b, v, rfl, hm, hh, hk⟩
/-! ### pieces -/
theorem bFree_get {ns : List St} {i j k : Nat} : (bFree ns i j)[k]? = if k = i then (ns[k]?).map (addFree · j) else ns[k]? := by
  by_cases h : i < ns.length
  · rw [bFree_eq h, List.getElem?_set]
    by_cases hk : k = i
    · subst hk
      rw [if_pos rfl, if_pos h, if_pos rfl, List.getElem?_eq_getElem h]
      rfl
    · rw [if_neg (Ne.symm hk), if_neg hk]
  · have e : bFree ns i j = ns := by
      unfold bFree
      rw [List.getElem?_eq_none (show ns.length ≤ i by omega)]
    rw [e]
    by_cases hk : k = i
    · subst hk
      rw [if_pos rfl, List.getElem?_eq_none (by omega)]
      rfl
    · rw [if_neg hk]
structure Part (ns : List St) (p : List St × Nat × Nat) (L : List Int → Prop) : Prop where
  len : ns.length ≤ p.1.length
  old : ∀ i, i < ns.length → p.1[i]? = ns[i]?
  frag : Frag p.1 ns.length p.1.length p.2.1 p.2.2 L
  out : ∃ s, p.1[p.2.2]? = some s ∧ s.free = [] ∧ s.to = -1
  few : ∀ i s, p.1[i]? = some s → ns.length ≤ i → s.free.length ≤ 2
theorem get_lt {M : List St} {i : Nat} {s : St} (h : M[i]? = some s) : i < M.length := (List.getElem?_eq_some_iff.1 h).1
theorem app_old {a b : List St} {i : Nat} (h : i < a.length) : (a ++ b)[i]? = a[i]? := List.getElem?_append_left h
theorem app_0 {a : List St} {x : St} {t : List St} : (a ++ x :: t)[a.length]? = some x := by rw [List.getElem?_append_right (Nat.le_refl _)]; simp
theorem app_1 {a : List St} {x y : St} {t : List St} : (a ++ x :: y :: t)[a.length + 1]? = some y := by rw [List.getElem?_append_right (by omega)]; simp
/-- Three cases of a place in a list that was lengthened by two. -/
theorem app_two {a : List St} {x y s : St} {i : Nat} (h : (a ++ [x, y])[i]? = some s) (hi : a.length ≤ i) : (i = a.length ∧ s = x) ∨ (i = a.length + 1 ∧ s = y) := by
  have hl := get_lt h
  simp at hl
  by_cases h1 : i = a.length
  · subst h1; rw [app_0] at h; injection h with h; exact .inl ⟨rfl, h.symm⟩
  · have h2 : i = a.length + 1 := by omega
    subst h2; rw [app_1] at h; injection h with h; exact .inr ⟨rfl, h.symm⟩
theorem part_set (s : W4) (ns : List St) : Part ns (ns ++ [st0, ⟨s.w0, s.w1, s.w2, s.w3, (ns.length : Int), []⟩], ns.length + 1, ns.length) fun w => ∃ b, w = [b] ∧ s.hasI b = true := by
  have h1 : (ns ++ [st0, ⟨s.w0, s.w1, s.w2, s.w3, (ns.length : Int), []⟩])[ns.length + 1]? = some ⟨s.w0, s.w1, s.w2, s.w3, (ns.length : Int), []⟩ := app_1
  refine ⟨by simp, fun i hi => app_old hi, ⟨by simp, by simp, by simp, fun i x hx h2 h3 h4 => ?_, fun w => ?_⟩, ⟨st0, app_0, rfl, rfl⟩, fun i x hx h2 => ?_⟩
  · rcases app_two hx h2 with ⟨h5, _⟩ | ⟨h5, h6⟩
    · exact absurd h5 h4
    · subst h6
      exact ⟨fun y hy => by simp at hy, .inr ⟨ns.length, rfl, by simp⟩⟩
  · constructor
    · intro h
      rcases path_inv h (by dsimp only; omega) h1 with ⟨j, hj, _⟩ | ⟨j, b, v, rfl, hj, hb, hk⟩
      · simp at hj
      · have : j = ns.length := by simp at hj; omega
        subst this
        have := path_end hk
        subst this
        exact ⟨b, rfl, hb⟩
    · rintro ⟨b, rfl, hb⟩
      exact .byte h1 (by dsimp only; omega) rfl hb .done
  · rcases app_two hx h2 with ⟨_, h6⟩ | ⟨_, h6⟩ <;> (subst h6; simp [st0, stF])
theorem part_none (ns : List St) : Part ns (ns ++ [st0, st0], ns.length, ns.length + 1) fun _ => False := by
  have h1 : (ns ++ [st0, st0])[ns.length]? = some st0 := app_0
  refine ⟨by simp, fun i hi => app_old hi, ⟨by simp, by simp, by simp, fun i x hx h2 h3 h4 => ?_, fun w => ?_⟩, ⟨st0, app_1, rfl, rfl⟩, fun i x hx h2 => ?_⟩
  · rcases app_two hx h2 with ⟨_, h6⟩ | ⟨_, h6⟩ <;> (subst h6; exact ⟨fun y hy => by simp [st0, stF] at hy, .inl rfl⟩)
  · dsimp only
    rw [path_free h1 (by omega) rfl]
    simp [st0, stF]
  · rcases app_two hx h2 with ⟨_, h6⟩ | ⟨_, h6⟩ <;> (subst h6; simp [st0, stF])
theorem part_empty (ns : List St) : Part ns (bFree (ns ++ [st0, st0]) ns.length (ns.length + 1), ns.length, ns.length + 1) fun w => w = [] := by
  have hl : (bFree (ns ++ [st0, st0]) ns.length (ns.length + 1)).length = ns.length + 2 := by rw [bFree_len]; simp
  have h0 : (bFree (ns ++ [st0, st0]) ns.length (ns.length + 1))[ns.length]? = some (addFree st0 (ns.length + 1)) := by rw [bFree_get, if_pos rfl, app_0]; rfl
  have h1 : (bFree (ns ++ [st0, st0]) ns.length (ns.length + 1))[ns.length + 1]? = some st0 := by rw [bFree_get, if_neg (by omega), app_1]
  have two : ∀ i x, (bFree (ns ++ [st0, st0]) ns.length (ns.length + 1))[i]? = some x → ns.length ≤ i → (i = ns.length ∧ x = addFree st0 (ns.length + 1)) ∨ (i = ns.length + 1 ∧ x = st0) := by
    intro i x hx hi
    have := get_lt hx
    by_cases h : i = ns.length
    · subst h; rw [h0] at hx; injection hx with hx; exact .inl ⟨rfl, hx.symm⟩
    · have h2 : i = ns.length + 1 := by omega
      subst h2; rw [h1] at hx; injection hx with hx; exact .inr ⟨rfl, hx.symm⟩
  refine ⟨by dsimp only; omega, fun i hi => ?_, ⟨by dsimp only; omega, by dsimp only; omega, Nat.le_refl _, fun i x hx h2 h3 h4 => ?_, fun w => ?_⟩, ⟨st0, h1, rfl, rfl⟩, fun i x hx h2 => ?_⟩
  · dsimp only; rw [bFree_get, if_neg (by omega), app_old hi]
  · rcases two i x hx h2 with ⟨_, h6⟩ | ⟨h5, h6⟩
    · subst h6
      refine ⟨fun y hy => ?_, .inl rfl⟩
      simp [addFree, st0, stF] at hy
      exact ⟨ns.length + 1, hy, by omega, by dsimp only; omega⟩
    · exact absurd h5 h4
  · dsimp only
    rw [path_free h0 (by omega) rfl]
    constructor
    · rintro ⟨j, hj, hk⟩
      simp [addFree, st0, stF] at hj
      have : j = ns.length + 1 := by omega
      subst this
      exact path_end hk
    · rintro rfl
      exact ⟨ns.length + 1, by simp [addFree, st0, stF], .done⟩
  · rcases two i x hx h2 with ⟨_, h6⟩ | ⟨_, h6⟩ <;> (subst h6; simp [addFree, st0, stF])
theorem Part.congr {ns : List St} {p : List St × Nat × Nat} {L L' : List Int → Prop} (h : Part ns p L) (e : ∀ w, L w ↔ L' w) : Part ns p L' :=
  ⟨h.len, h.old, ⟨h.frag.hf, h.frag.ht, h.frag.hb, h.frag.cl, fun w => (h.frag.la w).trans (e w)⟩, h.out, h.few⟩
end Go.Proofs.YtfdgbghlanbddaaDoor.Av
set_option linter.unusedVariables false
set_option linter.unusedSimpArgs false
namespace Go.Proofs.YtfdgbghlanbddaaDoor.Av
/-! ### any number -/
theorem part_star {a : Rx} {ns : List St} {La : List Int → Prop} (h : Part (ns ++ [st0, st0]) (bPart a (ns ++ [st0, st0])) La) (t : List Rx) : Part ns (bStar (a :: t) ns) (Star La) := by
  rcases hq : bPart a (ns ++ [st0, st0]) with ⟨m, fi, out⟩
  rw [hq] at h
  have hbs : bStar (a :: t) ns = (bFree (bFree (bFree m ns.length fi) out ns.length) ns.length (ns.length + 1), ns.length, ns.length + 1) := by rw [bStar, hq]
  rw [hbs]
  have hml := h.len
  have hfi := h.frag.hf
  have hto := h.frag.ht
  obtain ⟨so, ho1, ho2, ho3⟩ := h.out
  simp only [List.length_append, List.length_cons, List.length_nil] at hml hfi hto
  dsimp only at hml hfi hto ho1
  let M := bFree (bFree (bFree m ns.length fi) out ns.length) ns.length (ns.length + 1)
  have hMl : M.length = m.length := by simp only [M, bFree_len]
  have hMf : M[ns.length]? = some (addFree (addFree st0 fi) (ns.length + 1)) := by
    simp only [M]
    rw [bFree_get, if_pos rfl, bFree_get, if_neg (by omega), bFree_get, if_pos rfl, h.old _ (by simp), app_0]
    rfl
  have hMo : M[out]? = some (addFree so ns.length) := by
    simp only [M]
    rw [bFree_get, if_neg (by omega), bFree_get, if_pos rfl, bFree_get, if_neg (by omega), ho1]
    rfl
  have hMt : M[ns.length + 1]? = some st0 := by
    simp only [M]
    rw [bFree_get, if_neg (by omega), bFree_get, if_neg (by omega), bFree_get, if_neg (by omega), h.old _ (by simp), app_1]
  have hMi : ∀ i, i ≠ ns.length → i ≠ out → M[i]? = m[i]? := by
    intro i h1 h2
    simp only [M]
    rw [bFree_get, if_neg h1, bFree_get, if_neg h2, bFree_get, if_neg h1]
  have hfr : Frag M (ns.length + 2) m.length fi out La := by
    have := h.frag.agree (M' := M) (by dsimp only; omega) (fun i h1 h2 h3 => hMi i (by simp at h1; omega) h3)
    simpa using this
  have hcl : ∀ i s, M[i]? = some s → ns.length + 2 ≤ i → i < m.length → i ≠ out → edgeIn s fun j => ns.length + 2 ≤ j ∧ j < m.length := fun i s hs h1 h2 h3 => hfr.cl i s hs h1 h2 h3
  have hcl2 : ∀ i s, M[i]? = some s → (ns.length + 2 ≤ i ∧ i < m.length) → i ≠ out → edgeIn s fun j => ns.length + 2 ≤ j ∧ j < m.length := fun i s hs h1 h3 => hfr.cl i s hs h1.1 h1.2 h3
  show Part ns (M, ns.length, ns.length + 1) _
  refine ⟨by dsimp only; omega, fun i hi => ?_, ⟨by dsimp only; omega, by dsimp only; omega, Nat.le_refl _, fun i s hs h1 h2 h3 => ?_, fun w => ?_⟩, ⟨st0, hMt, rfl, rfl⟩, fun i s hs h1 => ?_⟩
  · show M[i]? = _
    rw [hMi i (by omega) (by omega), h.old i (by simp; omega), app_old hi]
  · dsimp only at h2 h3 ⊢
    rw [hMl] at h2 ⊢
    by_cases h4 : i = ns.length
    · subst h4
      have e : M[ns.length]? = some s := hs
      rw [hMf] at e
      injection e with e
      subst e
      refine ⟨fun x hx => ?_, .inl rfl⟩
      simp [addFree, st0, stF] at hx
      rcases hx with rfl | rfl
      · exact ⟨fi, rfl, by omega⟩
      · exact ⟨ns.length + 1, rfl, by omega⟩
    · by_cases h5 : i = out
      · subst h5
        have e : M[i]? = some s := hs
        rw [hMo] at e
        injection e with e
        subst e
        refine ⟨fun x hx => ?_, .inl ho3⟩
        simp [addFree, ho2] at hx
        exact ⟨ns.length, hx, by omega⟩
      · exact (hcl i s hs (by omega) h2 h5).mono fun j hj => by omega
  · show PathTo M (ns.length + 1) ns.length w ↔ _
    constructor
    · intro hp
      have key : ∀ i w, PathTo M (ns.length + 1) i w → (i = ns.length → Star La w) ∧ ((ns.length + 2 ≤ i ∧ i < m.length) → ∃ u v, w = u ++ v ∧ PathTo M out i u ∧ Star La v) := by
        intro i w hp
        induction hp with
        | done => exact ⟨fun e => by omega, fun e => by omega⟩
        | @eps i j w s hs ht hm hk ih =>
          refine ⟨fun e => ?_, fun e => ?_⟩
          · subst e
            rw [hMf] at hs
            injection hs with hs
            subst hs
            simp [addFree, st0, stF] at hm
            rcases hm with hm | hm
            · have : j = fi := by omega
              subst this
              obtain ⟨u, v, rfl, h2, h3⟩ := ih.2 (by omega)
              exact .cons ((hfr.la u).1 h2) h3
            · have : j = ns.length + 1 := by omega
              subst this
              rw [path_end hk]
              exact .nil
          · by_cases h5 : i = out
            · subst h5
              rw [hMo] at hs
              injection hs with hs
              subst hs
              simp [addFree, ho2] at hm
              exact ⟨[], w, rfl, .done, ih.1 (by omega)⟩
            · obtain ⟨x, e1, e2⟩ := (hcl2 i s hs e h5).1 _ hm
              have : j = x := by omega
              subst this
              obtain ⟨u, v, h1, h2, h3⟩ := ih.2 e2
              exact ⟨u, v, h1, .eps hs h5 hm h2, h3⟩
        | @byte i j b w s hs ht hm hh hk ih =>
          refine ⟨fun e => ?_, fun e => ?_⟩
          · subst e
            rw [hMf] at hs
            injection hs with hs
            subst hs
            simp only [addFree, st0, stF] at hm
            omega
          · by_cases h5 : i = out
            · subst h5
              rw [hMo] at hs
              injection hs with hs
              subst hs
              simp only [addFree, ho3] at hm
              omega
            · rcases (hcl2 i s hs e h5).2 with e1 | ⟨x, e1, e2⟩
              · rw [hm] at e1; omega
              · have : j = x := by omega
                subst this
                obtain ⟨u, v, h1, h2, h3⟩ := ih.2 e2
                exact ⟨b :: u, v, by rw [h1]; rfl, .byte hs h5 hm hh h2, h3⟩
      exact (key _ _ hp).1 rfl
    · intro hs
      induction hs with
      | nil => exact .eps hMf (by omega) (by simp [addFree, st0, stF]) .done
      | @cons u v hu hv ih =>
        refine .eps (j := fi) hMf (by omega) (by simp [addFree, st0, stF]) ?_
        refine path_app ((hfr.la u).2 hu) (.eps (j := ns.length) hMo (by omega) (by simp [addFree, ho2]) ih) (P := fun j => ns.length + 2 ≤ j ∧ j < m.length) (fun i h1 _ => by omega) (fun i s hs h1 h2 => hcl2 i s hs h1 h2) (by omega)
  · have e : M[i]? = some s := hs
    by_cases h4 : i = ns.length
    · subst h4
      rw [hMf] at e
      injection e with e
      subst e
      simp [addFree, st0, stF]
    · by_cases h5 : i = out
      · subst h5
        rw [hMo] at e
        injection e with e
        subst e
        simp [addFree, ho2]
      · by_cases h6 : i = ns.length + 1
        · subst h6
          rw [hMt] at e
          injection e with e
          subst e
          simp [st0, stF]
        · rw [hMi i h4 h5] at e
          exact h.few i s e (by simp; omega)
/-! ### one behind the other -/
structure CQ (a : Nat) (n : List St) (f t : Nat) (L : List Int → Prop) : Prop where
  frag : Frag n a n.length f t L
  out : ∃ s, n[t]? = some s ∧ s.free = [] ∧ s.to = -1
  few : ∀ i s, n[i]? = some s → a ≤ i → s.free.length ≤ 2
theorem cat_one {a : Nat} {n : List St} {f t : Nat} {L Lx : List Int → Prop} {x : Rx} (h : CQ a n f t L) (k : Part n (bPart x n) Lx) :
    CQ a (bFree (bPart x n).1 t (bPart x n).2.1) f (bPart x n).2.2 (fun w => ∃ u v, w = u ++ v ∧ L u ∧ Lx v) ∧ (∀ i, i < a → (bFree (bPart x n).1 t (bPart x n).2.1)[i]? = n[i]?) ∧ n.length ≤ (bFree (bPart x n).1 t (bPart x n).2.1).length := by
  rcases hq : bPart x n with ⟨m, fi, out⟩
  rw [hq] at k
  have hml := k.len
  have hfi := k.frag.hf
  have hto := k.frag.ht
  obtain ⟨so, ho1, ho2, ho3⟩ := k.out
  obtain ⟨s0, hs1, hs2, hs3⟩ := h.out
  have hft := h.frag.ht
  have hff := h.frag.hf
  dsimp only at hml hfi hto ho1 ⊢
  let M := bFree m t fi
  have hMl : M.length = m.length := by simp only [M, bFree_len]
  have hMt : M[t]? = some (addFree s0 fi) := by
    simp only [M]
    rw [bFree_get, if_pos rfl, k.old t (by omega), hs1]
    rfl
  have hMi : ∀ i, i ≠ t → M[i]? = m[i]? := fun i h1 => by simp only [M]; rw [bFree_get, if_neg h1]
  have f1 : Frag M a n.length f t L := h.frag.agree (by omega) (fun i h1 h2 h3 => by rw [hMi i h3, k.old i h2])
  have f2 : Frag M n.length m.length fi out Lx := k.frag.agree (by dsimp only; omega) (fun i h1 h2 h3 => hMi i (by omega))
  refine ⟨⟨⟨by rw [bFree_len]; omega, by rw [bFree_len]; omega, Nat.le_refl _, fun i s hs h1 h2 h3 => ?_, fun w => ?_⟩, ⟨so, ?_, ho2, ho3⟩, fun i s hs h1 => ?_⟩, fun i hi => ?_, by rw [bFree_len]; exact hml⟩
  · rw [bFree_len] at h2 ⊢
    by_cases h4 : i = t
    · subst h4
      have e : M[i]? = some s := hs
      rw [hMt] at e
      injection e with e
      subst e
      refine ⟨fun y hy => ?_, .inl hs3⟩
      simp [addFree, hs2] at hy
      exact ⟨fi, hy, by omega⟩
    · by_cases h5 : i < n.length
      · exact (f1.cl i s hs h1 h5 h4).mono fun j hj => by omega
      · exact (f2.cl i s hs (by omega) h2 h3).mono fun j hj => by omega
  · show PathTo M out f w ↔ _
    constructor
    · intro hp
      obtain ⟨u, v, e, h2, h3⟩ := path_cut (m := t) hp (P := fun j => a ≤ j ∧ j < n.length) (fun i h1 => by omega) (fun i s hs h1 h2 => f1.cl i s hs h1.1 h1.2 h2) hff
      obtain ⟨j, hj, hk⟩ := (path_free hMt (by omega) hs3).1 h3
      simp [addFree, hs2] at hj
      have : j = fi := by omega
      subst this
      exact ⟨u, v, e, (f1.la u).1 h2, (f2.la v).1 hk⟩
    · rintro ⟨u, v, rfl, h1, h2⟩
      refine path_app ((f1.la u).2 h1) ((path_free hMt (by omega) hs3).2 ⟨fi, by simp [addFree, hs2], (f2.la v).2 h2⟩) (P := fun j => a ≤ j ∧ j < n.length) (fun i h1 _ => by omega) (fun i s hs h1 h2 => f1.cl i s hs h1.1 h1.2 h2) hff
  · show M[out]? = some so
    rw [hMi out (by omega)]; exact ho1
  · have e : M[i]? = some s := hs
    by_cases h4 : i = t
    · subst h4
      rw [hMt] at e
      injection e with e
      subst e
      simp [addFree, hs2]
    · rw [hMi i h4] at e
      by_cases h5 : i < n.length
      · rw [k.old i h5] at e
        exact h.few i s e h1
      · exact k.few i s e (by omega)
  · show M[i]? = _
    rw [hMi i (by omega), k.old i (by omega)]
/-! ### one of some -/
/-- A head of the row of states, in a machine that has more behind it. -/
theorem alt_head {T : Nat} {n M : List St} {x : Rx} {r : List Rx} {Lx : List Int → Prop} {X : List Int} {sh : St} (hT : T < n.length) (k : Part n (bPart x n) Lx) (hl : (bPart x n).1.length < M.length)
    (hag : ∀ i, n.length ≤ i → i < (bPart x n).1.length → M[i]? = (bFree (bPart x n).1 (bPart x n).2.2 T)[i]?) (hs : M[(bPart x n).1.length]? = some sh) (hs1 : sh.to = -1) (hs2 : sh.free = ((bPart x n).2.1 : Int) :: X)
    (hX : ∀ w, (∃ j : Nat, (j : Int) ∈ X ∧ PathTo M T j w) ↔ Rx.langAlt r w) (hx : ∀ w, Lx w ↔ x.lang w) :
    (∀ w, PathTo M T (bPart x n).1.length w ↔ Rx.langAlt (x :: r) w) ∧ (∀ i s, M[i]? = some s → n.length ≤ i → i < (bPart x n).1.length → edgeIn s (fun j => j = T ∨ (n.length ≤ j ∧ j < (bPart x n).1.length)) ∧ s.free.length ≤ 2) := by
  rcases hq : bPart x n with ⟨m, fi, out⟩
  rw [hq] at k hl hag hs hs2
  have hml := k.len
  have hfi := k.frag.hf
  have hto := k.frag.ht
  obtain ⟨so, ho1, ho2, ho3⟩ := k.out
  dsimp only at *
  have hMo : M[out]? = some (addFree so T) := by
    rw [hag out hto.1 hto.2, bFree_get, if_pos rfl, ho1]
    rfl
  have hMi : ∀ i, n.length ≤ i → i < m.length → i ≠ out → M[i]? = m[i]? := fun i h1 h2 h3 => by rw [hag i h1 h2, bFree_get, if_neg h3]
  have f2 : Frag M n.length m.length fi out Lx := k.frag.agree (by dsimp only; omega) (fun i h1 h2 h3 => hMi i h1 h2 h3)
  have hin : ∀ w, PathTo M T fi w ↔ x.lang w := by
    intro w
    rw [← hx, ← f2.la]
    constructor
    · intro hp
      obtain ⟨u, v, e, h2, h3⟩ := path_cut (m := out) hp (P := fun j => n.length ≤ j ∧ j < m.length) (fun i h1 => by omega) (fun i s hs h1 h2 => f2.cl i s hs h1.1 h1.2 h2) hfi
      obtain ⟨j, hj, hk⟩ := (path_free hMo (by omega) ho3).1 h3
      simp [addFree, ho2] at hj
      have : j = T := by omega
      subst this
      rw [path_end hk, List.append_nil] at e
      rw [e]; exact h2
    · intro hp
      have := path_app hp ((path_free hMo (by omega) ho3).2 ⟨T, by simp [addFree, ho2], .done⟩) (P := fun j => n.length ≤ j ∧ j < m.length) (t := T) (fun i h1 _ => by omega) (fun i s hs h1 h2 => f2.cl i s hs h1.1 h1.2 h2) hfi
      rwa [List.append_nil] at this
  refine ⟨fun w => ?_, fun i s hsi h1 h2 => ?_⟩
  · rw [path_free hs (by omega) hs1, hs2, langAlt_cons, ← hin, ← hX]
    constructor
    · rintro ⟨j, hj, hk⟩
      rcases List.mem_cons.1 hj with e | hj
      · have : j = fi := by omega
        subst this
        exact .inl hk
      · exact .inr ⟨j, hj, hk⟩
    · rintro (hk | ⟨j, hj, hk⟩)
      · exact ⟨fi, by simp, hk⟩
      · exact ⟨j, List.mem_cons.2 (.inr hj), hk⟩
  · by_cases h3 : i = out
    · subst h3
      rw [hMo] at hsi
      injection hsi with hsi
      subst hsi
      refine ⟨⟨fun y hy => ?_, .inl ho3⟩, by simp [addFree, ho2]⟩
      simp [addFree, ho2] at hy
      exact ⟨T, hy, .inl rfl⟩
    · refine ⟨(f2.cl i s hsi h1 h2 h3).mono fun j hj => .inr hj, ?_⟩
      rw [hMi i h1 h2 h3] at hsi
      exact k.few i s hsi h1
structure AR (T : Nat) (n : List St) (f l : Nat) (s0 : St) (r : List Rx) (p : List St × Nat × Nat) : Prop where
  f : p.2.1 = f
  t : p.2.2 = T
  len : n.length ≤ p.1.length
  old : ∀ i, i < n.length → i ≠ l → p.1[i]? = n[i]?
  last : ∃ X s1, p.1[l]? = some s1 ∧ s1.to = -1 ∧ s1.free = s0.free ++ X ∧ X.length ≤ 1 ∧ (∀ x ∈ X, ∃ j : Nat, x = (j : Int) ∧ n.length ≤ j ∧ j < p.1.length) ∧ ∀ w, (∃ j : Nat, (j : Int) ∈ X ∧ PathTo p.1 T j w) ↔ Rx.langAlt r w
  new : ∀ i s, p.1[i]? = some s → n.length ≤ i → edgeIn s (fun j => j = T ∨ (n.length ≤ j ∧ j < p.1.length)) ∧ s.free.length ≤ 2
theorem alt_nil {T f l : Nat} {n : List St} {s0 : St} (h : n[l]? = some s0) (h0 : s0.to = -1) : AR T n f l s0 [] (bAltGo [] n (some (f, l)) T) := by
  rw [bAltGo]
  refine ⟨rfl, rfl, Nat.le_refl _, fun i _ _ => rfl, ⟨[], s0, h, h0, by simp, by simp, by simp, fun w => ?_⟩, fun i s hs hi => ?_⟩
  · constructor
    · rintro ⟨j, hj, _⟩; simp at hj
    · exact fun e => absurd e (langAlt_nil w)
  · have := get_lt hs; dsimp only at this; omega
theorem alt_cons {T f l : Nat} {n : List St} {s0 : St} {x : Rx} {r : List Rx} (hT : T < n.length) (hl : l < n.length) (h : n[l]? = some s0) (h0 : s0.to = -1) (k : Part n (bPart x n) x.lang)
    (ih : ∀ n' s0', T < n'.length → (bPart x n).1.length < n'.length → n'[(bPart x n).1.length]? = some s0' → s0'.to = -1 → AR T n' f (bPart x n).1.length s0' r (bAltGo r n' (some (f, (bPart x n).1.length)) T)) : AR T n f l s0 (x :: r) (bAltGo (x :: r) n (some (f, l)) T) := by
  rw [bAltGo]
  rcases hq : bPart x n with ⟨m, fi, out⟩
  rw [hq] at ih
  have k' := k
  rw [hq] at k'
  have hml := k'.len
  have hfi := k'.frag.hf
  have hto := k'.frag.ht
  dsimp only at hml hfi hto ih ⊢
  let n3 := bFree (bFree m out T ++ [stF [(fi : Int)]]) l m.length
  have hn3 : n3.length = m.length + 1 := by simp [n3, bFree_len]
  have hlm : (bFree m out T).length = m.length := bFree_len _ _ _
  have h3s : n3[m.length]? = some (stF [(fi : Int)]) := by
    simp only [n3]
    rw [bFree_get, if_neg (by omega), ← hlm, app_0]
  have h3l : n3[l]? = some (addFree s0 m.length) := by
    simp only [n3]
    rw [bFree_get, if_pos rfl, app_old (by omega), bFree_get, if_neg (by omega), k'.old l hl, h]
    rfl
  have h3i : ∀ i, i < m.length → i ≠ l → n3[i]? = (bFree m out T)[i]? := fun i h1 h2 => by
    simp only [n3]
    rw [bFree_get, if_neg h2, app_old (by omega)]
  have A := ih n3 (stF [(fi : Int)]) (by omega) (by omega) h3s rfl
  obtain ⟨X, s1, a1, a2, a3, a4, a5, a6⟩ := A.last
  have hMlen := A.len
  rw [hn3] at hMlen
  have H := alt_head (T := T) (n := n) (M := (bAltGo r n3 (some (f, m.length)) T).1) (x := x) (r := r) (X := X) (sh := s1) hT k (by rw [hq]; dsimp only; omega)
    (fun i h1 h2 => by rw [hq] at h2 ⊢; dsimp only at h2 ⊢; rw [A.old i (by omega) (by omega), h3i i h2 (by omega)]) (by rw [hq]; exact a1) a2 (by rw [hq, a3]; rfl) a6 (fun w => Iff.rfl)
  rw [hq] at H
  dsimp only at H
  show AR T n f l s0 (x :: r) (bAltGo r n3 (some (f, m.length)) T)
  refine ⟨A.f, A.t, by omega, fun i h1 h2 => ?_, ⟨[(m.length : Int)], addFree s0 m.length, ?_, h0, rfl, by simp, fun y hy => ?_, fun w => ?_⟩, fun i s hs h1 => ?_⟩
  · rw [A.old i (by omega) (by omega), h3i i (by omega) h2, bFree_get, if_neg (by omega), k'.old i h1]
  · rw [A.old l (by omega) (by omega)]; exact h3l
  · simp at hy; exact ⟨m.length, hy, by omega, by omega⟩
  · rw [← H.1 w]
    constructor
    · rintro ⟨j, hj, hk⟩
      simp at hj
      have : j = m.length := by omega
      subst this
      exact hk
    · intro hk; exact ⟨m.length, by simp, hk⟩
  · rcases Nat.lt_trichotomy i m.length with h2 | h2 | h2
    · obtain ⟨b1, b2⟩ := H.2 i s hs h1 h2
      exact ⟨b1.mono fun j hj => by omega, b2⟩
    · subst h2
      rw [a1] at hs
      injection hs with hs
      subst hs
      refine ⟨⟨fun y hy => ?_, .inl a2⟩, by rw [a3]; simp [stF]; omega⟩
      rw [a3] at hy
      rcases List.mem_append.1 hy with hy | hy
      · simp [stF] at hy
        exact ⟨fi, hy, .inr (by omega)⟩
      · obtain ⟨j, e1, e2, e3⟩ := a5 y hy
        exact ⟨j, e1, .inr (by omega)⟩
    · obtain ⟨b1, b2⟩ := A.new i s hs (by omega)
      exact ⟨b1.mono fun j hj => by omega, b2⟩
theorem alt_first {x : Rx} {r : List Rx} {ns : List St} (k : Part (ns ++ [st0]) (bPart x (ns ++ [st0])) x.lang)
    (ih : ∀ n' f l s0', ns.length < n'.length → l < n'.length → n'[l]? = some s0' → s0'.to = -1 → AR ns.length n' f l s0' r (bAltGo r n' (some (f, l)) ns.length)) : Part ns (bAltGo (x :: r) (ns ++ [st0]) none ns.length) (Rx.langAlt (x :: r)) := by
  rw [bAltGo]
  rcases hq : bPart x (ns ++ [st0]) with ⟨m, fi, out⟩
  have k' := k
  rw [hq] at k'
  have hml := k'.len
  have hfi := k'.frag.hf
  have hto := k'.frag.ht
  simp only [List.length_append, List.length_cons, List.length_nil] at hml hfi hto
  dsimp only
  let n3 := bFree m out ns.length ++ [stF [(fi : Int)]]
  have hn3 : n3.length = m.length + 1 := by simp [n3, bFree_len]
  have hlm : (bFree m out ns.length).length = m.length := bFree_len _ _ _
  have h3s : n3[m.length]? = some (stF [(fi : Int)]) := by
    simp only [n3]
    rw [← hlm, app_0]
  have h3i : ∀ i, i < m.length → n3[i]? = (bFree m out ns.length)[i]? := fun i h1 => by
    simp only [n3]
    rw [app_old (by omega)]
  have A := ih n3 m.length m.length (stF [(fi : Int)]) (by omega) (by omega) h3s rfl
  obtain ⟨X, s1, a1, a2, a3, a4, a5, a6⟩ := A.last
  have hMlen := A.len
  rw [hn3] at hMlen
  have H := alt_head (T := ns.length) (n := ns ++ [st0]) (M := (bAltGo r n3 (some (m.length, m.length)) ns.length).1) (x := x) (r := r) (X := X) (sh := s1) (by simp) k (by rw [hq]; dsimp only; omega)
    (fun i h1 h2 => by rw [hq] at h2 ⊢; dsimp only at h2 ⊢; rw [A.old i (by omega) (by omega), h3i i h2]) (by rw [hq]; exact a1) a2 (by rw [hq, a3]; rfl) a6 (fun w => Iff.rfl)
  rw [hq] at H
  simp only [List.length_append, List.length_cons, List.length_nil] at H
  have hMT : (bAltGo r n3 (some (m.length, m.length)) ns.length).1[ns.length]? = some st0 := by
    rw [A.old ns.length (by omega) (by omega), h3i _ (by omega), bFree_get, if_neg (by omega), k'.old _ (by simp), app_0]
  have new : ∀ i s, (bAltGo r n3 (some (m.length, m.length)) ns.length).1[i]? = some s → ns.length ≤ i → edgeIn s (fun j => ns.length ≤ j ∧ j < (bAltGo r n3 (some (m.length, m.length)) ns.length).1.length) ∧ s.free.length ≤ 2 := by
    intro i s hs h1
    by_cases h0 : i = ns.length
    · subst h0
      rw [hMT] at hs
      injection hs with hs
      subst hs
      exact ⟨⟨fun y hy => by simp [st0, stF] at hy, .inl rfl⟩, by simp [st0, stF]⟩
    rcases Nat.lt_trichotomy i m.length with h2 | h2 | h2
    · obtain ⟨b1, b2⟩ := H.2 i s hs (by omega) h2
      exact ⟨b1.mono fun j hj => by omega, b2⟩
    · subst h2
      rw [a1] at hs
      injection hs with hs
      subst hs
      refine ⟨⟨fun y hy => ?_, .inl a2⟩, by rw [a3]; simp [stF]; omega⟩
      rw [a3] at hy
      rcases List.mem_append.1 hy with hy | hy
      · simp [stF] at hy
        exact ⟨fi, hy, by omega⟩
      · obtain ⟨j, e1, e2, e3⟩ := a5 y hy
        exact ⟨j, e1, by omega⟩
    · obtain ⟨b1, b2⟩ := A.new i s hs (by omega)
      exact ⟨b1.mono fun j hj => by omega, b2⟩
  have e1 : bAltGo r n3 (some (m.length, m.length)) ns.length = ((bAltGo r n3 (some (m.length, m.length)) ns.length).1, m.length, ns.length) := by
    rw [← A.f, ← A.t]
    have := A.f
    have := A.t
    ext1
    · simp_all
    · ext1 <;> simp_all
  show Part ns (bAltGo r n3 (some (m.length, m.length)) ns.length) _
  rw [e1]
  refine ⟨by dsimp only; omega, fun i hi => ?_, ⟨by dsimp only; omega, by dsimp only; omega, Nat.le_refl _, fun i s hs h1 h2 h3 => (new i s hs h1).1, fun w => H.1 w⟩, ⟨st0, hMT, rfl, rfl⟩, fun i s hs h1 => (new i s hs h1).2⟩
  dsimp only
  rw [A.old i (by omega) (by omega), h3i i (by omega), bFree_get, if_neg (by omega), k'.old i (by simp; omega), app_old hi]
end Go.Proofs.YtfdgbghlanbddaaDoor.Av
set_option linter.unusedVariables false
set_option linter.unusedSimpArgs false
namespace Go.Proofs.YtfdgbghlanbddaaDoor.Av
theorem Part.cq {n : List St} {p : List St × Nat × Nat} {L : List Int → Prop} (h : Part n p L) : CQ n.length p.1 p.2.1 p.2.2 L := ⟨h.frag, h.out, h.few⟩
theorem right_star {k : Int} {s : W4} {l : List Rx} (h : right k s l = true) (hk : k = 6) : l.length = 1 := by
  subst hk
  simp [right] at h
  exact h.1.2
theorem right_ne {k : Int} {s : W4} {l : List Rx} (h : right k s l = true) (hk : k = 4 ∨ k = 5) : l ≠ [] := by
  rintro rfl
  rcases hk with rfl | rfl <;> simp [right] at h
mutual
theorem part_all : ∀ (r : Rx) (ns : List St), r.plain = true → Part ns (bPart r ns) r.lang
  | .mk k s l, ns, h => by
    simp only [Rx.plain, Bool.and_eq_true] at h
    have hk := right_kinds h.1
    rw [bPart]
    by_cases h3 : k = 3
    · rw [if_pos h3]
      exact (part_set s ns).congr fun w => by rw [kind_3 (r := .mk k s l) h3]; rfl
    · rw [if_neg h3]
      by_cases h4 : k = 4
      · rw [if_pos h4]
        exact (cat_list l ns h.2 (right_ne h.1 (.inl h4))).congr fun w => by rw [kind_4 (r := .mk k s l) h4]; rfl
      · rw [if_neg h4]
        by_cases h5 : k = 5
        · rw [if_pos h5]
          exact (alt_list l ns h.2 (right_ne h.1 (.inr h5))).congr fun w => by rw [← kind_5 (r := .mk k s l) h5]; rfl
        · rw [if_neg h5]
          by_cases h6 : k = 6
          · rw [if_pos h6]
            exact (star_list l ns h.2 (right_star h.1 h6)).congr fun w => by rw [kind_6 (r := .mk k s l) h6]; rfl
          · rw [if_neg h6]
            by_cases h2 : k = 2
            · rw [if_pos h2]
              exact (part_empty ns).congr fun w => by rw [kind_2 (r := .mk k s l) h2]
            · rw [if_neg h2]
              exact (part_none ns).congr fun w => ⟨fun e => e.elim, fun e => kind_0 (r := .mk k s l) ⟨h2, h3, h4, h5, h6⟩ w e⟩
theorem star_list : ∀ (l : List Rx) (ns : List St), Rx.plainL l = true → l.length = 1 → Part ns (bStar l ns) (Star (Rx.langOne l))
  | [], _, _, h => by simp at h
  | a :: t, ns, h, hl => by
    simp only [Rx.plainL, Bool.and_eq_true] at h
    have ht : t = [] := by simpa using hl
    subst ht
    refine part_star (Part.congr (part_all a (ns ++ [st0, st0]) h.1) fun w => ?_) []
    rw [langOne_iff]
    simp
theorem cat_list : ∀ (l : List Rx) (ns : List St), Rx.plainL l = true → l ≠ [] → Part ns (bCat l ns) (Rx.langCat l)
  | [], _, _, h => absurd rfl h
  | a :: t, ns, h, _ => by
    simp only [Rx.plainL, Bool.and_eq_true] at h
    have P := part_all a ns h.1
    rw [bCat]
    obtain ⟨c1, c2, c3⟩ := cat_all t (bPart a ns).1 ns.length (bPart a ns).2.1 (bPart a ns).2.2 a.lang h.2 P.cq
    refine ⟨Nat.le_trans P.len c3, fun i hi => (c2 i hi).trans (P.old i hi), ⟨c1.frag.hf, c1.frag.ht, c1.frag.hb, c1.frag.cl, fun w => (c1.frag.la w).trans (langCat_cons a t w).symm⟩, c1.out, c1.few⟩
theorem cat_all : ∀ (l : List Rx) (n : List St) (a f t : Nat) (L : List Int → Prop), Rx.plainL l = true → CQ a n f t L →
    CQ a (bCatGo l n f t).1 (bCatGo l n f t).2.1 (bCatGo l n f t).2.2 (fun w => ∃ u v, w = u ++ v ∧ L u ∧ Rx.langCat l v) ∧ (∀ i, i < a → (bCatGo l n f t).1[i]? = n[i]?) ∧ n.length ≤ (bCatGo l n f t).1.length
  | [], n, a, f, t, L, _, h => by
    rw [bCatGo]
    refine ⟨⟨⟨h.frag.hf, h.frag.ht, h.frag.hb, h.frag.cl, fun w => (h.frag.la w).trans ?_⟩, h.out, h.few⟩, fun _ _ => rfl, Nat.le_refl _⟩
    constructor
    · intro hw; exact ⟨w, [], by simp, hw, (langCat_nil _).2 rfl⟩
    · rintro ⟨u, v, rfl, h1, h2⟩
      rw [langCat_nil] at h2
      subst h2
      simpa using h1
  | x :: r, n, a, f, t, L, hp, h => by
    simp only [Rx.plainL, Bool.and_eq_true] at hp
    obtain ⟨d1, d2, d3⟩ := cat_one h (part_all x n hp.1)
    obtain ⟨c1, c2, c3⟩ := cat_all r (bFree (bPart x n).1 t (bPart x n).2.1) a f (bPart x n).2.2 _ hp.2 d1
    rw [bCatGo]
    refine ⟨⟨⟨c1.frag.hf, c1.frag.ht, c1.frag.hb, c1.frag.cl, fun w => (c1.frag.la w).trans ?_⟩, c1.out, c1.few⟩, fun i hi => (c2 i hi).trans (d2 i hi), Nat.le_trans d3 c3⟩
    constructor
    · rintro ⟨_, v, rfl, ⟨u1, u2, rfl, h1, h2⟩, h3⟩
      exact ⟨u1, u2 ++ v, by rw [List.append_assoc], h1, (langCat_cons _ _ _).2 ⟨u2, v, rfl, h2, h3⟩⟩
    · rintro ⟨u, v, rfl, h1, h2⟩
      obtain ⟨v1, v2, rfl, h3, h4⟩ := (langCat_cons _ _ _).1 h2
      exact ⟨u ++ v1, v2, by rw [List.append_assoc], ⟨u, v1, rfl, h1, h3⟩, h4⟩
theorem alt_list : ∀ (l : List Rx) (ns : List St), Rx.plainL l = true → l ≠ [] → Part ns (bAltGo l (ns ++ [st0]) none ns.length) (Rx.langAlt l)
  | [], _, _, h => absurd rfl h
  | x :: r, ns, h, _ => by
    simp only [Rx.plainL, Bool.and_eq_true] at h
    exact alt_first (part_all x (ns ++ [st0]) h.1) fun n' f l s0' h1 h2 h3 h4 => alt_all r n' f l ns.length s0' h.2 h1 h2 h3 h4
theorem alt_all : ∀ (r : List Rx) (n : List St) (f l T : Nat) (s0 : St), Rx.plainL r = true → T < n.length → l < n.length → n[l]? = some s0 → s0.to = -1 → AR T n f l s0 r (bAltGo r n (some (f, l)) T)
  | [], n, f, l, T, s0, _, _, _, h3, h4 => alt_nil h3 h4
  | x :: r, n, f, l, T, s0, h, h1, h2, h3, h4 => by
    simp only [Rx.plainL, Bool.and_eq_true] at h
    exact alt_cons h1 h2 h3 h4 (part_all x n h.1) fun n' s0' g1 g2 g3 g4 => alt_all r n' f (bPart x n).1.length T s0' h.2 g1 g2 g3 g4
end
/-! ### how great it is -/
mutual
theorem len_part : ∀ (r : Rx) (ns : List St), (bPart r ns).1.length + 1 ≤ ns.length + 3 * r.nodes
  | .mk k s l, ns => by
    rw [bPart, Rx.nodes]
    split
    · simp; omega
    · split
      · have := len_cat l ns; omega
      · split
        · have := len_alt l (ns ++ [st0]) none ns.length
          simp only [List.length_append, List.length_cons, List.length_nil] at this
          omega
        · split
          · have := len_star l ns; omega
          · split
            · simp [bFree_len]; omega
            · simp; omega
theorem len_star : ∀ (l : List Rx) (ns : List St), (bStar l ns).1.length ≤ ns.length + 3 * Rx.nodesL l + 1
  | [], ns => by rw [bStar]; simp [Rx.nodesL]
  | a :: t, ns => by
    have := len_part a (ns ++ [st0, st0])
    simp only [List.length_append, List.length_cons, List.length_nil] at this
    rw [bStar]
    simp only [bFree_len, Rx.nodesL]
    omega
theorem len_cat : ∀ (l : List Rx) (ns : List St), (bCat l ns).1.length ≤ ns.length + 3 * Rx.nodesL l
  | [], ns => by rw [bCat]; simp [Rx.nodesL]
  | a :: t, ns => by
    have h1 := len_part a ns
    have h2 := len_catGo t (bPart a ns).1 (bPart a ns).2.1 (bPart a ns).2.2
    rw [bCat, Rx.nodesL]
    omega
theorem len_catGo : ∀ (l : List Rx) (ns : List St) (f t : Nat), (bCatGo l ns f t).1.length ≤ ns.length + 3 * Rx.nodesL l
  | [], ns, f, t => by rw [bCatGo]; simp [Rx.nodesL]
  | a :: r, ns, f, t => by
    have h1 := len_part a ns
    have h2 := len_catGo r (bFree (bPart a ns).1 t (bPart a ns).2.1) f (bPart a ns).2.2
    rw [bFree_len] at h2
    rw [bCatGo, Rx.nodesL]
    omega
theorem len_alt : ∀ (l : List Rx) (ns : List St) (fl : Option (Nat × Nat)) (t : Nat), (bAltGo l ns fl t).1.length ≤ ns.length + 3 * Rx.nodesL l
  | [], ns, fl, t => by rw [bAltGo]; simp [Rx.nodesL]
  | a :: r, ns, none, t => by
    have h1 := len_part a ns
    have h2 := len_alt r (bFree (bPart a ns).1 (bPart a ns).2.2 t ++ [stF [((bPart a ns).2.1 : Int)]]) (some ((bPart a ns).1.length, (bPart a ns).1.length)) t
    simp only [List.length_append, bFree_len, List.length_cons, List.length_nil] at h2
    rw [bAltGo, Rx.nodesL]
    omega
  | a :: r, ns, some (f, l), t => by
    have h1 := len_part a ns
    have h2 := len_alt r (bFree (bFree (bPart a ns).1 (bPart a ns).2.2 t ++ [stF [((bPart a ns).2.1 : Int)]]) l (bPart a ns).1.length) (some (f, (bPart a ns).1.length)) t
    simp only [List.length_append, bFree_len, List.length_cons, List.length_nil] at h2
    rw [bAltGo, Rx.nodesL]
    omega
end
/-! ### a run -/
inductive Acc (M : List St) : Nat → List Int → Nat → Prop
  | refl {i : Nat} : Acc M i [] i
  | eps {i j k : Nat} {w : List Int} {s : St} : M[i]? = some s → (j : Int) ∈ s.free → Acc M j w k → Acc M i w k
  | byte {i j k : Nat} {b : Int} {w : List Int} {s : St} : M[i]? = some s → s.to = (j : Int) → s.has b = true → Acc M j w k → Acc M i (b :: w) k
theorem acc_app {M : List St} {i j k : Nat} {u v : List Int} (h : Acc M i u j) (g : Acc M j v k) : Acc M i (u ++ v) k := by
  induction h with
  | refl => exact g
  | eps h1 h2 _ ih => exact .eps h1 h2 (ih g)
  | byte h1 h2 h3 _ ih => exact .byte h1 h2 h3 (ih g)
theorem acc_lt {M : List St} {i k : Nat} {w : List Int} (h : Acc M i w k) (hk : k < M.length) : i < M.length := by
  cases h with
  | refl => exact hk
  | eps h1 _ _ => exact get_lt h1
  | byte h1 _ _ _ => exact get_lt h1
theorem acc_cons {M : List St} {i k : Nat} {b : Int} {w : List Int} : Acc M i (b :: w) k ↔ ∃ (m j : Nat) (s : St), Acc M i [] m ∧ M[m]? = some s ∧ s.to = (j : Int) ∧ s.has b = true ∧ Acc M j w k := by
  constructor
  · intro h
    generalize hx : b :: w = x at h
    induction h with
    | refl => cases hx
    | eps h1 h2 _ ih =>
      obtain ⟨m, j, s, g1, g2, g3, g4, g5⟩ := ih hx
      exact ⟨m, j, s, .eps h1 h2 g1, g2, g3, g4, g5⟩
    | @byte i j k b' w' s h1 h2 h3 h4 _ =>
      injection hx with e1 e2
      subst e1
      subst e2
      exact ⟨i, j, s, .refl, h1, h2, h3, h4⟩
  · rintro ⟨m, j, s, g1, g2, g3, g4, g5⟩
    exact acc_app g1 (.byte g2 g3 g4 g5)
theorem path_acc {M : List St} {t i : Nat} {w : List Int} {s : St} (ht : M[t]? = some s) (h1 : s.free = []) (h2 : s.to = -1) : PathTo M t i w ↔ Acc M i w t := by
  constructor
  · intro h
    induction h with
    | done => exact .refl
    | eps hs _ hm _ ih => exact .eps hs hm ih
    | byte hs _ hm hh _ ih => exact .byte hs hm hh ih
  · intro h
    induction h with
    | refl => exact .done
    | @eps i j k w s' hs hm _ ih =>
      refine .eps hs (fun e => ?_) hm (ih ht)
      subst e
      rw [ht] at hs
      injection hs with hs
      subst hs
      rw [h1] at hm
      simp at hm
    | @byte i j k b w s' hs hm hh _ ih =>
      refine .byte hs (fun e => ?_) hm hh (ih ht)
      subst e
      rw [ht] at hs
      injection hs with hs
      subst hs
      omega
theorem reach_iff {n : Nf} {l : List Int} {i : Nat} : Reach n l i ↔ i < n.st.length ∧ ∃ j : Nat, (j : Int) ∈ l ∧ j < n.st.length ∧ Acc n.st j [] i := by
  constructor
  · intro h
    induction h with
    | @base i h1 h2 => exact ⟨h1, i, h2, h1, .refl⟩
    | @step i j h _ h2 h3 ih =>
      obtain ⟨_, x, hx, hx2, ha⟩ := ih
      exact ⟨h3, x, hx, hx2, acc_app ha (.eps (List.getElem?_eq_getElem h) h2 .refl)⟩
  · rintro ⟨hi, j, h1, h2, h3⟩
    have key : ∀ j i w, Acc n.st j w i → w = [] → i < n.st.length → Reach n l j → Reach n l i := by
      intro j i w h
      induction h with
      | refl => exact fun _ _ h => h
      | @eps i j k w s hs hm ha ih =>
        intro hw hk hr
        have hi := get_lt hs
        refine ih hw hk (.step hi hr ?_ (acc_lt ha hk))
        rw [List.getElem?_eq_getElem hi] at hs
        injection hs with hs
        rw [hs]; exact hm
      | byte _ _ _ _ _ => intro hw; cases hw
    exact key j i [] h3 rfl hi (.base h2 h1)
theorem stepTo_iff {n : Nf} {l : List Int} {b : Int} {x : Int} : x ∈ stepTo n l b ↔ ∃ (m : Nat) (s : St), (m : Int) ∈ l ∧ n.st[m]? = some s ∧ s.to = x ∧ 0 ≤ x ∧ s.has b = true := by
  unfold stepTo
  rw [List.mem_filterMap]
  constructor
  · rintro ⟨k, hk, h⟩
    split at h
    · rename_i h1
      split at h
      · rename_i h2
        injection h with h
        refine ⟨k.toNat, n.st[k.toNat], by rw [Int.toNat_of_nonneg h1.1]; exact hk, List.getElem?_eq_getElem h1.2, h, by omega, h2.2⟩
      · cases h
    · cases h
  · rintro ⟨m, s, h1, h2, h3, h4, h5⟩
    have hm := get_lt h2
    rw [List.getElem?_eq_getElem hm] at h2
    injection h2 with h2
    refine ⟨m, h1, ?_⟩
    rw [dif_pos ⟨by omega, by simpa using hm⟩]
    simp only [Int.toNat_natCast]
    rw [h2, if_pos ⟨by omega, h5⟩, h3]
theorem fold_iff {n : Nf} : ∀ (w : List Int) (l : List Int) (x : Int), x ∈ w.foldl (stepped n) (closed n l) ↔ ∃ k : Nat, x = (k : Int) ∧ k < n.st.length ∧ ∃ j : Nat, (j : Int) ∈ l ∧ j < n.st.length ∧ Acc n.st j w k
  | [], l, x => by
    rw [List.foldl_nil, closed_mem]
    constructor
    · rintro ⟨i, rfl, h⟩; exact ⟨i, rfl, reach_iff.1 h⟩
    · rintro ⟨i, rfl, h⟩; exact ⟨i, rfl, reach_iff.2 h⟩
  | b :: w, l, x => by
    rw [List.foldl_cons]
    show x ∈ w.foldl (stepped n) (closed n (stepTo n (closed n l) b)) ↔ _
    rw [fold_iff w]
    constructor
    · rintro ⟨k, rfl, hk, j, hj, hj2, ha⟩
      obtain ⟨m, s, h1, h2, h3, h4, h5⟩ := stepTo_iff.1 hj
      obtain ⟨i, e, hr⟩ := closed_mem.1 h1
      have : m = i := by omega
      subst this
      obtain ⟨h6, y, h7, h8, h9⟩ := reach_iff.1 hr
      exact ⟨k, rfl, hk, y, h7, h8, acc_cons.2 ⟨m, j, s, h9, h2, h3, h5, ha⟩⟩
    · rintro ⟨k, rfl, hk, y, h7, h8, ha⟩
      obtain ⟨m, j, s, g1, g2, g3, g4, g5⟩ := acc_cons.1 ha
      exact ⟨k, rfl, hk, j, stepTo_iff.2 ⟨m, s, closed_mem.2 ⟨m, rfl, reach_iff.2 ⟨get_lt g2, y, h7, h8, g1⟩⟩, g2, g3, by omega, g4⟩, acc_lt g5 hk, g5⟩
theorem run_path {n : Nf} {f t : Nat} {s : St} (hm : mayN n = true) (hf : n.start = (f : Int)) (ht : n.stop = (t : Int)) (hfl : f < n.st.length) (hs : n.st[t]? = some s) (h1 : s.free = []) (h2 : s.to = -1) (w : List Int) : runN n w = true ↔ PathTo n.st t f w := by
  unfold runN
  rw [hm, Bool.true_and, List.contains_iff_mem, fold_iff, path_acc hs h1 h2]
  constructor
  · rintro ⟨k, e, _, j, hj, _, ha⟩
    simp only [List.mem_cons, List.not_mem_nil, or_false] at hj
    have e1 : k = t := by omega
    have e2 : j = f := by omega
    subst e1
    subst e2
    exact ha
  · intro ha
    exact ⟨t, ht, get_lt hs, f, by simp [hf], hfl, ha⟩
/-- The machine of an expression may be, and runs its words. -/
theorem built_runs {r : Rx} (hp : r.plain = true) (hn : r.nodes ≤ 400) :
    mayN ⟨(bPart r []).1, ((bPart r []).2.1 : Int), ((bPart r []).2.2 : Int)⟩ = true ∧ ∀ w, runN ⟨(bPart r []).1, ((bPart r []).2.1 : Int), ((bPart r []).2.2 : Int)⟩ w = true ↔ r.lang w := by
  have P := part_all r [] hp
  have hl := len_part r []
  simp only [List.length_nil] at hl
  obtain ⟨s, o1, o2, o3⟩ := P.out
  have hf := P.frag.hf
  have ht := P.frag.ht
  have hin : ∀ k : Nat, k < (bPart r []).1.length → inN ⟨(bPart r []).1, ((bPart r []).2.1 : Int), ((bPart r []).2.2 : Int)⟩ (k : Int) = true := by
    intro k hk
    unfold inN
    simp
    exact hk
  have hm : mayN ⟨(bPart r []).1, ((bPart r []).2.1 : Int), ((bPart r []).2.2 : Int)⟩ = true := by
    refine may_yes (by dsimp only; omega) (hin _ hf.2) (hin _ ht.2) ?_
    rw [List.all_eq_true]
    intro x hx
    obtain ⟨i, hi, rfl⟩ := List.mem_iff_getElem.1 hx
    have hi' : i < (bPart r []).1.length := hi
    have hg := List.getElem?_eq_getElem hi'
    have few := P.few i _ hg (Nat.zero_le _)
    have he : edgeIn (bPart r []).1[i] (fun j => j < (bPart r []).1.length) := by
      by_cases h : i = (bPart r []).2.2
      · subst h
        rw [o1] at hg
        injection hg with hg
        rw [← hg]
        exact ⟨fun y hy => by rw [o2] at hy; simp at hy, .inl o3⟩
      · exact (P.frag.cl i _ hg (Nat.zero_le _) hi' h).mono fun j hj => hj.2
    unfold okS
    simp only [Bool.and_eq_true, decide_eq_true_eq, List.all_eq_true]
    refine ⟨⟨by omega, ?_⟩, fun y hy => ?_⟩
    · rcases he.2 with e | ⟨j, e, hj⟩ <;> omega
    · obtain ⟨j, rfl, hj⟩ := he.1 y hy
      exact hin j hj
  refine ⟨hm, fun w => ?_⟩
  rw [run_path hm (f := (bPart r []).2.1) (t := (bPart r []).2.2) rfl rfl hf.2 o1 o2 o3 w]
  exact P.frag.la w
end Go.Proofs.YtfdgbghlanbddaaDoor.Av
set_option linter.unusedVariables false
set_option linter.unusedSimpArgs false
namespace Go.Proofs.YtfdgbghlanbddaaDoor.Av
/-! ### the words of the states -/
def wordsOk (ns : List St) : Prop := ∀ s ∈ ns, 0 ≤ s.w0 ∧ 0 ≤ s.w1 ∧ 0 ≤ s.w2 ∧ 0 ≤ s.w3
theorem wordsOk.app {a b : List St} (h : wordsOk a) (g : wordsOk b) : wordsOk (a ++ b) := fun s hs => (List.mem_append.1 hs).elim (h s) (g s)
theorem words_stF (l : List Int) : wordsOk [stF l] := fun s hs => by
  simp only [List.mem_cons, List.not_mem_nil, or_false] at hs
  subst hs
  exact ⟨Int.le_refl _, Int.le_refl _, Int.le_refl _, Int.le_refl _⟩
theorem words_st0 : wordsOk [st0] := words_stF []
theorem words_st00 : wordsOk [st0, st0] := words_st0.app words_st0
theorem wordsOk.free {ns : List St} (h : wordsOk ns) (i j : Nat) : wordsOk (bFree ns i j) := by
  unfold bFree
  split
  · rename_i s hs
    intro x hx
    rcases List.mem_or_eq_of_mem_set hx with hx | hx
    · exact h x hx
    · subst hx
      exact h s (List.mem_of_getElem? hs)
  · exact h
mutual
theorem words_part : ∀ (r : Rx) (ns : List St), r.ok → wordsOk ns → wordsOk (bPart r ns).1
  | .mk k s l, ns, h, g => by
    have hs : s.ok := h.2.1
    have hl : Rx.oks l := h.2.2
    rw [bPart]
    split
    · refine g.app (words_st0.app (b := [_]) fun x hx => ?_)
      simp only [List.mem_cons, List.not_mem_nil, or_false] at hx
      subst hx
      exact ⟨hs.1, hs.2.1, hs.2.2.1, hs.2.2.2.1⟩
    · split
      · exact words_cat l ns hl g
      · split
        · exact words_alt l _ none _ hl (g.app words_st0)
        · split
          · exact words_star l ns hl g
          · split
            · exact (g.app words_st00).free _ _
            · exact g.app words_st00
theorem words_star : ∀ (l : List Rx) (ns : List St), Rx.oks l → wordsOk ns → wordsOk (bStar l ns).1
  | [], ns, _, g => by rw [bStar]; exact g
  | a :: t, ns, h, g => by
    rw [bStar]
    exact (((words_part a _ h.1 (g.app words_st00)).free _ _).free _ _).free _ _
theorem words_cat : ∀ (l : List Rx) (ns : List St), Rx.oks l → wordsOk ns → wordsOk (bCat l ns).1
  | [], ns, _, g => by rw [bCat]; exact g
  | a :: t, ns, h, g => by
    rw [bCat]
    exact words_catGo t _ _ _ h.2 (words_part a _ h.1 g)
theorem words_catGo : ∀ (l : List Rx) (ns : List St) (f t : Nat), Rx.oks l → wordsOk ns → wordsOk (bCatGo l ns f t).1
  | [], ns, _, _, _, g => by rw [bCatGo]; exact g
  | a :: r, ns, f, t, h, g => by
    rw [bCatGo]
    exact words_catGo r _ _ _ h.2 ((words_part a _ h.1 g).free _ _)
theorem words_alt : ∀ (l : List Rx) (ns : List St) (fl : Option (Nat × Nat)) (t : Nat), Rx.oks l → wordsOk ns → wordsOk (bAltGo l ns fl t).1
  | [], ns, _, _, _, g => by rw [bAltGo]; exact g
  | a :: r, ns, none, t, h, g => by
    rw [bAltGo]
    exact words_alt r _ _ _ h.2 (((words_part a _ h.1 g).free _ _).app (words_stF _))
  | a :: r, ns, some (f, l), t, h, g => by
    rw [bAltGo]
    exact words_alt r _ _ _ h.2 ((((words_part a _ h.1 g).free _ _).app (words_stF _)).free _ _)
end
/-- What is so of the machine of an expression that may be. -/
theorem buildN_good {r : Rx} (ho : r.ok) (h : mayR r = 0) : mayN (buildN r) = true ∧ (∀ w, runN (buildN r) w = true ↔ r.lang w) ∧ (buildN r).st.length + 1 ≤ 3 * r.nodes ∧ wordsOk (buildN r).st := by
  obtain ⟨hn, hp⟩ := may_zero h
  obtain ⟨h1, h2⟩ := built_runs hp hn
  have e : buildN r = ⟨(bPart r []).1, ((bPart r []).2.1 : Int), ((bPart r []).2.2 : Int)⟩ := if_pos h
  rw [e]
  have h3 := len_part r []
  simp only [List.length_nil, Nat.zero_add] at h3
  exact ⟨h1, h2, h3, words_part r [] ho fun s hs => by simp at hs⟩
end Go.Proofs.YtfdgbghlanbddaaDoor.Av
set_option linter.unusedVariables false
set_option linter.unusedSimpArgs false
set_option maxRecDepth 8000
namespace Go.Proofs.YtfdgbghlanbddaaDoor.Av
open Go.RowKit Go.Proofs
theorem count_walk {w0 : World} : ∀ (B : Nat) (r : Rx) (es : List Ent), r.nodes ≤ B → B ≤ 1048576 → ACalls Tryd.prog w0 29 [.agg r.cells] es fun v es' => v = .int .i64 (r.nodes - 1 : Nat) ∧ es' = es := by
  intro B
  induction B using Nat.strongRecOn with
  | _ B ih => ?_
  intro r es hB hB2
  rw [Rx.cells_eq r]
  have hne := r.nodes_eq
  have hal := Rx.len_le r.args
  refine calls1 (N := 24) Tryd.func29 rfl rfl (by decide) ?_
  refine w_seq ?_
  refine w_region ?_
  refine l_cons rfl (p_box fun s1 => ?_)
  refine l_cons rfl (p_assign ?_)
  refine l_nil ?_
  refine k_seq_normal ?_
  refine w_seq ?_
  refine w_region ?_
  refine l_cons rfl (p_fap fa_29_2 ?_)
  refine l_cons rfl (p_loadp ty_27 ?_)
  first | refine l_cons rfl (p_lenl sl_27 ?_) | refine l_cons rfl (p_leno sl_27 ?_) | refine l_cons rfl (p_lenn sl_27 ?_)
  refine l_cons rfl (p_assign ?_)
  refine l_nil ?_
  refine k_seq_normal ?_
  refine w_seq ?_
  refine w_seq ?_
  refine w_region ?_
  refine l_cons rfl (p_assign ?_)
  refine l_nil ?_
  refine k_seq_normal ?_
  refine w_block ?_
  refine w_loop (fun m f es' => ∃ k, m = r.args.length - k ∧ k ≤ r.args.length ∧ es' = .row s1 29 6 [[.int .i64 r.kind, .int .u64 r.set.w0, .int .u64 r.set.w1, .int .u64 r.set.w2, .int .u64 r.set.w3, .list 6 (r.args.map Rx.cells)]] :: es ∧ Knows f [(1, .ptr es.length s1 0 0), (3, .int .i64 (((r.args.length - k) + Rx.nodesL (r.args.take k) : Nat) : Int)), (4, .int .i64 k)]) (r.args.length) (⟨0, rfl, Nat.zero_le _, rfl, by simp only [Knows, put, upd_apply, Nat.reduceEqDiff, ↓reduceIte, and_true, true_and, eq_self] <;> and_intros <;> rfl⟩) ?_
  rintro m f es' ⟨k, rfl, hk1, rfl, hk⟩
  have hnl := Rx.nodesL_le r.args k
  refine w_pins _ (Sub.refl _) (hk) ?_
  simp only [pins]
  refine w_seq ?_
  refine w_seq ?_
  refine w_region ?_
  refine l_cons rfl (p_move ?_)
  refine l_cons rfl (p_fap fa_29_2 ?_)
  refine l_cons rfl (p_loadp ty_27 ?_)
  first | refine l_cons rfl (p_lenl sl_27 ?_) | refine l_cons rfl (p_leno sl_27 ?_) | refine l_cons rfl (p_lenn sl_27 ?_)
  refine l_cons rfl (p_cmp ?_)
  refine l_nil ?_
  refine k_seq_normal ?_
  refine w_b (fun h1 => ?_) (fun h1 => ?_)
  · skip
    have h1' := h1; (try simp only [decide_eq_true_eq, decide_eq_false_iff_not, Bool.not_eq_true', Bool.not_false, Bool.not_true, Bool.not_eq_false'] at h1')
    refine w_skip ?_
    refine k_seq_normal ?_
    refine w_seq ?_
    refine w_block ?_
    have e := Rx.nodesL_take r.args k (by omega)
    have hnl2 := Rx.nodesL_le r.args (k + 1)
    have hnp := (r.args[k]'(by omega)).nodes_pos
    have hlt := Rx.len_le (r.args.take k)
    rw [List.length_take] at hlt
    refine w_region ?_
    refine l_cons rfl (p_move ?_)
    refine l_cons rfl (p_fap fa_29_2 ?_)
    refine l_cons rfl (p_loadp ty_27 ?_)
    refine l_cons rfl (p_move ?_)
    first | refine l_cons rfl (p_ixl sl_27 ?_) | refine l_cons rfl (p_ixo sl_27 ?_)
    first | refine l_cons rfl (p_loadf ty_29 ?_) | refine l_cons rfl (p_loadp ty_29 ?_)
    refine l_cons rfl (p_callr en_29 (ih (B - 1) (by omega) (r.args[k]'(by omega)) _ (by have := r.nodes_arg (k := k) (by omega); omega) (by omega)) ?_)
    refine l_cons rfl (p_arith ?_)
    refine l_cons rfl (p_assign ?_)
    refine l_nil ?_
    refine k_blk_normal ?_
    refine k_seq_normal ?_
    refine w_region ?_
    refine l_cons rfl (p_move ?_)
    refine l_cons rfl (p_arith ?_)
    refine l_cons rfl (p_assign ?_)
    refine l_nil ?_
    refine k_seq_normal ?_
    refine ⟨r.args.length - (k + 1), by omega, k + 1, rfl, by omega, rfl, ?_⟩
    simp only [Knows, put, upd_apply, Nat.reduceEqDiff, ↓reduceIte, and_true, true_and, eq_self, e]
    exact ⟨by congr 1; omega, rfl⟩
  · skip
    have h1' := h1; (try simp only [decide_eq_true_eq, decide_eq_false_iff_not, Bool.not_eq_true', Bool.not_false, Bool.not_true, Bool.not_eq_false'] at h1')
    refine w_exit ?_
    refine k_seq_exit ?_
    refine k_seq_exit ?_
    refine k_blk_here ?_
    refine k_seq_normal ?_
    refine w_seq ?_
    refine w_region ?_
    refine l_cons rfl (p_move ?_)
    refine l_cons rfl (p_assign ?_)
    refine l_nil ?_
    refine k_seq_normal ?_
    refine w_ret ?_
    exact ret1 rfl (by simp only [ev_tmp, ev_const, ev_func, ofConst_int, ofConst_bool, ofConst_str, ofConst_nil, upd_apply, Nat.reduceEqDiff, ↓reduceIte] <;> exact rfl) (by first | exact Sub.refl _ | exact sub1 _ _ | exact sub2 _ _ _ | exact sub3 _ _ _ _ | exact sub4 _ _ _ _ _ | exact sub5 _ _ _ _ _ _) ⟨by rw [List.take_of_length_le (by omega), hne]; congr 1; omega, rfl⟩
theorem builds_walk {w0 : World} (hT : Tab w0) (a b : List Int) (ha : bytesOk a) (hb : bytesOk b) : ACalls Tryd.prog w0 3 [bytesAV a, bytesAV b] [] fun v es' => v = .bool true := by
  unfold bytesAV
  refine calls2 (N := 75) Tryd.func3 rfl rfl (by decide) ?_
  refine w_seq ?_
  refine w_region ?_
  refine l_cons rfl (p_assign ?_)
  refine l_nil ?_
  refine k_seq_normal ?_
  refine w_seq ?_
  refine w_seq ?_
  refine w_region ?_
  refine l_cons rfl (p_callr en_23 (begun_walk) ?_)
  refine l_cons rfl (p_not ?_)
  refine l_nil ?_
  refine k_seq_normal ?_
  refine w_f rfl ?_
  refine w_skip ?_
  refine k_seq_normal ?_
  refine w_seq ?_
  refine w_seq ?_
  refine w_region ?_
  refine l_cons rfl (p_move ?_)
  refine l_cons rfl (p_lenl sl_22 ?_)
  refine l_cons rfl (p_cmp ?_)
  refine l_cons rfl (p_move ?_)
  refine g_b rfl (fun h1 => ?_) (fun h1 => ?_)
  · skip
    have h1' := h1; (try simp only [decide_eq_true_eq, decide_eq_false_iff_not, Bool.not_eq_true', Bool.not_false, Bool.not_true, Bool.not_eq_false'] at h1')
    refine (p_move ?_)
    refine g_y rfl h1 (p_lenl sl_22 ?_)
    refine g_y rfl h1 (p_cmp ?_)
    refine l_cons rfl (p_pickf h1 ?_)
    refine l_nil ?_
    refine k_seq_normal ?_
    refine w_b (fun h2 => ?_) (fun h2 => ?_)
    · skip
      have h2' := h2; (try simp only [decide_eq_true_eq, decide_eq_false_iff_not, Bool.not_eq_true', Bool.not_false, Bool.not_true, Bool.not_eq_false'] at h2')
      refine w_seq ?_
      refine w_region ?_
      refine l_cons rfl (p_assign ?_)
      refine l_nil ?_
      refine k_seq_normal ?_
      refine w_ret ?_
      refine k_seq_ret ?_
      exact ret1 rfl (by simp only [ev_tmp, ev_const, ev_func, ofConst_int, ofConst_bool, ofConst_str, ofConst_nil, upd_apply, Nat.reduceEqDiff, ↓reduceIte] <;> exact rfl) (sub_of (es := []) fun _ h => absurd h (Nat.not_lt_zero _)) (rfl)
    · skip
      have h2' := h2; (try simp only [decide_eq_true_eq, decide_eq_false_iff_not, Bool.not_eq_true', Bool.not_false, Bool.not_true, Bool.not_eq_false'] at h2')
      refine w_skip ?_
      refine k_seq_normal ?_
      refine w_seq ?_
      refine w_region ?_
      refine l_cons rfl (p_move ?_)
      refine l_cons rfl (p_call en_24 ((made_walk a (by omega) ha).mono ?_))
      rintro _ es1 ⟨s24, rfl, rfl⟩
      refine l_cons rfl (p_call en_25 ((Rx_walk (PK.mk' (n := 0) (Nat.zero_le _) ha (by omega) (at_hit _ _))).mono ?_))
      rintro _ es2 ⟨rfl, hg1⟩
      obtain ⟨ho, -, hn⟩ := pRx_ok 9 (q := a.drop 0) (fun b hb => ha b (List.mem_of_mem_drop hb))
      generalize (pRx 9 (a.drop 0)).1 = r at ho hn ⊢
      refine l_cons rfl (p_move ?_)
      refine l_cons rfl (p_call en_24 ((made_walk b (by omega) hb).mono ?_))
      rintro _ es3 ⟨s25, rfl, rfl⟩
      refine l_cons rfl (p_call en_26 ((word_walk 10 (by omega) (PK.mk' (n := 0) (Nat.zero_le _) hb (by omega) (at_hit _ _))).mono ?_))
      rintro _ es4 ⟨rfl, q4, hg2⟩
      obtain ⟨hw, hwl⟩ := pWord_ok (most := 10) (q := b.drop 0) (fun x hx => hb x (List.mem_of_mem_drop hx))
      generalize pWord 10 (b.drop 0) = w at hw hwl ⊢
      refine l_cons rfl (p_alloc ze_29 fun s5 => ?_)
      refine l_cons rfl (p_store ty_29 ?_)
      refine l_cons rfl (p_assign ?_)
      refine l_nil ?_
      refine k_seq_normal ?_
      refine w_seq ?_
      refine w_region ?_
      refine l_cons rfl (p_loadp ty_29 ?_)
      refine l_cons rfl (p_callr en_27 (build_gen hT r (by omega) ho) ?_)
      refine l_cons rfl (p_move ?_)
      refine l_cons rfl (p_extract ?_ (hl := Nat.le_of_ble_eq_true rfl))
      refine l_cons rfl (p_extract ?_ (hl := Nat.le_of_ble_eq_true rfl))
      refine l_cons rfl (p_alloc ze_36 fun s7 => ?_)
      refine l_cons rfl (p_store ty_36 ?_)
      refine l_cons rfl (p_assign ?_)
      refine l_nil ?_
      refine k_seq_normal ?_
      refine w_seq ?_
      refine w_seq ?_
      refine w_region ?_
      refine l_cons rfl (p_move ?_)
      refine l_cons rfl (p_loadp ty_29 ?_)
      refine l_cons rfl (p_callr en_28 (refMayR r (by omega) ho) ?_)
      refine l_cons rfl (p_cmp ?_)
      refine l_nil ?_
      refine k_seq_normal ?_
      refine w_b (fun h3 => ?_) (fun h3 => ?_)
      · skip
        have h3' := h3; (try simp only [decide_eq_true_eq, decide_eq_false_iff_not, Bool.not_eq_true', Bool.not_false, Bool.not_true, Bool.not_eq_false'] at h3')
        refine w_seq ?_
        refine w_region ?_
        refine l_cons rfl (p_assign ?_)
        refine l_nil ?_
        refine k_seq_normal ?_
        refine w_ret ?_
        refine k_seq_ret ?_
        exact ret1 rfl (by simp only [ev_tmp, ev_const, ev_func, ofConst_int, ofConst_bool, ofConst_str, ofConst_nil, upd_apply, Nat.reduceEqDiff, ↓reduceIte] <;> exact rfl) (sub_of (es := []) fun _ h => absurd h (Nat.not_lt_zero _)) (by first | rfl | (simp_all; done) | (exfalso; simp_all; done) | (exfalso; simp_all; omega) | (simp_all; omega))
      · skip
        have h3' := h3; (try simp only [decide_eq_true_eq, decide_eq_false_iff_not, Bool.not_eq_true', Bool.not_false, Bool.not_true, Bool.not_eq_false'] at h3')
        refine w_skip ?_
        refine k_seq_normal ?_
        refine w_seq ?_
        refine w_seq ?_
        have hbn := buildN_no r
        refine w_region ?_
        refine l_cons rfl (p_move ?_)
        refine l_cons rfl (p_cmp ?_)
        refine l_nil ?_
        refine k_seq_normal ?_
        refine w_b (fun h4 => ?_) (fun h4 => ?_)
        · skip
          have h4' := h4; (try simp only [decide_eq_true_eq, decide_eq_false_iff_not, Bool.not_eq_true', Bool.not_false, Bool.not_true, Bool.not_eq_false'] at h4')
          refine w_seq ?_
          refine w_region ?_
          refine l_cons rfl (p_fap fa_36_0 ?_)
          refine l_cons rfl (p_loadp ty_34 ?_)
          first | refine l_cons rfl (p_lenl sl_34 ?_) | refine l_cons rfl (p_leno sl_34 ?_) | refine l_cons rfl (p_lenn sl_34 ?_)
          refine l_cons rfl (p_cmp ?_)
          refine l_cons rfl (p_assign ?_)
          refine l_nil ?_
          refine k_seq_normal ?_
          refine w_ret ?_
          refine k_seq_ret ?_
          exact ret1 rfl (by simp only [ev_tmp, ev_const, ev_func, ofConst_int, ofConst_bool, ofConst_str, ofConst_nil, upd_apply, Nat.reduceEqDiff, ↓reduceIte] <;> exact rfl) (sub_of (es := []) fun _ h => absurd h (Nat.not_lt_zero _)) (by first | rfl | (simp_all; done) | (exfalso; simp_all; done) | (exfalso; simp_all; omega) | (simp_all; omega))
        · skip
          have h4' := h4; (try simp only [decide_eq_true_eq, decide_eq_false_iff_not, Bool.not_eq_true', Bool.not_false, Bool.not_true, Bool.not_eq_false'] at h4')
          refine w_skip ?_
          refine k_seq_normal ?_
          refine w_seq ?_
          refine w_region ?_
          refine l_cons rfl (p_assign ?_)
          refine l_nil ?_
          refine k_seq_normal ?_
          refine w_seq ?_
          refine w_region ?_
          refine l_cons rfl (p_loadp ty_29 ?_)
          refine l_cons rfl (p_callr en_29 (count_walk _ r _ (Nat.le_refl _) (by omega)) ?_)
          refine l_cons rfl (p_assign ?_)
          refine l_nil ?_
          refine k_seq_normal ?_
          refine w_seq ?_
          obtain ⟨g1, g2, g3, hwk⟩ := buildN_good ho (by simp_all)
          have g4 := r.nodes_pos
          have g5 : runN (buildN r) w = inR r w := by rw [Bool.eq_iff_iff, g2, inR_iff]
          refine w_drawn 30 [] (fun e => e = _) mixed (by kernel_rfl) rfl ?_
          refine q1 7 (hg := rfl) (hu := rfl) (h := by rintro f _ rfl; exact p_loadp ty_36 ⟨rfl, rfl⟩) (k := ?_)
          refine q1 43 (hg := rfl) (hu := rfl) (h := by rintro f _ rfl; exact p_callr en_30 (may _) ⟨rfl, rfl⟩) (k := ?_)
          refine q1 44 (hg := rfl) (hu := rfl) (h := by rintro f _ rfl; exact p_move ⟨rfl, rfl⟩) (k := ?_)
          refine qsplit 45 (fun h5 => ?_) (fun h5 => ?_)
          · skip
            have h5' := h5; (try simp only [decide_eq_true_eq, decide_eq_false_iff_not, Bool.not_eq_true', Bool.not_false, Bool.not_true, Bool.not_eq_false'] at h5')
            refine qy1 7 (hg := rfl) (hw := h5) (hu := rfl) (h := by rintro f _ rfl; exact p_loadp ty_36 ⟨rfl, rfl⟩) (k := ?_)
            refine qy1 6 (hg := rfl) (hw := h5) (hu := rfl) (h := by rintro f _ rfl; exact p_move ⟨rfl, rfl⟩) (k := ?_)
            refine qy2 46 47 (hg := rfl) (hw := h5) (hu := rfl) (h := by rintro f _ rfl; exact p_callr en_31 (run_walk _ w hw) ⟨rfl, rfl⟩) (k := ?_)
            refine qy1 5 (hg := rfl) (hw := h5) (hu := rfl) (h := by rintro f _ rfl; exact p_loadp ty_29 ⟨rfl, rfl⟩) (k := ?_)
            refine qy1 6 (hg := rfl) (hw := h5) (hu := rfl) (h := by rintro f _ rfl; exact p_move ⟨rfl, rfl⟩) (k := ?_)
            refine qy2 49 50 (hg := rfl) (hw := h5) (hu := rfl) (h := by rintro f _ rfl; exact p_callr en_32 (refIn r w ho hw (by omega)) ⟨rfl, rfl⟩) (k := ?_)
            refine qy2 48 51 (hg := rfl) (hw := h5) (hu := rfl) (h := by rintro f _ rfl; exact p_eqb ub_4 ⟨rfl, rfl⟩) (k := ?_)
            refine q2 45 52 (hg := rfl) (hu := rfl) (h := by rintro f _ rfl; exact p_pickt h5 ⟨rfl, rfl⟩) (k := ?_)
            refine q1 53 (hg := rfl) (hu := rfl) (h := by rintro f _ rfl; exact p_move ⟨rfl, rfl⟩) (k := ?_)
            refine qsplit 54 (fun h6 => ?_) (fun h6 => ?_)
            · skip
              have h6' := h6; (try simp only [decide_eq_true_eq, decide_eq_false_iff_not, Bool.not_eq_true', Bool.not_false, Bool.not_true, Bool.not_eq_false'] at h6')
              refine qy1 7 (hg := rfl) (hw := h6) (hu := rfl) (h := by rintro f _ rfl; exact p_loadp ty_36 ⟨rfl, rfl⟩) (k := ?_)
              refine qy1 6 (hg := rfl) (hw := h6) (hu := rfl) (h := by rintro f _ rfl; exact p_move ⟨rfl, rfl⟩) (k := ?_)
              refine qy2 55 56 (hg := rfl) (hw := h6) (hu := rfl) (h := by rintro f _ rfl; exact p_callr en_33 (refRun _ hwk w hw) ⟨rfl, rfl⟩) (k := ?_)
              refine qy1 5 (hg := rfl) (hw := h6) (hu := rfl) (h := by rintro f _ rfl; exact p_loadp ty_29 ⟨rfl, rfl⟩) (k := ?_)
              refine qy1 6 (hg := rfl) (hw := h6) (hu := rfl) (h := by rintro f _ rfl; exact p_move ⟨rfl, rfl⟩) (k := ?_)
              refine qy2 58 59 (hg := rfl) (hw := h6) (hu := rfl) (h := by rintro f _ rfl; exact p_callr en_32 (refIn r w ho hw (by omega)) ⟨rfl, rfl⟩) (k := ?_)
              refine qy2 57 60 (hg := rfl) (hw := h6) (hu := rfl) (h := by rintro f _ rfl; exact p_eqb ub_4 ⟨rfl, rfl⟩) (k := ?_)
              refine q2 54 61 (hg := rfl) (hu := rfl) (h := by rintro f _ rfl; exact p_pickt h6 ⟨rfl, rfl⟩) (k := ?_)
              refine q1 62 (hg := rfl) (hu := rfl) (h := by rintro f _ rfl; exact p_move ⟨rfl, rfl⟩) (k := ?_)
              refine qsplit 63 (fun h7 => ?_) (fun h7 => ?_)
              · skip
                have h7' := h7; (try simp only [decide_eq_true_eq, decide_eq_false_iff_not, Bool.not_eq_true', Bool.not_false, Bool.not_true, Bool.not_eq_false'] at h7')
                refine qy1 7 (hg := rfl) (hw := h7) (hu := rfl) (h := by rintro f _ rfl; exact p_fap fa_36_0 ⟨rfl, rfl⟩) (k := ?_)
                refine qy1 64 (hg := rfl) (hw := h7) (hu := rfl) (h := by rintro f _ rfl; exact p_loadp ty_34 ⟨rfl, rfl⟩) (k := ?_)
                first | refine qy1 65 (hg := rfl) (hw := h7) (hu := rfl) (h := by rintro f _ rfl; exact p_lenl sl_34 ⟨rfl, rfl⟩) (k := ?_) | refine qy1 65 (hg := rfl) (hw := h7) (hu := rfl) (h := by rintro f _ rfl; exact p_leno sl_34 ⟨rfl, rfl⟩) (k := ?_) | refine qy1 65 (hg := rfl) (hw := h7) (hu := rfl) (h := by rintro f _ rfl; exact p_lenn sl_34 ⟨rfl, rfl⟩) (k := ?_)
                refine qy1 5 (hg := rfl) (hw := h7) (hu := rfl) (h := by rintro f _ rfl; exact p_loadp ty_29 ⟨rfl, rfl⟩) (k := ?_)
                refine qy1 67 (hg := rfl) (hw := h7) (hu := rfl) (h := by rintro f _ rfl; exact p_callr en_34 (refNodes _ r _ (Nat.le_refl _) (by omega)) ⟨rfl, rfl⟩) (k := ?_)
                refine qy1 68 (hg := rfl) (hw := h7) (hu := rfl) (h := by rintro f _ rfl; exact p_arith ⟨rfl, rfl⟩) (k := ?_)
                refine qy1 9 (hg := rfl) (hw := h7) (hu := rfl) (h := by rintro f _ rfl; exact p_move ⟨rfl, rfl⟩) (k := ?_)
                refine qy2 69 70 (hg := rfl) (hw := h7) (hu := rfl) (h := by rintro f _ rfl; exact p_arith ⟨rfl, rfl⟩) (k := ?_)
                refine qy1 71 (hg := rfl) (hw := h7) (hu := rfl) (h := by rintro f _ rfl; exact p_arith ⟨rfl, rfl⟩) (k := ?_)
                refine q_end ?_
                refine m_end ?_
                refine g_y rfl h7 (p_cmp ?_)
                refine l_cons rfl (p_pickt h7 ?_)
                refine l_cons rfl (p_assign ?_)
                refine l_nil ?_
                refine k_seq_normal ?_
                refine w_ret ?_
                exact ret1 rfl (by simp only [ev_tmp, ev_const, ev_func, ofConst_int, ofConst_bool, ofConst_str, ofConst_nil, upd_apply, Nat.reduceEqDiff, ↓reduceIte] <;> exact rfl) (sub_of (es := []) fun _ h => absurd h (Nat.not_lt_zero _)) (by first | (simp_all; done) | (simp (disch := omega) only [wrap_i64] at *; simp_all; done) | (simp (disch := omega) only [wrap_i64] at *; simp_all; omega))
              · skip
                have h7' := h7; (try simp only [decide_eq_true_eq, decide_eq_false_iff_not, Bool.not_eq_true', Bool.not_false, Bool.not_true, Bool.not_eq_false'] at h7')
                refine qn rfl h7 ?_
                refine qn rfl h7 ?_
                refine qn rfl h7 ?_
                refine qn rfl h7 ?_
                refine qn rfl h7 ?_
                refine qn rfl h7 ?_
                refine qn rfl h7 ?_
                refine qn rfl h7 ?_
                refine qn rfl h7 ?_
                refine q_end ?_
                refine m_end ?_
                refine g_n rfl h7 ?_
                refine l_cons rfl (p_pickf h7 ?_)
                refine l_cons rfl (p_assign ?_)
                refine l_nil ?_
                refine k_seq_normal ?_
                refine w_ret ?_
                exact ret1 rfl (by simp only [ev_tmp, ev_const, ev_func, ofConst_int, ofConst_bool, ofConst_str, ofConst_nil, upd_apply, Nat.reduceEqDiff, ↓reduceIte] <;> exact rfl) (sub_of (es := []) fun _ h => absurd h (Nat.not_lt_zero _)) (by first | (simp_all; done) | (simp (disch := omega) only [wrap_i64] at *; simp_all; done) | (simp (disch := omega) only [wrap_i64] at *; simp_all; omega))
            · skip
              have h6' := h6; (try simp only [decide_eq_true_eq, decide_eq_false_iff_not, Bool.not_eq_true', Bool.not_false, Bool.not_true, Bool.not_eq_false'] at h6')
              refine qn rfl h6 ?_
              refine qn rfl h6 ?_
              refine qn rfl h6 ?_
              refine qn rfl h6 ?_
              refine qn rfl h6 ?_
              refine qn rfl h6 ?_
              refine qn rfl h6 ?_
              refine q2 54 61 (hg := rfl) (hu := rfl) (h := by rintro f _ rfl; exact p_pickf h6 ⟨rfl, rfl⟩) (k := ?_)
              refine q1 62 (hg := rfl) (hu := rfl) (h := by rintro f _ rfl; exact p_move ⟨rfl, rfl⟩) (k := ?_)
              refine qn rfl rfl ?_
              refine qn rfl rfl ?_
              refine qn rfl rfl ?_
              refine qn rfl rfl ?_
              refine qn rfl rfl ?_
              refine qn rfl rfl ?_
              refine qn rfl rfl ?_
              refine qn rfl rfl ?_
              refine qn rfl rfl ?_
              refine q_end ?_
              refine m_end ?_
              refine g_n rfl rfl ?_
              refine l_cons rfl (p_pickf rfl ?_)
              refine l_cons rfl (p_assign ?_)
              refine l_nil ?_
              refine k_seq_normal ?_
              refine w_ret ?_
              exact ret1 rfl (by simp only [ev_tmp, ev_const, ev_func, ofConst_int, ofConst_bool, ofConst_str, ofConst_nil, upd_apply, Nat.reduceEqDiff, ↓reduceIte] <;> exact rfl) (sub_of (es := []) fun _ h => absurd h (Nat.not_lt_zero _)) (by first | (simp_all; done) | (simp (disch := omega) only [wrap_i64] at *; simp_all; done) | (simp (disch := omega) only [wrap_i64] at *; simp_all; omega))
          · skip
            have h5' := h5; (try simp only [decide_eq_true_eq, decide_eq_false_iff_not, Bool.not_eq_true', Bool.not_false, Bool.not_true, Bool.not_eq_false'] at h5')
            refine qn rfl h5 ?_
            refine qn rfl h5 ?_
            refine qn rfl h5 ?_
            refine qn rfl h5 ?_
            refine qn rfl h5 ?_
            refine qn rfl h5 ?_
            refine qn rfl h5 ?_
            refine q2 45 52 (hg := rfl) (hu := rfl) (h := by rintro f _ rfl; exact p_pickf h5 ⟨rfl, rfl⟩) (k := ?_)
            refine q1 53 (hg := rfl) (hu := rfl) (h := by rintro f _ rfl; exact p_move ⟨rfl, rfl⟩) (k := ?_)
            refine qn rfl rfl ?_
            refine qn rfl rfl ?_
            refine qn rfl rfl ?_
            refine qn rfl rfl ?_
            refine qn rfl rfl ?_
            refine qn rfl rfl ?_
            refine qn rfl rfl ?_
            refine q2 54 61 (hg := rfl) (hu := rfl) (h := by rintro f _ rfl; exact p_pickf rfl ⟨rfl, rfl⟩) (k := ?_)
            refine q1 62 (hg := rfl) (hu := rfl) (h := by rintro f _ rfl; exact p_move ⟨rfl, rfl⟩) (k := ?_)
            refine qn rfl rfl ?_
            refine qn rfl rfl ?_
            refine qn rfl rfl ?_
            refine qn rfl rfl ?_
            refine qn rfl rfl ?_
            refine qn rfl rfl ?_
            refine qn rfl rfl ?_
            refine qn rfl rfl ?_
            refine qn rfl rfl ?_
            refine q_end ?_
            refine m_end ?_
            refine g_n rfl rfl ?_
            refine l_cons rfl (p_pickf rfl ?_)
            refine l_cons rfl (p_assign ?_)
            refine l_nil ?_
            refine k_seq_normal ?_
            refine w_ret ?_
            exact ret1 rfl (by simp only [ev_tmp, ev_const, ev_func, ofConst_int, ofConst_bool, ofConst_str, ofConst_nil, upd_apply, Nat.reduceEqDiff, ↓reduceIte] <;> exact rfl) (sub_of (es := []) fun _ h => absurd h (Nat.not_lt_zero _)) (by first | (simp_all; done) | (simp (disch := omega) only [wrap_i64] at *; simp_all; done) | (simp (disch := omega) only [wrap_i64] at *; simp_all; omega))
  · skip
    have h1' := h1; (try simp only [decide_eq_true_eq, decide_eq_false_iff_not, Bool.not_eq_true', Bool.not_false, Bool.not_true, Bool.not_eq_false'] at h1')
    refine g_n rfl h1 ?_
    refine g_n rfl h1 ?_
    refine l_cons rfl (p_pickt h1 ?_)
    refine l_nil ?_
    refine k_seq_normal ?_
    refine w_t rfl ?_
    refine w_seq ?_
    refine w_region ?_
    refine l_cons rfl (p_assign ?_)
    refine l_nil ?_
    refine k_seq_normal ?_
    refine w_ret ?_
    refine k_seq_ret ?_
    exact ret1 rfl (by simp only [ev_tmp, ev_const, ev_func, ofConst_int, ofConst_bool, ofConst_str, ofConst_nil, upd_apply, Nat.reduceEqDiff, ↓reduceIte] <;> exact rfl) (sub_of (es := []) fun _ h => absurd h (Nat.not_lt_zero _)) (rfl)
end Go.Proofs.YtfdgbghlanbddaaDoor.Av
set_option linter.unusedVariables false
set_option linter.unusedSimpArgs false
namespace Go.Proofs.YtfdgbghlanbddaaDoor.Av
open Go.RowKit Go.Proofs Go.Proofs.YtfdgbghlanbddaaDoor Go.Deep
/-! ### what comes in -/
def start (W : World) : Core := ⟨W, fun _ => none, 0, fun b => b < W.heap.size⟩
theorem ok_start (W : World) : Ok W (start W) [] :=
  ⟨Below.refl _ _, fun b hb => hb, fun b hb => hb, fun id x h => by simp [at_] at h, fun i j s e sz rows s' e' sz' rows' g cap cap' h => by simp [at_] at h⟩
theorem bulk_one {H : Type} (d : DataW H) : 1 ≤ Rows.uptoBulk d := by
  cases d with
  | lit l => cases l <;> simp [Rows.uptoBulk]
  | nil => simp [Rows.uptoBulk]
  | ptr d => simp [Rows.uptoBulk]
  | slice elems spare => simp [Rows.uptoBulk]
  | agg parts => simp [Rows.uptoBulk]
  | iface t d => simp [Rows.uptoBulk]
  | map entries => simp [Rows.uptoBulk]
  | held h => simp [Rows.uptoBulk]
theorem bulk_part {H : Type} {d : DataW H} {l : List (DataW H)} (h : d ∈ l) : Rows.uptoBulk d ≤ Rows.uptoBulkAll l := by
  induction l with
  | nil => cases h
  | cons x r ih =>
    simp only [Rows.uptoBulkAll]
    cases List.mem_cons.1 h with
    | inl e => subst e; omega
    | inr e => have := ih e; omega
theorem bulk_len {H : Type} (l : List (DataW H)) : l.length ≤ Rows.uptoBulkAll l := by
  induction l with
  | nil => simp [Rows.uptoBulkAll]
  | cons x r ih => have := bulk_one x; simp only [Rows.uptoBulkAll, List.length_cons]; omega

theorem repRows_of {c : Core} {m : Option (List Ent)} {sz : Nat} : ∀ {rows : List (List AV)} {vs : List Value}, vs.length = rows.length * sz → (∀ i r, rows[i]? = some r → r.length = sz ∧ Reps c m r ((vs.drop (i * sz)).take sz)) → (∀ v ∈ vs, v.oneCell' = true) → RepRows c m sz rows vs
  | [], vs, hl, _, _ => by
    simp only [List.length_nil, Nat.zero_mul] at hl
    simp only [RepRows]
    exact List.length_eq_zero_iff.1 hl
  | r :: rs, vs, hl, h, ho => by
    simp only [RepRows]
    have h0 := h 0 r rfl
    simp only [Nat.zero_mul, List.drop_zero] at h0
    refine ⟨vs.take sz, vs.drop sz, (List.take_append_drop _ _).symm, h0.1, h0.2, fun v hv => ho v (List.mem_of_mem_take hv), repRows_of ?_ (fun i r' hr => ?_) fun v hv => ho v (List.mem_of_mem_drop hv)⟩
    · rw [List.length_drop, hl, List.length_cons, Nat.succ_mul]
      omega
    · have := h (i + 1) r' (by simpa using hr)
      rw [List.drop_drop]
      rw [show sz + i * sz = (i + 1) * sz by rw [Nat.succ_mul]; omega]
      exact this

/-- What a type's data are told al'. -/
def RDB {α : Type} (B : Nat) (P : Program) (W : World) (t : TypeId) (sz : Nat) (en : α → List AV) (Q : α → Prop) : Prop :=
  ∀ (H : Type) (enc : TypeId × Value → H) (n : Nat) (cs : List Value) (x : DataW H × List MemPlace), DataW.trod enc P W 0 (fun _ => true) true n t cs = some x → Rows.uptoBulk x.1 ≤ B →
    ∃ a : α, Q a ∧ Reps (start W) none (en a) cs ∧ (en a).length = sz ∧ ∀ v ∈ cs, v.oneCell' = true
def RD {α : Type} (P : Program) (W : World) (t : TypeId) (sz : Nat) (en : α → List AV) (Q : α → Prop) : Prop := RDB 1048576 P W t sz en Q
theorem RDB.mono {α : Type} {B B' : Nat} {P : Program} {W : World} {t : TypeId} {sz : Nat} {en : α → List AV} {Q : α → Prop} (h : RDB B P W t sz en Q) (hB : B' ≤ B) : RDB B' P W t sz en Q := fun H enc n cs x hx hb => h H enc n cs x hx (Nat.le_trans hb hB)
theorem addr_add (a : Addr) (p q : Nat) : (a.add p).add q = a.add (p + q) := by
  unfold Addr.add
  by_cases hp : p = 0
  · subst hp; simp
  · by_cases hq : q = 0
    · subst hq; simp [hp]
    · simp [hp, hq, Nat.add_assoc]
theorem cell_at {W : World} {a : Addr} {v : Value} (h : W.cell? a = some v) : a.spot = none ∧ a.block < W.heap.size := by
  unfold World.cell? at h
  split at h
  · rename_i hb
    constructor
    · cases hs : a.spot with
      | none => rfl
      | some k => rw [hs] at h; simp at h
    · exact (Array.getElem?_eq_some_iff.1 hb).1
  · cases h
theorem rd_int {P : Program} {W : World} {t : TypeId} {k : IntKind} (ht : P.underlying t = some (.int k)) : RD P W t 1 (fun n : Int => [AV.int k n]) (fun n => (Lit.int k n).wf = true) := by
  intro H enc n cs x h hb
  obtain ⟨m, rfl, rfl, hw⟩ := DataW.trod_int ht h
  exact ⟨m, hw, by simp only [Reps, Rep]; exact ⟨_, _, rfl, rfl, rfl⟩, rfl, by simp [Value.oneCell']⟩
theorem rd_sliceB {α : Type} [Inhabited α] {B : Nat} (hB : B ≤ 1048575) {P : Program} {W : World} {t e : TypeId} {sz : Nat} {en : α → List AV} {Q : α → Prop} (ht : P.underlying t = some (.slice e)) (hc : P.cellsOf e = sz) (hsz : 0 < sz) (he : RDB B P W e sz en Q) :
    RDB (B + 1) P W t 1 (fun l : List α => [AV.list sz (l.map en)]) (fun l => ∀ a ∈ l, Q a) := by
  intro H enc n cs x h hb
  rcases open_slice ht h with ⟨rfl, rfl⟩ | ⟨a, len, cap, m, n', D, Pl, rfl, _, hlc, _, hm, rfl, hi⟩
  · refine ⟨[], by simp, ?_, rfl, by simp [Value.oneCell']⟩
    simp only [Reps, Rep, List.map_nil]
    exact ⟨_, _, rfl, ⟨none, 0, [], rfl, Nat.le_refl _, Nat.zero_le _, by simp only [RepRows], fun e => absurd rfl e⟩, rfl⟩
  · simp only [if_true] at hm
    subst hm
    simp only [Rows.uptoBulk] at hb
    have hlen : len ≤ 1048576 := by
      have := bulk_len ((List.range len).map D)
      simp only [List.length_map, List.length_range] at this
      omega
    rw [hc] at hi
    have hA : ∀ i, i < len → ∃ b : α, Q b ∧ (en b).length = sz ∧ ∃ cs', W.cells? 0 (a.add (i * sz)) sz = some cs' ∧ Reps (start W) none (en b) cs' ∧ ∀ v ∈ cs', v.oneCell' = true := by
      intro i hil
      obtain ⟨cs', h1, h2⟩ := hi i (by omega)
      have hbi : Rows.uptoBulk (D i) ≤ B := by
        have := bulk_part (l := (List.range len).map D) (List.mem_map.2 ⟨i, List.mem_range.2 hil, rfl⟩)
        omega
      obtain ⟨b, hQ, hr, hl, ho⟩ := he H enc n' cs' (D i, Pl i) h2 hbi
      exact ⟨b, hQ, hl, cs', h1, hr, ho⟩
    obtain ⟨A, hA⟩ := choose_lt hA
    have hsome : ∀ i j, i < len → j < sz → ∃ v, W.cell? (a.add (i * sz + j)) = some v := by
      intro i j hil hj
      obtain ⟨_, _, cs', h1, _, _⟩ := hA i hil
      obtain ⟨_, hl, hcell⟩ := World.cells?_some h1
      have := hcell j hj
      rw [addr_add, List.getElem?_eq_getElem (by omega)] at this
      exact ⟨_, this⟩
    refine ⟨(List.range len).map A, fun b hb => ?_, ?_, rfl, by simp [Value.oneCell']⟩
    · obtain ⟨i, hil, rfl⟩ := List.mem_map.1 hb
      exact (hA i (List.mem_range.1 hil)).1
    · let vs : List Value := (List.range (len * sz)).map fun j => (W.cell? (a.add j)).getD undef
      have hget : ∀ j, j < len * sz → W.cell? (a.add j) = vs[j]? := by
        intro j hj
        have hdm := Nat.div_add_mod j sz
        obtain ⟨v, hv⟩ := hsome (j / sz) (j % sz) (by rw [Nat.div_lt_iff_lt_mul hsz]; exact hj) (Nat.mod_lt _ hsz)
        rw [show j / sz * sz + j % sz = j by rw [Nat.mul_comm]; exact hdm] at hv
        simp only [vs, List.getElem?_map, List.getElem?_range hj, Option.map_some, hv, Option.getD_some]
      have hrow : ∀ i, i < len → ∃ cs', (vs.drop (i * sz)).take sz = cs' ∧ Reps (start W) none (en (A i)) cs' ∧ ∀ v ∈ cs', v.oneCell' = true := by
        intro i hil
        obtain ⟨_, _, cs', h1, h2, h3⟩ := hA i hil
        obtain ⟨_, hl, hcell⟩ := World.cells?_some h1
        refine ⟨cs', ?_, h2, h3⟩
        refine List.ext_getElem? fun j => ?_
        rw [List.getElem?_take]
        by_cases hj : j < sz
        · rw [if_pos hj, List.getElem?_drop, ← hcell j hj, addr_add]
          have : i * sz + j < len * sz := by
            have : (i + 1) * sz ≤ len * sz := Nat.mul_le_mul_right _ hil
            rw [Nat.succ_mul] at this
            omega
          exact (hget _ this).symm
        · rw [if_neg hj, List.getElem?_eq_none (by omega)]
      have hone : ∀ v ∈ vs, v.oneCell' = true := by
        intro v hv
        obtain ⟨j, hj⟩ := List.mem_iff_getElem?.1 hv
        have hjl : j < len * sz := by
          have := (List.getElem?_eq_some_iff.1 hj).1
          simpa [vs] using this
        have hdm := Nat.div_add_mod j sz
        have hil : j / sz < len := by rw [Nat.div_lt_iff_lt_mul hsz]; exact hjl
        obtain ⟨cs', h1, _, h3⟩ := hrow (j / sz) hil
        refine h3 v (List.mem_of_getElem? (i := j % sz) ?_)
        rw [← h1, List.getElem?_take, if_pos (Nat.mod_lt _ hsz), List.getElem?_drop, show j / sz * sz + j % sz = j by rw [Nat.mul_comm]; exact hdm]
        exact hj
      have hrr : RepRows (start W) none sz (((List.range len).map A).map en) vs := by
        refine repRows_of (by simp [vs]) (fun i r hr => ?_) hone
        simp only [List.getElem?_map] at hr
        by_cases hil : i < len
        · rw [List.getElem?_range hil] at hr
          simp only [Option.map_some, Option.some.injEq] at hr
          subst hr
          obtain ⟨cs', h1, h2, _⟩ := hrow i hil
          rw [h1]
          exact ⟨(hA i hil).2.1, h2⟩
        · rw [List.getElem?_eq_none (by simpa using hil)] at hr
          cases hr
      simp only [Reps, Rep]
      refine ⟨_, _, rfl, ⟨some a, m, vs, by simp, by simpa using hlc, by simp [most]; omega, hrr, fun hne => ?_⟩, rfl⟩
      have hpos : 0 < len * sz := by
        rcases Nat.eq_zero_or_pos (len * sz) with h0 | h0
        · exact absurd (List.length_eq_zero_iff.1 (by simp [vs, h0])) hne
        · exact h0
      have hlen0 : 0 < len := Nat.pos_of_mul_pos_right hpos
      obtain ⟨v, hv⟩ := hsome 0 0 hlen0 hsz
      have hat := cell_at hv
      have ha0 : a.add (0 * sz + 0) = a := by simp [Addr.add]
      rw [ha0] at hat
      obtain ⟨b, o, sp⟩ := a
      simp only at hat
      obtain ⟨rfl, hbl⟩ := hat
      refine ⟨b, o, rfl, hbl, fun j hj => ?_⟩
      have := hget j (by simpa [vs] using hj)
      rw [← this]
      show W.cell? _ = W.cell? _
      congr 1
      unfold Addr.add
      split
      · rename_i h0; subst h0; rfl
      · rfl
theorem rd_slice {α : Type} [Inhabited α] {P : Program} {W : World} {t e : TypeId} {sz : Nat} {en : α → List AV} {Q : α → Prop} (ht : P.underlying t = some (.slice e)) (hc : P.cellsOf e = sz) (hsz : 0 < sz) (he : RD P W e sz en Q) :
    RD P W t 1 (fun l : List α => [AV.list sz (l.map en)]) (fun l => ∀ a ∈ l, Q a) := rd_sliceB (B := 1048575) (Nat.le_refl _) ht hc hsz (RDB.mono he (by omega))
end Go.Proofs.YtfdgbghlanbddaaDoor.Av
set_option linter.unusedVariables false
set_option linter.unusedSimpArgs false
set_option maxRecDepth 8000
namespace Go.Proofs.YtfdgbghlanbddaaDoor.Av
open Go.RowKit Go.Proofs Go.Proofs.YtfdgbghlanbddaaDoor Go.Deep
theorem ce3 : Tryd.prog.cellsOf 3 = 1 := by kernel_rfl
theorem ce5 : Tryd.prog.cellsOf 5 = 1 := by kernel_rfl
theorem ce24 : Tryd.prog.cellsOf 24 = 1 := by kernel_rfl
theorem ce26 : Tryd.prog.cellsOf 26 = 4 := by kernel_rfl
theorem ce27 : Tryd.prog.cellsOf 27 = 1 := by kernel_rfl
theorem ce29 : Tryd.prog.cellsOf 29 = 6 := by kernel_rfl
theorem ce34 : Tryd.prog.cellsOf 34 = 1 := by kernel_rfl
theorem ce36 : Tryd.prog.cellsOf 36 = 3 := by kernel_rfl
theorem ce48 : Tryd.prog.cellsOf 48 = 1 := by kernel_rfl
theorem ce75 : Tryd.prog.cellsOf 75 = 6 := by kernel_rfl
def St.ok (s : St) : Prop := 0 ≤ s.w0 ∧ 0 ≤ s.w1 ∧ 0 ≤ s.w2 ∧ 0 ≤ s.w3
def Nf.ok (n : Nf) : Prop := ∀ s ∈ n.st, s.ok
instance : Inhabited St := ⟨⟨0, 0, 0, 0, 0, []⟩⟩
theorem wf_u64 {n : Int} (h : (Lit.int .u64 n).wf = true) : 0 ≤ n ∧ n < 18446744073709551616 := by
  simp only [Lit.wf, Bool.and_eq_true, decide_eq_true_eq] at h
  have h1 : IntKind.u64.min = 0 := by decide
  have h2 : IntKind.u64.max = 18446744073709551615 := by decide
  omega
theorem wf_u8 {n : Int} (h : (Lit.int .u8 n).wf = true) : 0 ≤ n ∧ n < 256 := by
  simp only [Lit.wf, Bool.and_eq_true, decide_eq_true_eq] at h
  have h1 : IntKind.u8.min = 0 := by decide
  have h2 : IntKind.u8.max = 255 := by decide
  omega
variable {W : World}
theorem rd_i64 : RD Tryd.prog W 3 1 (fun n : Int => [AV.int .i64 n]) (fun n => (Lit.int .i64 n).wf = true) := rd_int Tryd.underlying3
theorem rd_u8 : RD Tryd.prog W 5 1 (fun n : Int => [AV.int .u8 n]) (fun n => (Lit.int .u8 n).wf = true) := rd_int Tryd.underlying5
theorem rd_ints : RD Tryd.prog W 48 1 (fun l : List Int => [ints l]) (fun l => ∀ n ∈ l, (Lit.int .i64 n).wf = true) := rd_slice Tryd.underlying48 ce3 (by decide) rd_i64
theorem rd_bytes : RD Tryd.prog W 22 1 (fun l : List Int => [bytesAV l]) (fun l => ∀ n ∈ l, (Lit.int .u8 n).wf = true) := rd_slice Tryd.underlying22 ce5 (by decide) rd_u8
theorem rd_set : RD Tryd.prog W 26 4 W4.row W4.ok := by
  intro H enc n cs x h hb
  obtain ⟨xs, m, _, rfl, hl, hlen, hi⟩ := DataW.trod_array Tryd.underlying26 h
  rw [ce26] at hl
  rw [ce24] at hi
  have one : ∀ i (hi4 : i < 4), ∃ v : Int, (cs.drop i).take 1 = [.int .u64 v] ∧ 0 ≤ v ∧ v < 18446744073709551616 := by
    intro i hi4
    have h1 := hi i hi4
    rw [List.getElem?_eq_getElem (by omega), Nat.mul_one] at h1
    obtain ⟨v, h2, _, h3⟩ := DataW.trod_int Tryd.underlying24 h1
    exact ⟨v, h2, wf_u64 h3⟩
  obtain ⟨v0, e0, a0, b0⟩ := one 0 (by omega)
  obtain ⟨v1, e1, a1, b1⟩ := one 1 (by omega)
  obtain ⟨v2, e2, a2, b2⟩ := one 2 (by omega)
  obtain ⟨v3, e3, a3, b3⟩ := one 3 (by omega)
  match cs, hl with
  | [c0, c1, c2, c3], _ =>
    simp at e0 e1 e2 e3
    subst e0; subst e1; subst e2; subst e3
    refine ⟨⟨v0, v1, v2, v3⟩, ⟨a0, a1, a2, a3, b0, b1, b2, b3⟩, ?_, rfl, by simp [Value.oneCell']⟩
    simp only [W4.row, Reps, Rep]
    exact ⟨_, _, rfl, rfl, _, _, rfl, rfl, _, _, rfl, rfl, _, _, rfl, rfl, rfl⟩
theorem rd_st : RD Tryd.prog W 75 6 St.row St.ok := by
  intro H enc n cs x h hb
  obtain ⟨y0, y1, y2, m, rfl, hl, h0, h1, h2⟩ := trod_struct3 Tryd.underlying75 h
  rw [ce75] at hl
  simp only [ce26, ce3, ce48] at h0 h1 h2
  simp only [Rows.uptoBulk, Rows.uptoBulkAll] at hb
  obtain ⟨s, q0, r0, l0, o0⟩ := rd_set (W := W) H enc _ _ _ h0 (by omega)
  obtain ⟨k, q1, r1, l1, o1⟩ := rd_i64 (W := W) H enc _ _ _ h1 (by omega)
  obtain ⟨f, q2, r2, l2, o2⟩ := rd_ints (W := W) H enc _ _ _ h2 (by omega)
  refine ⟨⟨s.w0, s.w1, s.w2, s.w3, k, f⟩, ⟨q0.1, q0.2.1, q0.2.2.1, q0.2.2.2.1⟩, ?_, rfl, ?_⟩
  · have := (r0.append r1).append r2
    have e : (cs.drop 0).take 4 ++ (cs.drop 4).take 1 ++ (cs.drop 5).take 1 = cs := by
      match cs, hl with
      | [c0, c1, c2, c3, c4, c5], _ => rfl
    rw [e] at this
    exact this
  · match cs, hl with
    | [c0, c1, c2, c3, c4, c5], _ =>
      simp at o0 o1 o2
      simp [o0, o1, o2]
theorem rd_nf : RD Tryd.prog W 36 3 Nf.cells Nf.ok := by
  intro H enc n cs x h hb
  obtain ⟨y0, y1, y2, m, rfl, hl, h0, h1, h2⟩ := trod_struct3 Tryd.underlying36 h
  rw [ce36] at hl
  simp only [ce34, ce3] at h0 h1 h2
  simp only [Rows.uptoBulk, Rows.uptoBulkAll] at hb
  obtain ⟨s, q0, r0, l0, o0⟩ := rd_slice (W := W) Tryd.underlying34 ce75 (by decide) rd_st H enc _ _ _ h0 (by omega)
  obtain ⟨k, q1, r1, l1, o1⟩ := rd_i64 (W := W) H enc _ _ _ h1 (by omega)
  obtain ⟨f, q2, r2, l2, o2⟩ := rd_i64 (W := W) H enc _ _ _ h2 (by omega)
  refine ⟨⟨s, k, f⟩, q0, ?_, rfl, ?_⟩
  · have := (r0.append r1).append r2
    have e : (cs.drop 0).take 1 ++ (cs.drop 1).take 1 ++ (cs.drop 2).take 1 = cs := by
      match cs, hl with
      | [c0, c1, c2], _ => rfl
    rw [e] at this
    exact this
  · match cs, hl with
    | [c0, c1, c2], _ =>
      simp at o0 o1 o2
      simp [o0, o1, o2]

theorem wf_i64 {n : Int} (h : (Lit.int .i64 n).wf = true) : -9223372036854775808 ≤ n ∧ n < 9223372036854775808 := by
  simp only [Lit.wf, Bool.and_eq_true, decide_eq_true_eq] at h
  have h1 : IntKind.i64.min = -9223372036854775808 := by decide
  have h2 : IntKind.i64.max = 9223372036854775807 := by decide
  omega
/-! ### arguments -/
/-- A value of a type of one cell. -/
theorem arg_one {α : Type} {t : TypeId} {en : α → AV} {Q : α → Prop} (hr : RD Tryd.prog W t 1 (fun a => [en a]) Q) {H : Type} {enc : TypeId × Value → H} {v : Value} {d : DataW H} {ps : List MemPlace} (hv : ∀ cs, v ≠ .agg cs)
    (h : DataW.Trod enc Tryd.prog W 0 (fun _ => true) true t v d ps) (hb : Rows.uptoBulk d ≤ 1048576) : ∃ a : α, Q a ∧ Rep (start W) none (en a) v := by
  obtain ⟨n, h⟩ := h
  obtain ⟨a, q, r, _, _⟩ := hr H enc n _ _ h hb
  refine ⟨a, q, ?_⟩
  simp only [Reps] at r
  obtain ⟨v', vs', e, r, rfl⟩ := r
  have : v.cells.toList = [v] := by
    cases v <;> first | rfl | exact absurd rfl (hv _)
  rw [this] at e
  injection e with e _
  subst e
  exact r
/-- A struct. -/
theorem arg_agg {α : Type} {t : TypeId} {sz : Nat} {en : α → List AV} {Q : α → Prop} (hr : RD Tryd.prog W t sz en Q) {H : Type} {enc : TypeId × Value → H} {v : Value} {d : DataW H} {ps : List MemPlace} (hv : ∃ cs, v = .agg cs)
    (h : DataW.Trod enc Tryd.prog W 0 (fun _ => true) true t v d ps) (hb : Rows.uptoBulk d ≤ 1048576) : ∃ a : α, Q a ∧ Rep (start W) none (.agg (en a)) v := by
  obtain ⟨n, h⟩ := h
  obtain ⟨cs, rfl⟩ := hv
  obtain ⟨a, q, r, _, o⟩ := hr H enc n _ _ h hb
  refine ⟨a, q, ?_⟩
  simp only [Rep]
  exact ⟨cs, rfl, r, o⟩
end Go.Proofs.YtfdgbghlanbddaaDoor.Av
set_option linter.unusedVariables false
set_option linter.unusedSimpArgs false
namespace Go.Proofs.YtfdgbghlanbddaaDoor.Av
open Go.RowKit Go.Proofs Go.Proofs.YtfdgbghlanbddaaDoor Go.Deep
/-! ### what comes in, and how great it is -/
def RDM {α : Type} (B : Nat) (P : Program) (W : World) (t : TypeId) (sz : Nat) (en : α → List AV) (μ : α → Nat) (Q : α → Prop) : Prop :=
  ∀ (H : Type) (enc : TypeId × Value → H) (n : Nat) (cs : List Value) (x : DataW H × List MemPlace), DataW.trod enc P W 0 (fun _ => true) true n t cs = some x → Rows.uptoBulk x.1 ≤ B →
    ∃ a : α, Q a ∧ μ a ≤ Rows.uptoBulk x.1 ∧ Reps (start W) none (en a) cs ∧ (en a).length = sz ∧ ∀ v ∈ cs, v.oneCell' = true
theorem sum_le {H : Type} : ∀ (n : Nat) (f : Nat → Nat) (D : Nat → DataW H), (∀ i, i < n → f i ≤ Rows.uptoBulk (D i)) → ((List.range n).map f).sum ≤ Rows.uptoBulkAll ((List.range n).map D)
  | 0, _, _, _ => by simp
  | n + 1, f, D, h => by
    have ih := sum_le n f D (fun i hi => h i (by omega))
    have happ : ∀ a b : List (DataW H), Rows.uptoBulkAll (a ++ b) = Rows.uptoBulkAll a + Rows.uptoBulkAll b := by
      intro a b
      induction a with
      | nil => simp [Rows.uptoBulkAll]
      | cons x y ih => simp only [List.cons_append, Rows.uptoBulkAll, ih]; omega
    rw [List.range_succ, List.map_append, List.map_append, List.sum_append, happ]
    have := h n (by omega)
    simp only [List.map_cons, List.map_nil, List.sum_cons, List.sum_nil, Rows.uptoBulkAll]
    omega
theorem nodesL_sum (l : List Rx) : (l.map fun r => 4 * r.nodes).sum = 4 * Rx.nodesL l := by
  induction l with
  | nil => simp [Rx.nodesL]
  | cons a t ih => simp only [List.map_cons, List.sum_cons, Rx.nodesL, ih]; omega
theorem rd_sliceM {α : Type} [Inhabited α] {B : Nat} (hB : B ≤ 1048575) {P : Program} {W : World} {t e : TypeId} {sz : Nat} {en : α → List AV} {μ : α → Nat} {Q : α → Prop} (ht : P.underlying t = some (.slice e)) (hc : P.cellsOf e = sz) (hsz : 0 < sz) (he : RDM B P W e sz en μ Q) :
    RDM (B + 1) P W t 1 (fun l : List α => [AV.list sz (l.map en)]) (fun l => (l.map μ).sum + 1) (fun l => ∀ a ∈ l, Q a) := by
  intro H enc n cs x h hb
  rcases open_slice ht h with ⟨rfl, rfl⟩ | ⟨a, len, cap, m, n', D, Pl, rfl, _, hlc, _, hm, rfl, hi⟩
  · refine ⟨[], by simp, by simp [Rows.uptoBulk], ?_, rfl, by simp [Value.oneCell']⟩
    simp only [Reps, Rep, List.map_nil]
    exact ⟨_, _, rfl, ⟨none, 0, [], rfl, Nat.le_refl _, Nat.zero_le _, by simp only [RepRows], fun e => absurd rfl e⟩, rfl⟩
  · simp only [if_true] at hm
    subst hm
    simp only [Rows.uptoBulk] at hb
    have hlen : len ≤ 1048576 := by
      have := bulk_len ((List.range len).map D)
      simp only [List.length_map, List.length_range] at this
      omega
    rw [hc] at hi
    have hA : ∀ i, i < len → ∃ b : α, Q b ∧ μ b ≤ Rows.uptoBulk (D i) ∧ (en b).length = sz ∧ ∃ cs', W.cells? 0 (a.add (i * sz)) sz = some cs' ∧ Reps (start W) none (en b) cs' ∧ ∀ v ∈ cs', v.oneCell' = true := by
      intro i hil
      obtain ⟨cs', h1, h2⟩ := hi i (by omega)
      have hbi : Rows.uptoBulk (D i) ≤ B := by
        have := bulk_part (l := (List.range len).map D) (List.mem_map.2 ⟨i, List.mem_range.2 hil, rfl⟩)
        omega
      obtain ⟨b, hQ, hmu, hr, hl, ho⟩ := he H enc n' cs' (D i, Pl i) h2 hbi
      exact ⟨b, hQ, hmu, hl, cs', h1, hr, ho⟩
    obtain ⟨A, hA⟩ := choose_lt hA
    have hsome : ∀ i j, i < len → j < sz → ∃ v, W.cell? (a.add (i * sz + j)) = some v := by
      intro i j hil hj
      obtain ⟨_, _, _, cs', h1, _, _⟩ := hA i hil
      obtain ⟨_, hl, hcell⟩ := World.cells?_some h1
      have := hcell j hj
      rw [addr_add, List.getElem?_eq_getElem (by omega)] at this
      exact ⟨_, this⟩
    refine ⟨(List.range len).map A, fun b hb => ?_, ?_, ?_, rfl, by simp [Value.oneCell']⟩
    · obtain ⟨i, hil, rfl⟩ := List.mem_map.1 hb
      exact (hA i (List.mem_range.1 hil)).1
    · have := sum_le len (fun i => μ (A i)) D (fun i hil => (hA i hil).2.1)
      simp only [List.map_map, Rows.uptoBulk]
      simp only [Function.comp_def]
      omega
    · let vs : List Value := (List.range (len * sz)).map fun j => (W.cell? (a.add j)).getD undef
      have hget : ∀ j, j < len * sz → W.cell? (a.add j) = vs[j]? := by
        intro j hj
        have hdm := Nat.div_add_mod j sz
        obtain ⟨v, hv⟩ := hsome (j / sz) (j % sz) (by rw [Nat.div_lt_iff_lt_mul hsz]; exact hj) (Nat.mod_lt _ hsz)
        rw [show j / sz * sz + j % sz = j by rw [Nat.mul_comm]; exact hdm] at hv
        simp only [vs, List.getElem?_map, List.getElem?_range hj, Option.map_some, hv, Option.getD_some]
      have hrow : ∀ i, i < len → ∃ cs', (vs.drop (i * sz)).take sz = cs' ∧ Reps (start W) none (en (A i)) cs' ∧ ∀ v ∈ cs', v.oneCell' = true := by
        intro i hil
        obtain ⟨_, _, _, cs', h1, h2, h3⟩ := hA i hil
        obtain ⟨_, hl, hcell⟩ := World.cells?_some h1
        refine ⟨cs', ?_, h2, h3⟩
        refine List.ext_getElem? fun j => ?_
        rw [List.getElem?_take]
        by_cases hj : j < sz
        · rw [if_pos hj, List.getElem?_drop, ← hcell j hj, addr_add]
          have : i * sz + j < len * sz := by
            have : (i + 1) * sz ≤ len * sz := Nat.mul_le_mul_right _ hil
            rw [Nat.succ_mul] at this
            omega
          exact (hget _ this).symm
        · rw [if_neg hj, List.getElem?_eq_none (by omega)]
      have hone : ∀ v ∈ vs, v.oneCell' = true := by
        intro v hv
        obtain ⟨j, hj⟩ := List.mem_iff_getElem?.1 hv
        have hjl : j < len * sz := by
          have := (List.getElem?_eq_some_iff.1 hj).1
          simpa [vs] using this
        have hdm := Nat.div_add_mod j sz
        have hil : j / sz < len := by rw [Nat.div_lt_iff_lt_mul hsz]; exact hjl
        obtain ⟨cs', h1, _, h3⟩ := hrow (j / sz) hil
        refine h3 v (List.mem_of_getElem? (i := j % sz) ?_)
        rw [← h1, List.getElem?_take, if_pos (Nat.mod_lt _ hsz), List.getElem?_drop, show j / sz * sz + j % sz = j by rw [Nat.mul_comm]; exact hdm]
        exact hj
      have hrr : RepRows (start W) none sz (((List.range len).map A).map en) vs := by
        refine repRows_of (by simp [vs]) (fun i r hr => ?_) hone
        simp only [List.getElem?_map] at hr
        by_cases hil : i < len
        · rw [List.getElem?_range hil] at hr
          simp only [Option.map_some, Option.some.injEq] at hr
          subst hr
          obtain ⟨cs', h1, h2, _⟩ := hrow i hil
          rw [h1]
          exact ⟨(hA i hil).2.2.1, h2⟩
        · rw [List.getElem?_eq_none (by simpa using hil)] at hr
          cases hr
      simp only [Reps, Rep]
      refine ⟨_, _, rfl, ⟨some a, m, vs, by simp, by simpa using hlc, by simp [most]; omega, hrr, fun hne => ?_⟩, rfl⟩
      have hpos : 0 < len * sz := by
        rcases Nat.eq_zero_or_pos (len * sz) with h0 | h0
        · exact absurd (List.length_eq_zero_iff.1 (by simp [vs, h0])) hne
        · exact h0
      have hlen0 : 0 < len := Nat.pos_of_mul_pos_right hpos
      obtain ⟨v, hv⟩ := hsome 0 0 hlen0 hsz
      have hat := cell_at hv
      have ha0 : a.add (0 * sz + 0) = a := by simp [Addr.add]
      rw [ha0] at hat
      obtain ⟨b, o, sp⟩ := a
      simp only at hat
      obtain ⟨rfl, hbl⟩ := hat
      refine ⟨b, o, rfl, hbl, fun j hj => ?_⟩
      have := hget j (by simpa [vs] using hj)
      rw [← this]
      show W.cell? _ = W.cell? _
      congr 1
      unfold Addr.add
      split
      · rename_i h0; subst h0; rfl
      · rfl
section
variable {W : World}
theorem rd_rxM : ∀ B, B ≤ 1048576 → RDM B Tryd.prog W 29 6 Rx.cells (fun r => 4 * r.nodes) Rx.ok := by
  intro B
  induction B using Nat.strongRecOn with
  | _ B ih =>
    intro hB H enc n cs x h hb
    obtain ⟨y0, y1, y2, m, rfl, hl, h0, h1, h2⟩ := trod_struct3 Tryd.underlying29 h
    rw [ce29] at hl
    simp only [ce26, ce3, ce27] at h0 h1 h2
    simp only [Rows.uptoBulk, Rows.uptoBulkAll] at hb
    have b1 := bulk_one y0.1
    have b2 := bulk_one y1.1
    have b3 := bulk_one y2.1
    obtain ⟨k, q0, r0, l0, o0⟩ := rd_i64 (W := W) H enc _ _ _ h0 (by omega)
    obtain ⟨s, q1, r1, l1, o1⟩ := rd_set (W := W) H enc _ _ _ h1 (by omega)
    obtain ⟨l, q2, m2, r2, l2, o2⟩ := rd_sliceM (B := B - 2) (by omega) Tryd.underlying27 ce29 (by decide) (ih (B - 2) (by omega) (by omega)) H enc _ _ _ h2 (by omega)
    refine ⟨.mk k s l, ?_, ?_, ?_, rfl, ?_⟩
    · simp only [Rx.ok, Rx.oks_iff]
      exact ⟨wf_i64 q0, q1, q2⟩
    · simp only [Rows.uptoBulk, Rows.uptoBulkAll, Rx.nodes]
      simp only [nodesL_sum] at m2
      omega
    · have := (r0.append r1).append r2
      have e : (cs.drop 0).take 1 ++ (cs.drop 1).take 4 ++ (cs.drop 5).take 1 = cs := by
        match cs, hl with
        | [c0, c1, c2, c3, c4, c5], _ => rfl
      rw [e] at this
      simp only [Rx.cells, Rx.kind, Rx.set, Rx.args, Rx.rows_eq]
      exact this
    · match cs, hl with
      | [c0, c1, c2, c3, c4, c5], _ =>
        simp at o0 o1 o2
        simp [o0, o1, o2]
theorem arg_rx {H : Type} {enc : TypeId × Value → H} {v : Value} {d : DataW H} {ps : List MemPlace} (hv : ∃ cs, v = .agg cs)
    (h : DataW.Trod enc Tryd.prog W 0 (fun _ => true) true 29 v d ps) (hb : Rows.uptoBulk d ≤ 1048576) : ∃ r : Rx, (r.ok ∧ r.nodes ≤ 262144) ∧ Rep (start W) none (.agg r.cells) v := by
  obtain ⟨n, h⟩ := h
  obtain ⟨cs, rfl⟩ := hv
  obtain ⟨a, q, hm, r, _, o⟩ := rd_rxM 1048576 (Nat.le_refl _) H enc n _ _ h hb
  refine ⟨a, ⟨q, ?_⟩, ?_⟩
  · simp only at hm; omega
  · simp only [Rep]
    exact ⟨cs, rfl, r, o⟩
end
end Go.Proofs.YtfdgbghlanbddaaDoor.Av
set_option linter.unusedVariables false
set_option linter.unusedSimpArgs false
set_option maxRecDepth 8000
namespace Go.Proofs.YtfdgbghlanbddaaDoor.Av
open Go.RowKit Go.Proofs Go.Proofs.YtfdgbghlanbddaaDoor Go.Deep Go.ChangeShapes Go.WideShapes Go.ChangeAt
theorem laidOut : laidOutB Tryd.prog = true := by kernel_rfl
def readsB (P : Program) (ts : List Nat) : Bool := ts.all fun t => P.readableRec t && decide (t < P.types.size)
theorem args_stay {H : Type} {enc : TypeId × Value → H} {P : Program} (hl : laidOutB P = true) {W W' : World} (hb : Below W.heap.size W W') : ∀ (ts : List TypeId) {vs : List Value} {ds : List (DataW H)} {ps : List MemPlace}, readsB P ts = true → (∀ p ∈ ps, p.block < W.heap.size) →
    DataW.TrodAll enc P W 0 (fun _ => true) true ts vs ds ps → DataW.TrodAll enc P W' 0 (fun b => decide (b < W.heap.size)) true ts vs ds ps := by
  intro ts
  induction ts with
  | nil =>
    intro vs ds ps _ _ h
    obtain ⟨rfl, rfl, rfl⟩ := trodAll_nil h
    exact trodAll_mk0
  | cons t ts ih =>
    intro vs ds ps hr hlt h
    obtain ⟨v, vs', d, ds', p, q, rfl, rfl, rfl, h0, h1⟩ := trodAll_cons h
    simp only [readsB, List.all_cons, Bool.and_eq_true, decide_eq_true_eq] at hr
    exact trodAll_cons_mk (Below.trod hl hr.1.1 hr.1.2 h0 hb (fun x hx => hlt x (by simp [hx]))) (ih hr.2 (fun x hx => hlt x (by simp [hx])) h1)
/-- What a law's contract gives: it answers true, all that was there is al' it was. -/
theorem law_post {fid : Nat} {f : Func} {s : ChangeSpec} {H : Type} {enc : TypeId × Value → H} {W : World} {args : Array Value} {ds gs : List (DataW H)} {before : List MemPlace} {avs : List AV}
    (hres : f.resultTypes = #[4]) (hvars : s.vars = []) (hr : readsB Tryd.prog f.params.toList = true) (hW : DataW.Whole enc Tryd.prog f.params.toList s.vars false W args.toList ds gs before)
    (h1 : (s.fn H (ds ++ gs)).results = [.lit (.bool true)]) (h2 : (s.fn H (ds ++ gs)).args = ds) (h3 : (s.fn H (ds ++ gs)).vars = [])
    (hc : ACalls Tryd.prog W fid avs [] fun r es' => r = .bool true) (hrep : Reps (start W) none avs args.toList) :
    Calls Tryd.prog fid args W fun e W' => ∃ v, e = .returned v ∧ s.post enc Tryd.prog f false true false false W args v W' := by
  refine (hc (start W) args (ok_start W) (hrep.up _)).mono fun e w' ⟨v, c', es', r, he, hw, _, ok, hv, hr'⟩ => ⟨v, he, ?_⟩
  subst hr'
  simp only [Rep] at hv
  subst hv
  subst hw
  have hb := ok.below
  have hW' := hW
  obtain ⟨p, q, hA, hV, rfl, _, _⟩ := hW
  rw [hvars] at hV
  obtain ⟨rfl, rfl⟩ := trodVars_none hV
  refine ⟨ds, [], p ++ [], [], p, [], hW', ?_, ?_, ?_, hb.frame _, fun h => by cases h⟩
  · rw [hres, h1]
    exact trodAll_cons_mk (shut_bool Tryd.underlying4 _) trodAll_mk0
  · rw [h2]
    exact args_stay laidOut hb _ hr (fun x hx => hW'.lt x (by simpa using hx)) hA
  · rw [h3, hvars]
    rfl
theorem ownk : ownKnob Tryd.prog.godebug = none := by kernel_rfl
theorem bulk_of {H : Type} {l : List (DataW H)} (hk : Rows.uptoSmall H l = true) : Rows.uptoBulkAll l ≤ 1048576 := by simpa [Rows.uptoSmall] using hk
/-- What the types of the arguments say of their outermost form. -/
theorem okw_slice {W : World} {base : Nat} {t e : TypeId} {v : Value} (ht : Tryd.prog.underlying t = some (.slice e)) (h : Value.okWide Tryd.prog W .any base t v) : ∀ cs, v ≠ .agg cs := by
  rintro cs rfl
  simp [Value.okWide, ht, Cell.okWide, Cell.ok] at h
theorem okw_int {W : World} {base : Nat} {t : TypeId} {k : IntKind} {v : Value} (ht : Tryd.prog.underlying t = some (.int k)) (h : Value.okWide Tryd.prog W .any base t v) : ∀ cs, v ≠ .agg cs := by
  rintro cs rfl
  simp [Value.okWide, ht, Cell.okWide, Cell.ok] at h
theorem okw_agg {W : World} {base : Nat} {t : TypeId} {fs : Array Field} {v : Value} (ht : Tryd.prog.underlying t = some (.struct fs)) (h : Value.okWide Tryd.prog W .any base t v) : ∃ cs, v = .agg cs := by
  simp only [Value.okWide, ht] at h
  obtain ⟨cs, rfl, _⟩ := h
  exact ⟨cs, rfl⟩
/-- A world for the witness: the settled one, the table (block 0) holding what its initialiser lays. -/
noncomputable def table : Array Value := #[.int .u8 0, .int .u8 1, .int .u8 56, .int .u8 2, .int .u8 57, .int .u8 49, .int .u8 28, .int .u8 3, .int .u8 61, .int .u8 58, .int .u8 42, .int .u8 50, .int .u8 38, .int .u8 29, .int .u8 17, .int .u8 4, .int .u8 62, .int .u8 47, .int .u8 59, .int .u8 36, .int .u8 45, .int .u8 43, .int .u8 51, .int .u8 22, .int .u8 53, .int .u8 39, .int .u8 33, .int .u8 30, .int .u8 24, .int .u8 18, .int .u8 12, .int .u8 5, .int .u8 63, .int .u8 55, .int .u8 48, .int .u8 27, .int .u8 60, .int .u8 41, .int .u8 37, .int .u8 16, .int .u8 46, .int .u8 35, .int .u8 44, .int .u8 21, .int .u8 52, .int .u8 32, .int .u8 23, .int .u8 11, .int .u8 54, .int .u8 26, .int .u8 40, .int .u8 15, .int .u8 34, .int .u8 20, .int .u8 31, .int .u8 10, .int .u8 25, .int .u8 14, .int .u8 19, .int .u8 9, .int .u8 13, .int .u8 8, .int .u8 7, .int .u8 6]
noncomputable def laidWorld (os : Os) : World :=
  { World.holding Tryd.prog os ⟨#[], #[], []⟩ with heap := (World.holding Tryd.prog os ⟨#[], #[], []⟩).heap.modify 0 fun
      | .cells _ t frozen => .cells table t frozen
      | o => o }
end Go.Proofs.YtfdgbghlanbddaaDoor.Av
set_option maxRecDepth 100000
namespace Go.Proofs.YtfdgbghlanbddaaDoor.Av
open Go.Proofs Go.Proofs.YtfdgbghlanbddaaDoor
theorem tab_global : Tryd.prog.globalNamed "math/bits.deBruijn64tab" = some 0 := by kernel_rfl
theorem tab_type : (Tryd.prog.globals[0]?).map (·.type) = some 171 := by kernel_rfl
theorem tab_und : Tryd.prog.underlying 171 = some (.array 64 5) := by kernel_rfl
theorem tab_u8 : Tryd.prog.underlying 5 = some (.int .u8) := by kernel_rfl
theorem tab_c5 : Tryd.prog.cellsOf 5 = 1 := by kernel_rfl
theorem tab_c171 : Tryd.prog.cellsOf 171 = 64 := by kernel_rfl
theorem tab_data : (Rows.laid_math_bits_deBruijn64tab : DataW Unit) = Lib.tabData .u8 (Lib.deBruijn64tab.map Int.ofNat) := rfl
/-- The table is al' it was laid. -/
theorem tab_in {W : World} (h : laidMetH Tryd.prog [("math/bits.deBruijn64tab", Rows.laid_math_bits_deBruijn64tab)] W) : Tab W := by
  have h1 : laidMet Tryd.prog [("math/bits.deBruijn64tab", Rows.laid_math_bits_deBruijn64tab)] W := h
  rw [tab_data] at h1
  have ht := Lib.tabIs_of_head tab_global tab_type tab_und tab_u8 tab_c5 tab_c171 h1
  have hc : ∀ i, i < 64 → W.cell? ⟨0, i, none⟩ = some (.int .u8 (Lib.deBruijn64tab.getD i 0 : Nat)) := by
    intro i hi
    have hl : Lib.deBruijn64tab.length = 64 := rfl
    rw [ht.cell tab_global i (by rw [List.length_map, hl]; exact hi)]
    have : i < Lib.deBruijn64tab.length := by omega
    simp [List.getD, this]
  exact ⟨(cell_at (hc 0 (by omega))).2, hc⟩
end Go.Proofs.YtfdgbghlanbddaaDoor.Av
set_option maxRecDepth 100000
namespace Go.Proofs.YtfdgbghlanbddaaDoor.Av
open Go.Proofs Go.Proofs.YtfdgbghlanbddaaDoor
theorem io : Tryd.prog.initOrder = "harness d8d313f7324173a1e48e18dbbd53aea0b652cc2db0b3cb826d55cdaae13b972b cut at scriptory/scriptorylaw9.ThompsonBuilds scriptory/scriptorylaw9.ThompsonRefuses scriptory/scriptorylaw9.ThompsonCloses scriptory/scriptorylaw9.ThompsonJoins scriptory/scriptorylaw9.ThompsonRuns scriptory/scriptorylaw9.ThompsonGoes scriptory/scriptorylaw10.SubsetAll scriptory/scriptorylaw10.SubsetMade scriptory/scriptorylaw10.SubsetRuns scriptory/scriptorylaw10.SubsetBudget scriptory/scriptorylaw10.SubsetReach scriptory/scriptorylaw10.SubsetStep scriptory/scriptorylaw8.LangAll scriptory/scriptorylaw8.LangMade scriptory/scriptorylaw8.LangSteps scriptory/scriptorylaw8.LangMeans scriptory/scriptorylaw8.LangFirst scriptory/scriptorylaw8.LangStar scriptory/scriptorylaw8.LangSame scriptory/scriptorylaw8.LangNone" := by kernel_rfl
def headChars : List Char := [104, 97, 114, 110, 101, 115, 115, 32, 100, 56, 100, 51, 49, 51, 102, 55, 51, 50, 52, 49, 55, 51, 97, 49, 101, 52, 56, 101, 49, 56, 100, 98, 98, 100, 53, 51, 97, 101, 97, 48, 98, 54, 53, 50, 99, 99, 50, 100, 98, 48, 98, 51, 99, 98, 56, 50, 54, 100, 53, 53, 99, 100, 97, 97, 101, 49, 51, 98, 57, 55, 50, 98, 32, 99, 117, 116, 32, 97, 116, 32, 115, 99, 114, 105, 112, 116, 111, 114, 121, 47, 115, 99, 114, 105, 112, 116, 111, 114, 121, 108, 97, 119, 57, 46, 84, 104, 111, 109, 112, 115, 111, 110, 66, 117, 105, 108, 100, 115, 32, 115, 99, 114, 105, 112, 116, 111, 114, 121, 47, 115, 99, 114, 105, 112, 116, 111, 114, 121, 108, 97, 119, 57, 46, 84, 104, 111, 109, 112, 115, 111, 110, 82, 101, 102, 117, 115, 101, 115, 32, 115, 99, 114, 105, 112, 116, 111, 114, 121, 47, 115, 99, 114, 105, 112, 116, 111, 114, 121, 108, 97, 119, 57, 46, 84, 104, 111, 109, 112, 115, 111, 110, 67, 108, 111, 115, 101, 115, 32, 115, 99, 114, 105, 112, 116, 111, 114, 121, 47, 115, 99, 114, 105, 112, 116, 111, 114, 121, 108, 97, 119, 57, 46, 84, 104, 111, 109, 112, 115, 111, 110, 74, 111, 105, 110, 115, 32, 115, 99, 114, 105, 112, 116, 111, 114, 121, 47, 115, 99, 114, 105, 112, 116, 111, 114, 121, 108, 97, 119, 57, 46, 84, 104, 111, 109, 112, 115, 111, 110, 82, 117, 110, 115, 32, 115, 99, 114, 105, 112, 116, 111, 114, 121, 47, 115, 99, 114, 105, 112, 116, 111, 114, 121, 108, 97, 119, 57, 46, 84, 104, 111, 109, 112, 115, 111, 110, 71, 111, 101, 115, 32, 115, 99, 114, 105, 112, 116, 111, 114, 121, 47, 115, 99, 114, 105, 112, 116, 111, 114, 121, 108, 97, 119, 49, 48, 46, 83, 117, 98, 115, 101, 116, 65, 108, 108, 32, 115, 99, 114, 105, 112, 116, 111, 114, 121, 47, 115, 99, 114, 105, 112, 116, 111, 114, 121, 108, 97, 119, 49, 48, 46, 83, 117, 98, 115, 101, 116, 77, 97, 100, 101, 32, 115, 99, 114, 105, 112, 116, 111, 114, 121, 47, 115, 99, 114, 105, 112, 116, 111, 114, 121, 108, 97, 119, 49, 48, 46, 83, 117, 98, 115, 101, 116, 82, 117, 110, 115, 32, 115, 99, 114, 105, 112, 116, 111, 114, 121, 47, 115, 99, 114, 105, 112, 116, 111, 114, 121, 108, 97, 119, 49, 48, 46, 83, 117, 98, 115, 101, 116, 66, 117, 100, 103, 101, 116, 32, 115, 99, 114, 105, 112, 116, 111, 114, 121, 47, 115, 99, 114, 105, 112, 116, 111, 114, 121, 108, 97, 119, 49, 48, 46, 83, 117, 98, 115, 101, 116, 82, 101, 97, 99, 104, 32, 115, 99, 114, 105, 112, 116, 111, 114, 121, 47, 115, 99, 114, 105, 112, 116, 111, 114, 121, 108, 97, 119, 49, 48, 46, 83, 117, 98, 115, 101, 116, 83, 116, 101, 112, 32, 115, 99, 114, 105, 112, 116, 111, 114, 121, 47, 115, 99, 114, 105, 112, 116, 111, 114, 121, 108, 97, 119, 56, 46, 76, 97, 110, 103, 65, 108, 108, 32, 115, 99, 114, 105, 112, 116, 111, 114, 121, 47, 115, 99, 114, 105, 112, 116, 111, 114, 121, 108, 97, 119, 56, 46, 76, 97, 110, 103, 77, 97, 100, 101, 32, 115, 99, 114, 105, 112, 116, 111, 114, 121, 47, 115, 99, 114, 105, 112, 116, 111, 114, 121, 108, 97, 119, 56, 46, 76, 97, 110, 103, 83, 116, 101, 112, 115, 32, 115, 99, 114, 105, 112, 116, 111, 114, 121, 47, 115, 99, 114, 105, 112, 116, 111, 114, 121, 108, 97, 119, 56, 46, 76, 97, 110, 103, 77, 101, 97, 110, 115, 32, 115, 99, 114, 105, 112, 116, 111, 114, 121, 47, 115, 99, 114, 105, 112, 116, 111, 114, 121, 108, 97, 119, 56, 46, 76, 97, 110, 103, 70, 105, 114, 115, 116, 32, 115, 99, 114, 105, 112, 116, 111, 114, 121, 47, 115, 99, 114, 105, 112, 116, 111, 114, 121, 108, 97, 119, 56, 46, 76, 97, 110, 103, 83, 116, 97, 114, 32, 115, 99, 114, 105, 112, 116, 111, 114, 121, 47, 115, 99, 114, 105, 112, 116, 111, 114, 121, 108, 97, 119, 56, 46, 76, 97, 110, 103, 83, 97, 109, 101, 32, 115, 99, 114, 105, 112, 116, 111, 114, 121, 47, 115, 99, 114, 105, 112, 116, 111, 114, 121, 108, 97, 119, 56, 46, 76, 97, 110, 103, 78, 111, 110, 101].map Char.ofNat
theorem iol : Tryd.prog.initOrder.toList = headChars := by
  rw [io]
  exact String.toList_ofList
def headWords : List (List Char) := [[104, 97, 114, 110, 101, 115, 115], [100, 56, 100, 51, 49, 51, 102, 55, 51, 50, 52, 49, 55, 51, 97, 49, 101, 52, 56, 101, 49, 56, 100, 98, 98, 100, 53, 51, 97, 101, 97, 48, 98, 54, 53, 50, 99, 99, 50, 100, 98, 48, 98, 51, 99, 98, 56, 50, 54, 100, 53, 53, 99, 100, 97, 97, 101, 49, 51, 98, 57, 55, 50, 98], [99, 117, 116], [97, 116], [115, 99, 114, 105, 112, 116, 111, 114, 121, 47, 115, 99, 114, 105, 112, 116, 111, 114, 121, 108, 97, 119, 57, 46, 84, 104, 111, 109, 112, 115, 111, 110, 66, 117, 105, 108, 100, 115], [115, 99, 114, 105, 112, 116, 111, 114, 121, 47, 115, 99, 114, 105, 112, 116, 111, 114, 121, 108, 97, 119, 57, 46, 84, 104, 111, 109, 112, 115, 111, 110, 82, 101, 102, 117, 115, 101, 115], [115, 99, 114, 105, 112, 116, 111, 114, 121, 47, 115, 99, 114, 105, 112, 116, 111, 114, 121, 108, 97, 119, 57, 46, 84, 104, 111, 109, 112, 115, 111, 110, 67, 108, 111, 115, 101, 115], [115, 99, 114, 105, 112, 116, 111, 114, 121, 47, 115, 99, 114, 105, 112, 116, 111, 114, 121, 108, 97, 119, 57, 46, 84, 104, 111, 109, 112, 115, 111, 110, 74, 111, 105, 110, 115], [115, 99, 114, 105, 112, 116, 111, 114, 121, 47, 115, 99, 114, 105, 112, 116, 111, 114, 121, 108, 97, 119, 57, 46, 84, 104, 111, 109, 112, 115, 111, 110, 82, 117, 110, 115], [115, 99, 114, 105, 112, 116, 111, 114, 121, 47, 115, 99, 114, 105, 112, 116, 111, 114, 121, 108, 97, 119, 57, 46, 84, 104, 111, 109, 112, 115, 111, 110, 71, 111, 101, 115], [115, 99, 114, 105, 112, 116, 111, 114, 121, 47, 115, 99, 114, 105, 112, 116, 111, 114, 121, 108, 97, 119, 49, 48, 46, 83, 117, 98, 115, 101, 116, 65, 108, 108], [115, 99, 114, 105, 112, 116, 111, 114, 121, 47, 115, 99, 114, 105, 112, 116, 111, 114, 121, 108, 97, 119, 49, 48, 46, 83, 117, 98, 115, 101, 116, 77, 97, 100, 101], [115, 99, 114, 105, 112, 116, 111, 114, 121, 47, 115, 99, 114, 105, 112, 116, 111, 114, 121, 108, 97, 119, 49, 48, 46, 83, 117, 98, 115, 101, 116, 82, 117, 110, 115], [115, 99, 114, 105, 112, 116, 111, 114, 121, 47, 115, 99, 114, 105, 112, 116, 111, 114, 121, 108, 97, 119, 49, 48, 46, 83, 117, 98, 115, 101, 116, 66, 117, 100, 103, 101, 116], [115, 99, 114, 105, 112, 116, 111, 114, 121, 47, 115, 99, 114, 105, 112, 116, 111, 114, 121, 108, 97, 119, 49, 48, 46, 83, 117, 98, 115, 101, 116, 82, 101, 97, 99, 104], [115, 99, 114, 105, 112, 116, 111, 114, 121, 47, 115, 99, 114, 105, 112, 116, 111, 114, 121, 108, 97, 119, 49, 48, 46, 83, 117, 98, 115, 101, 116, 83, 116, 101, 112], [115, 99, 114, 105, 112, 116, 111, 114, 121, 47, 115, 99, 114, 105, 112, 116, 111, 114, 121, 108, 97, 119, 56, 46, 76, 97, 110, 103, 65, 108, 108], [115, 99, 114, 105, 112, 116, 111, 114, 121, 47, 115, 99, 114, 105, 112, 116, 111, 114, 121, 108, 97, 119, 56, 46, 76, 97, 110, 103, 77, 97, 100, 101], [115, 99, 114, 105, 112, 116, 111, 114, 121, 47, 115, 99, 114, 105, 112, 116, 111, 114, 121, 108, 97, 119, 56, 46, 76, 97, 110, 103, 83, 116, 101, 112, 115], [115, 99, 114, 105, 112, 116, 111, 114, 121, 47, 115, 99, 114, 105, 112, 116, 111, 114, 121, 108, 97, 119, 56, 46, 76, 97, 110, 103, 77, 101, 97, 110, 115], [115, 99, 114, 105, 112, 116, 111, 114, 121, 47, 115, 99, 114, 105, 112, 116, 111, 114, 121, 108, 97, 119, 56, 46, 76, 97, 110, 103, 70, 105, 114, 115, 116], [115, 99, 114, 105, 112, 116, 111, 114, 121, 47, 115, 99, 114, 105, 112, 116, 111, 114, 121, 108, 97, 119, 56, 46, 76, 97, 110, 103, 83, 116, 97, 114], [115, 99, 114, 105, 112, 116, 111, 114, 121, 47, 115, 99, 114, 105, 112, 116, 111, 114, 121, 108, 97, 119, 56, 46, 76, 97, 110, 103, 83, 97, 109, 101], [115, 99, 114, 105, 112, 116, 111, 114, 121, 47, 115, 99, 114, 105, 112, 116, 111, 114, 121, 108, 97, 119, 56, 46, 76, 97, 110, 103, 78, 111, 110, 101]].map fun l : List Nat => l.map Char.ofNat
theorem iow : wordsSigns headChars = headWords := by kernel_rfl
end Go.Proofs.YtfdgbghlanbddaaDoor.Av
set_option maxRecDepth 100000
namespace Go.Proofs.YtfdgbghlanbddaaDoor.Av
open Go.Proofs Go.Proofs.YtfdgbghlanbddaaDoor
theorem tl_finals : "finals".toList = ([102, 105, 110, 97, 108, 115].map Char.ofNat) := String.toList_ofList
theorem tl_reflectrows : "reflectrows".toList = ([114, 101, 102, 108, 101, 99, 116, 114, 111, 119, 115].map Char.ofNat) := String.toList_ofList
theorem tl_leanrows : "leanrows".toList = ([108, 101, 97, 110, 114, 111, 119, 115].map Char.ofNat) := String.toList_ofList
theorem tl_onebuild : "onebuild".toList = ([111, 110, 101, 98, 117, 105, 108, 100].map Char.ofNat) := String.toList_ofList
theorem tl_publicsums : "publicsums".toList = ([112, 117, 98, 108, 105, 99, 115, 117, 109, 115].map Char.ofNat) := String.toList_ofList
theorem tl_eqguard : "eqguard".toList = ([101, 113, 103, 117, 97, 114, 100].map Char.ofNat) := String.toList_ofList
theorem tl_ownunsafe : "ownunsafe".toList = ([111, 119, 110, 117, 110, 115, 97, 102, 101].map Char.ofNat) := String.toList_ofList
theorem tl_libbeside : "libbeside".toList = ([108, 105, 98, 98, 101, 115, 105, 100, 101].map Char.ofNat) := String.toList_ofList
theorem tl_ownbeside : "ownbeside".toList = ([111, 119, 110, 98, 101, 115, 105, 100, 101].map Char.ofNat) := String.toList_ofList
theorem tl_reflbeside : "reflbeside".toList = ([114, 101, 102, 108, 98, 101, 115, 105, 100, 101].map Char.ofNat) := String.toList_ofList
theorem tl_aliases : "aliases".toList = ([97, 108, 105, 97, 115, 101, 115].map Char.ofNat) := String.toList_ofList
theorem tl_afterinit : "afterinit".toList = ([97, 102, 116, 101, 114, 105, 110, 105, 116].map Char.ofNat) := String.toList_ofList
theorem tl_crcplain : "crcplain".toList = ([99, 114, 99, 112, 108, 97, 105, 110].map Char.ofNat) := String.toList_ofList
theorem tl_roadunsafe : "roadunsafe".toList = ([114, 111, 97, 100, 117, 110, 115, 97, 102, 101].map Char.ofNat) := String.toList_ofList
theorem tl_fmthandon : "fmthandon".toList = ([102, 109, 116, 104, 97, 110, 100, 111, 110].map Char.ofNat) := String.toList_ofList
theorem tl_harness : "harness".toList = ([104, 97, 114, 110, 101, 115, 115].map Char.ofNat) := String.toList_ofList
theorem tl_ownmain : "ownmain".toList = ([111, 119, 110, 109, 97, 105, 110].map Char.ofNat) := String.toList_ofList
theorem tl_gc : "gc".toList = ([103, 99].map Char.ofNat) := String.toList_ofList
theorem tl_spec : "spec".toList = ([115, 112, 101, 99].map Char.ofNat) := String.toList_ofList
theorem tl_carried : "carried".toList = ([99, 97, 114, 114, 105, 101, 100].map Char.ofNat) := String.toList_ofList
theorem tl_cut : "cut".toList = ([99, 117, 116].map Char.ofNat) := String.toList_ofList
theorem tl_sum : "d8d313f7324173a1e48e18dbbd53aea0b652cc2db0b3cb826d55cdaae13b972b".toList = ([100, 56, 100, 51, 49, 51, 102, 55, 51, 50, 52, 49, 55, 51, 97, 49, 101, 52, 56, 101, 49, 56, 100, 98, 98, 100, 53, 51, 97, 101, 97, 48, 98, 54, 53, 50, 99, 99, 50, 100, 98, 48, 98, 51, 99, 98, 56, 50, 54, 100, 53, 53, 99, 100, 97, 97, 101, 49, 51, 98, 57, 55, 50, 98].map Char.ofNat) := String.toList_ofList
end Go.Proofs.YtfdgbghlanbddaaDoor.Av
set_option maxRecDepth 100000
namespace Go.Proofs.YtfdgbghlanbddaaDoor.Av
open Go.Proofs Go.Proofs.YtfdgbghlanbddaaDoor
theorem words_ok : wordsSigns Tryd.prog.initOrder.toList = headWords := (congrArg wordsSigns iol).trans iow
theorem main_gen {P : Program} {h s : List Char} {r : List (List Char)} (hw : wordsSigns P.initOrder.toList = h :: s :: r) (hs : isSumSigns s = true) (hh : (h == "harness".toList) = true) : P.mainIs = some (true, s) := by
  unfold Program.mainIs
  rw [hw]
  simp only [hs, hh, Bool.not_true, Bool.false_eq_true, if_false, if_true]
theorem main_ok : Tryd.prog.mainIs = some (true, "d8d313f7324173a1e48e18dbbd53aea0b652cc2db0b3cb826d55cdaae13b972b".toList) := by
  rw [tl_sum]
  exact main_gen (h := (([104, 97, 114, 110, 101, 115, 115] : List Nat).map Char.ofNat)) (s := (([100, 56, 100, 51, 49, 51, 102, 55, 51, 50, 52, 49, 55, 51, 97, 49, 101, 52, 56, 101, 49, 56, 100, 98, 98, 100, 53, 51, 97, 101, 97, 48, 98, 54, 53, 50, 99, 99, 50, 100, 98, 48, 98, 51, 99, 98, 56, 50, 54, 100, 53, 53, 99, 100, 97, 97, 101, 49, 51, 98, 57, 55, 50, 98] : List Nat).map Char.ofNat)) (r := headWords.drop 2) words_ok (by kernel_rfl) (by rw [tl_harness]; kernel_rfl)
theorem behind_ok : behindMainWord headWords = headWords.drop 2 := by
  unfold behindMainWord
  rw [tl_harness, tl_ownmain]
  kernel_rfl
theorem behind_words : behindMainWord (wordsSigns Tryd.prog.initOrder.toList) = headWords.drop 2 := by rw [words_ok, behind_ok]
theorem strip_none {w : List Char} {ws : List (List Char)} : ∀ {os : List String}, (∀ o ∈ os, (w == o.toList) = false) → stripLifts os (w :: ws) = ([], w :: ws)
  | [], _ => rfl
  | o :: os, h => by
    unfold stripLifts
    rw [if_neg (by rw [h o (by simp)]; decide)]
    exact strip_none fun x hx => h x (by simp [hx])
theorem strip_ok : stripLifts liftWords (headWords.drop 2) = ([], headWords.drop 2) := by
  show stripLifts liftWords (([99, 117, 116].map Char.ofNat) :: headWords.drop 3) = ([], ([99, 117, 116].map Char.ofNat) :: headWords.drop 3)
  refine strip_none fun o ho => ?_
  simp only [liftWords, List.mem_cons, List.not_mem_nil, or_false] at ho
  rcases ho with rfl | rfl | rfl | rfl | rfl | rfl | rfl | rfl | rfl | rfl | rfl | rfl | rfl | rfl | rfl
  all_goals first | (rw [tl_finals]; kernel_rfl) | (rw [tl_reflectrows]; kernel_rfl) | (rw [tl_leanrows]; kernel_rfl) | (rw [tl_onebuild]; kernel_rfl) | (rw [tl_publicsums]; kernel_rfl) | (rw [tl_eqguard]; kernel_rfl) | (rw [tl_ownunsafe]; kernel_rfl) | (rw [tl_libbeside]; kernel_rfl) | (rw [tl_ownbeside]; kernel_rfl) | (rw [tl_reflbeside]; kernel_rfl) | (rw [tl_aliases]; kernel_rfl) | (rw [tl_afterinit]; kernel_rfl) | (rw [tl_crcplain]; kernel_rfl) | (rw [tl_roadunsafe]; kernel_rfl) | (rw [tl_fmthandon]; kernel_rfl)
theorem later_no : Tryd.prog.laysLater = false := by kernel_rfl
theorem reflect_no : Tryd.prog.bearsReflect = false := by kernel_rfl
theorem door_ok : Tryd.prog.doorFits [] = true := by kernel_rfl
theorem head_lifts : Tryd.prog.headLifts = [] := by
  unfold Program.headLifts
  simp only [behind_words, strip_ok, tl_cut]
  kernel_rfl
theorem cut_ok : (([99, 117, 116] : List Nat).map Char.ofNat == "cut".toList) = true := by rw [tl_cut]; kernel_rfl
theorem enter_gen {P : Program} {c : List Char} {rest : List (List Char)} (hw : behindMainWord (wordsSigns P.initOrder.toList) = c :: rest) (hs : stripLifts liftWords (c :: rest) = ([], c :: rest)) (hc : (c == "cut".toList) = true) (h1 : P.laysLater = false) (h2 : P.bearsReflect = false) (h3 : P.doorFits [] = true) : P.mayEnter = true := by
  have hc2 : (some c == some "cut".toList) = true := hc
  unfold Program.mayEnter
  rw [hw]
  simp only [hs, h1, h2, h3, List.head?_cons, hc2, Bool.not_false, Bool.or_true, Bool.and_true, Bool.true_and]
  simp
theorem enter_ok : Tryd.prog.mayEnter = true := enter_gen (c := ([99, 117, 116] : List Nat).map Char.ofNat) (rest := headWords.drop 3) behind_words strip_ok cut_ok later_no reflect_no door_ok
theorem lifts_gen {P : Program} (hl : P.headLifts = []) {c : List Char} {rest : List (List Char)} (hw : behindMainWord (wordsSigns P.initOrder.toList) = c :: rest) (hc : (c == "carried".toList) = false) : P.liftsFinal = false := by
  have hc2 : (some c == some "carried".toList) = false := hc
  unfold Program.liftsFinal
  rw [hw, hl]
  simp only [List.head?_cons, hc2, Bool.false_and, Bool.false_or]
  rfl
theorem lifts_ok : Tryd.prog.liftsFinal = false := lifts_gen head_lifts (c := ([99, 117, 116] : List Nat).map Char.ofNat) (rest := headWords.drop 3) behind_words (by rw [tl_carried]; kernel_rfl)
theorem make_gen {P : Program} {c : List Char} {rest : List (List Char)} (hw : behindMainWord (wordsSigns P.initOrder.toList) = c :: rest) (h1 : (c == "gc".toList) = false) (h2 : (c == "spec".toList) = false) (hc : (c == "cut".toList) = true) : P.make = some .cut := by
  unfold Program.make
  rw [hw]
  simp only [h1, h2, hc, Bool.or_false, Bool.true_or, Bool.false_eq_true, if_false, if_true]
theorem make_ok : Tryd.prog.make = some .cut := make_gen (c := ([99, 117, 116] : List Nat).map Char.ofNat) (rest := headWords.drop 3) behind_words (by rw [tl_gc]; kernel_rfl) (by rw [tl_spec]; kernel_rfl) cut_ok
end Go.Proofs.YtfdgbghlanbddaaDoor.Av
set_option maxRecDepth 100000
namespace Go.Proofs.YtfdgbghlanbddaaDoor.Av
open Go.Proofs Go.Proofs.YtfdgbghlanbddaaDoor
theorem rowed_ok : mapsRowed Tryd.prog = true := by kernel_rfl
theorem heard_ok : Tryd.prog.stopsHeard = true := by kernel_rfl
/-- What a row asks of the program, in parts. -/
theorem facts_of {f : FuncId} {fn : Func} {s : ChangeSpec} {c : OpenClaim} (h1 : c.wf (OpenSpec.ofChange s) = true) (h2 : (fn.params.all (Tryd.prog.readableRec ·) && namedTie Tryd.prog c.named s.vars) = true)
    (h3 : ((c.stops == []) && (Tryd.prog.stops == []) && (c.knobs == []) && (Tryd.prog.stopKnobs == [])) = true) (h4 : (c.inPlace == Tryd.prog.inPlace f) = true) (h5 : (c.unfollowed == Tryd.prog.unfollowed f) = true) (h6 : (c.recurses == Tryd.prog.recurses f) = true) (h7 : (c.named == Tryd.prog.varsNamed f) = true)
    (h8 : ((c.maps == (fn.params.toList ++ s.plain.varTypes Tryd.prog).any (Tryd.prog.mapsRec ·)) && (c.ifaces == (fn.params.toList ++ s.plain.varTypes Tryd.prog).any (Tryd.prog.ifacesRec ·)) && (c.mapsOut == Tryd.prog.mapsAmong fn.resultTypes.toList) &&
      (c.loops == (fn.params.toList ++ s.plain.varTypes Tryd.prog).any (Tryd.prog.loopsFrom ·)) && (c.wideKeys == (fn.params.toList ++ s.plain.varTypes Tryd.prog ++ fn.resultTypes.toList).any (Tryd.prog.wideKeysFrom ·)) &&
      s.vars.all (Tryd.prog.varReadable ·) && fn.resultTypes.all (fun t => Tryd.prog.readableRec t && decide (t < Tryd.prog.types.size)) && (c.ifacesOut == fn.resultTypes.toList.any (Tryd.prog.ifacesRec ·)) && (c.loopsOut == fn.resultTypes.toList.any (Tryd.prog.loopsFrom ·)) && (c.plainKeys == Tryd.prog.plainKeys) && c.shortTexts.isNone) = true)
    (hl : c.lifted = false) (hm : c.make = .cut)
    (h9 : ((c.kinds == (if c.domain.isEmpty then [] else fn.params.toList.map fun t => match Tryd.prog.underlying t with | some (.int k) => some k | _ => none)) && (c.pinned == c.pinnedBy) &&
      (c.veiled == (fn.params.toList ++ s.plain.varTypes Tryd.prog ++ fn.resultTypes.toList).any (Tryd.prog.veiledRec ·)) && c.veiledFits Tryd.prog fn.params.toList (fn.params.toList ++ s.plain.varTypes Tryd.prog ++ fn.resultTypes.toList)) = true) : joinedFacts Tryd.prog f fn s c = true := by
  have a1 : (c.lifted == Tryd.prog.liftsFinal) = true := by rw [hl, lifts_ok]; simp
  have a2 : (Tryd.prog.make == some c.make) = true := by rw [hm, make_ok]; simp
  simp only [Bool.and_eq_true] at h2 h3 h8 h9
  simp only [joinedFacts, Bool.and_eq_true]
  refine ⟨⟨⟨⟨⟨⟨⟨⟨⟨⟨⟨⟨⟨⟨⟨⟨⟨⟨⟨⟨⟨⟨⟨⟨⟨⟨⟨⟨⟨⟨⟨h1, laidOut⟩, rowed_ok⟩, h2.1⟩, h2.2⟩, ?_⟩, ?_⟩, ?_⟩, ?_⟩, h4⟩, h5⟩, h6⟩, h7⟩, ?_⟩, ?_⟩, ?_⟩, ?_⟩, ?_⟩, ?_⟩, ?_⟩, ?_⟩, ?_⟩, ?_⟩, ?_⟩, heard_ok⟩, enter_ok⟩, a1⟩, a2⟩, ?_⟩, ?_⟩, ?_⟩, ?_⟩
  all_goals first | exact h3.1.1.1 | exact h3.1.1.2 | exact h3.1.2 | exact h3.2 | exact h8.1.1.1.1.1.1.1.1.1.1 | exact h8.1.1.1.1.1.1.1.1.1.2 | exact h8.1.1.1.1.1.1.1.1.2 | exact h8.1.1.1.1.1.1.1.2 | exact h8.1.1.1.1.1.1.2 | exact h8.1.1.1.1.1.2 | exact h8.1.1.1.1.2 | exact h8.1.1.1.2 | exact h8.1.1.2 | exact h8.1.2 | exact h8.2 | exact h9.1.1.1 | exact h9.1.1.2 | exact h9.1.2 | exact h9.2
end Go.Proofs.YtfdgbghlanbddaaDoor.Av
