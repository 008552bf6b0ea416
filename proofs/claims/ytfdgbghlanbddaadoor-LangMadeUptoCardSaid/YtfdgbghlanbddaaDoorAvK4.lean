import Derived.Test.YtfdgbghlanbddaaDoorAvK0
import Derived.Test.YtfdgbghlanbddaaDoorAvK1
import Derived.Test.YtfdgbghlanbddaaDoorAvK2
import Derived.Test.YtfdgbghlanbddaaDoorAvK3
import Derived.Laws.CopyRow
set_option linter.unusedVariables false
set_option linter.unusedSimpArgs false
namespace Go.Proofs.YtfdgbghlanbddaaDoor.Av
section
/-! ### what the machine of an expression runs -/
/-- From a state to t, come to for the first time. -/
inductive PathTo (M : List St) (t : Nat) : Nat → List Int → Prop
 | done : PathTo M t t []
 | eps {i j : Nat} {w : List Int} {s : St} : M[i]? = some s → i ≠ t → (j : Int) ∈ s.free → PathTo M t j w → PathTo M t i w
 | byte {i j : Nat} {b : Int} {w : List Int} {s : St} : M[i]? = some s → i ≠ t → s.to = (j : Int) → s.has b = true → PathTo M t j w → PathTo M t i (b :: w)
def edgeIn (s : St) (P : Nat → Prop) : Prop := (∀ x ∈ s.free, ∃ j : Nat, x = (j : Int) ∧ P j) ∧ (s.to = -1 ∨ ∃ j : Nat, s.to = (j : Int) ∧ P j)
theorem edgeIn.mono {s : St} {P Q : Nat → Prop} (h : edgeIn s P) (k : ∀ j, P j → Q j) : edgeIn s Q :=
 ⟨fun x hx => (h.1 x hx).elim fun j hj => ⟨j, hj.1, k j hj.2⟩, h.2.elim .inl fun ⟨j, h1, h2⟩ => .inr ⟨j, h1, k j h2⟩⟩
structure Frag (M : List St) (a b f t : Nat) (L : List Int → Prop) : Prop where
 hf : a ≤ f ∧ f < b
 ht : a ≤ t ∧ t < b
 hb : b ≤ M.length
 cl : ∀ i s, M[i]? = some s → a ≤ i → i < b → i ≠ t → edgeIn s fun j => a ≤ j ∧ j < b
 la : ∀ w, PathTo M t f w ↔ L w
theorem path_agree {M M' : List St} {a b t : Nat} (cl : ∀ i s, M[i]? = some s → a ≤ i → i < b → i ≠ t → edgeIn s fun j => a ≤ j ∧ j < b) (e : ∀ i, a ≤ i → i < b → i ≠ t → M'[i]? = M[i]?) {i : Nat} {w : List Int} (h : PathTo M t i w) (h1 : a ≤ i) (h2 : i < b) : PathTo M' t i w := by
 induction h with
 | done => exact .done
 | @eps i j w s hs ht hm _ ih =>
  obtain ⟨k, e1, e2⟩ := (cl _ s hs h1 h2 ht).1 _ hm
  have : j = k := by omega
  subst this
  exact .eps (by rw [e _ h1 h2 ht]; exact hs) ht hm (ih e2.1 e2.2)
 | @byte i j b w s hs ht hm hh _ ih =>
  rcases (cl _ s hs h1 h2 ht).2 with e1 | ⟨k, e1, e2⟩
  ·rw [hm] at e1; omega
  ·have : j = k := by omega
   subst this
   exact .byte (by rw [e _ h1 h2 ht]; exact hs) ht hm hh (ih e2.1 e2.2)
theorem Frag.agree {M M' : List St} {a b f t : Nat} {L : List Int → Prop} (h : Frag M a b f t L) (hl : b ≤ M'.length) (e : ∀ i, a ≤ i → i < b → i ≠ t → M'[i]? = M[i]?) : Frag M' a b f t L := by
 have cl' : ∀ i s, M'[i]? = some s → a ≤ i → i < b → i ≠ t → edgeIn s fun j => a ≤ j ∧ j < b := fun i s hs h1 h2 h3 => h.cl i s (by rw [← e i h1 h2 h3]; exact hs) h1 h2 h3
 refine ⟨h.hf, h.ht, hl, cl', fun w => ?_⟩
 rw [← h.la]
 exact ⟨fun k => path_agree cl' (fun i h1 h2 h3 => (e i h1 h2 h3).symm) k h.hf.1 h.hf.2, fun k => path_agree h.cl e k h.hf.1 h.hf.2⟩
/-- On from a fragment's end. -/
theorem path_app {M : List St} {m t : Nat} {i : Nat} {u v : List Int} (h : PathTo M m i u) (k : PathTo M t m v) {P : Nat → Prop} (hp : ∀ i, P i → i ≠ m → i ≠ t) (hc : ∀ i s, M[i]? = some s → P i → i ≠ m → edgeIn s P) (hi : P i) : PathTo M t i (u ++ v) := by
 induction h with
 | done => exact k
 | @eps i j w s hs ht hm _ ih =>
  obtain ⟨x, e1, e2⟩ := (hc _ s hs hi ht).1 _ hm
  have : j = x := by omega
  subst this
  exact .eps hs (hp _ hi ht) hm (ih e2)
 | @byte i j b w s hs ht hm hh _ ih =>
  rcases (hc _ s hs hi ht).2 with e1 | ⟨x, e1, e2⟩
  ·rw [hm] at e1; omega
  ·have : j = x := by omega
   subst this
   exact .byte hs (hp _ hi ht) hm hh (ih e2)
/-- Whoever leaves a fragment comes by its end. -/
theorem path_cut {M : List St} {m t : Nat} {i : Nat} {w : List Int} (h : PathTo M t i w) {P : Nat → Prop} (hp : ∀ i, P i → i ≠ t) (hc : ∀ i s, M[i]? = some s → P i → i ≠ m → edgeIn s P) (hi : P i) : ∃ u v, w = u ++ v ∧ PathTo M m i u ∧ PathTo M t m v := by
 induction h with
 | done => exact absurd rfl (hp _ hi)
 | @eps i j w s hs ht hm hk ih =>
  by_cases him : i = m
  ·subst him
   exact ⟨[], w, rfl, .done, .eps hs ht hm hk⟩
  ·obtain ⟨x, e1, e2⟩ := (hc _ s hs hi him).1 _ hm
   have : j = x := by omega
   subst this
   obtain ⟨u, v, h1, h2, h3⟩ := ih e2
   exact ⟨u, v, h1, .eps hs him hm h2, h3⟩
 | @byte i j b w s hs ht hm hh hk ih =>
  by_cases him : i = m
  ·subst him
   exact ⟨[], b :: w, rfl, .done, .byte hs ht hm hh hk⟩
  ·rcases (hc _ s hs hi him).2 with e1 | ⟨x, e1, e2⟩
   ·rw [hm] at e1; omega
   ·have : j = x := by omega
    subst this
    obtain ⟨u, v, h1, h2, h3⟩ := ih e2
    exact ⟨b :: u, v, by rw [h1]; rfl, .byte hs him hm hh h2, h3⟩
/-- From a state that has ways alone. -/
theorem path_free {M : List St} {t i : Nat} {s : St} {w : List Int} (hs : M[i]? = some s) (ht : i ≠ t) (hto : s.to = -1) : PathTo M t i w ↔ ∃ j : Nat, (j : Int) ∈ s.free ∧ PathTo M t j w := by
 constructor
 ·intro h
  cases h with
  | done => exact absurd rfl ht
  | @eps _ j _ s' hs' _ hm hk =>
   rw [hs] at hs'
   injection hs' with hs'
   subst hs'
   exact ⟨j, hm, hk⟩
  | @byte _ j _ _ s' hs' _ hm _ _ =>
   rw [hs] at hs'
   injection hs' with hs'
   subst hs'
   rw [hto] at hm; omega
 ·rintro ⟨j, h1, h2⟩
  exact .eps hs ht h1 h2
theorem path_end {M : List St} {t : Nat} {w : List Int} (h : PathTo M t t w) : w = [] := by
 cases h with
 | done => rfl
 | eps _ hne _ _ => exact absurd rfl hne
 | byte _ hne _ _ _ => exact absurd rfl hne
theorem path_inv {M : List St} {t i : Nat} {s : St} {w : List Int} (h : PathTo M t i w) (ht : i ≠ t) (hs : M[i]? = some s) : (∃ j : Nat, (j : Int) ∈ s.free ∧ PathTo M t j w) ∨ ∃ (j : Nat) (b : Int) (v : List Int), w = b :: v ∧ s.to = (j : Int) ∧ s.has b = true ∧ PathTo M t j v := by
 cases h with
 | done => exact absurd rfl ht
 | @eps _ j _ s' hs' _ hm hk =>
  rw [hs] at hs'
  injection hs' with hs'
  subst hs'
  exact .inl ⟨j, hm, hk⟩
 | @byte _ j b v s' hs' _ hm hh hk =>
  rw [hs] at hs'
  injection hs' with hs'
  subst hs'
  exact .inr ⟨j, b, v, rfl, hm, hh, hk⟩
/-! ### pieces -/
theorem bFree_get {ns : List St} {i j k : Nat} : (bFree ns i j)[k]? = if k = i then (ns[k]?).map (addFree · j) else ns[k]? := by
 by_cases h : i < ns.length
 ·rw [bFree_eq h, List.getElem?_set]
  by_cases hk : k = i
  ·subst hk
   rw [if_pos rfl, if_pos h, if_pos rfl, List.getElem?_eq_getElem h]
   rfl
  ·rw [if_neg (Ne.symm hk), if_neg hk]
 ·have e : bFree ns i j = ns := by
   unfold bFree
   rw [List.getElem?_eq_none (show ns.length ≤ i by omega)]
  rw [e]
  by_cases hk : k = i
  ·subst hk
   rw [if_pos rfl, List.getElem?_eq_none (by omega)]
   rfl
  ·rw [if_neg hk]
structure Part (ns : List St) (p : List St × Nat × Nat) (L : List Int → Prop) : Prop where
 len : ns.length ≤ p.1.length
 old : ∀ i, i < ns.length → p.1[i]? = ns[i]?
 frag : Frag p.1 ns.length p.1.length p.2.1 p.2.2 L
 out : ∃ s, p.1[p.2.2]? = some s ∧ s.free = [] ∧ s.to = -1
 few : ∀ i s, p.1[i]? = some s → ns.length ≤ i → s.free.length ≤ 2
theorem get_lt {M : List St} {i : Nat} {s : St} (h : M[i]? = some s) : i < M.length := (List.getElem?_eq_some_iff.1 h).1
theorem app_old {a b : List St} {i : Nat} (h : i < a.length) : (a ++ b)[i]? = a[i]? := List.getElem?_append_left h
theorem app_0 {a : List St} {x : St} {t : List St} : (a ++ x :: t)[a.length]? = some x := by rw [List.getElem?_append_right (Nat.le_refl _)]; simp
theorem app_1 {a : List St} {x y : St} {t : List St} : (a ++ x :: y :: t)[a.length + 1]? = some y := by rw [List.getElem?_append_right (by omega)]; simp
/-- Three cases of a place in a list that was lengthened by two. -/
theorem app_two {a : List St} {x y s : St} {i : Nat} (h : (a ++ [x, y])[i]? = some s) (hi : a.length ≤ i) : (i = a.length ∧ s = x) ∨ (i = a.length + 1 ∧ s = y) := by
 have hl := get_lt h
 simp at hl
 by_cases h1 : i = a.length
 ·subst h1; rw [app_0] at h; injection h with h; exact .inl ⟨rfl, h.symm⟩
 ·have h2 : i = a.length + 1 := by omega
  subst h2; rw [app_1] at h; injection h with h; exact .inr ⟨rfl, h.symm⟩
theorem part_set (s : W4) (ns : List St) : Part ns (ns ++ [st0, ⟨s.w0, s.w1, s.w2, s.w3, (ns.length : Int), []⟩], ns.length + 1, ns.length) fun w => ∃ b, w = [b] ∧ s.hasI b = true := by
 have h1 : (ns ++ [st0, ⟨s.w0, s.w1, s.w2, s.w3, (ns.length : Int), []⟩])[ns.length + 1]? = some ⟨s.w0, s.w1, s.w2, s.w3, (ns.length : Int), []⟩ := app_1
 refine ⟨by simp, fun i hi => app_old hi, ⟨by simp, by simp, by simp, fun i x hx h2 h3 h4 => ?_, fun w => ?_⟩, ⟨st0, app_0, rfl, rfl⟩, fun i x hx h2 => ?_⟩
 ·rcases app_two hx h2 with ⟨h5, _⟩ | ⟨h5, h6⟩
  ·exact absurd h5 h4
  ·subst h6
   exact ⟨fun y hy => by simp at hy, .inr ⟨ns.length, rfl, by simp⟩⟩
 ·constructor
  ·intro h
   rcases path_inv h (by dsimp only; omega) h1 with ⟨j, hj, _⟩ | ⟨j, b, v, rfl, hj, hb, hk⟩
   ·simp at hj
   ·have : j = ns.length := by simp at hj; omega
    subst this
    have := path_end hk
    subst this
    exact ⟨b, rfl, hb⟩
  ·rintro ⟨b, rfl, hb⟩
   exact .byte h1 (by dsimp only; omega) rfl hb .done
 ·rcases app_two hx h2 with ⟨_, h6⟩ | ⟨_, h6⟩ <;> (subst h6; simp [st0, stF])
theorem part_none (ns : List St) : Part ns (ns ++ [st0, st0], ns.length, ns.length + 1) fun _ => False := by
 have h1 : (ns ++ [st0, st0])[ns.length]? = some st0 := app_0
 refine ⟨by simp, fun i hi => app_old hi, ⟨by simp, by simp, by simp, fun i x hx h2 h3 h4 => ?_, fun w => ?_⟩, ⟨st0, app_1, rfl, rfl⟩, fun i x hx h2 => ?_⟩
 ·rcases app_two hx h2 with ⟨_, h6⟩ | ⟨_, h6⟩ <;> (subst h6; exact ⟨fun y hy => by simp [st0, stF] at hy, .inl rfl⟩)
 ·dsimp only
  rw [path_free h1 (by omega) rfl]
  simp [st0, stF]
 ·rcases app_two hx h2 with ⟨_, h6⟩ | ⟨_, h6⟩ <;> (subst h6; simp [st0, stF])
theorem part_empty (ns : List St) : Part ns (bFree (ns ++ [st0, st0]) ns.length (ns.length + 1), ns.length, ns.length + 1) fun w => w = [] := by
 have hl : (bFree (ns ++ [st0, st0]) ns.length (ns.length + 1)).length = ns.length + 2 := by rw [bFree_len]; simp
 have h0 : (bFree (ns ++ [st0, st0]) ns.length (ns.length + 1))[ns.length]? = some (addFree st0 (ns.length + 1)) := by rw [bFree_get, if_pos rfl, app_0]; rfl
 have h1 : (bFree (ns ++ [st0, st0]) ns.length (ns.length + 1))[ns.length + 1]? = some st0 := by rw [bFree_get, if_neg (by omega), app_1]
 have two : ∀ i x, (bFree (ns ++ [st0, st0]) ns.length (ns.length + 1))[i]? = some x → ns.length ≤ i → (i = ns.length ∧ x = addFree st0 (ns.length + 1)) ∨ (i = ns.length + 1 ∧ x = st0) := by
  intro i x hx hi
  have := get_lt hx
  by_cases h : i = ns.length
  ·subst h; rw [h0] at hx; injection hx with hx; exact .inl ⟨rfl, hx.symm⟩
  ·have h2 : i = ns.length + 1 := by omega
   subst h2; rw [h1] at hx; injection hx with hx; exact .inr ⟨rfl, hx.symm⟩
 refine ⟨by dsimp only; omega, fun i hi => ?_, ⟨by dsimp only; omega, by dsimp only; omega, Nat.le_refl _, fun i x hx h2 h3 h4 => ?_, fun w => ?_⟩, ⟨st0, h1, rfl, rfl⟩, fun i x hx h2 => ?_⟩
 ·dsimp only; rw [bFree_get, if_neg (by omega), app_old hi]
 ·rcases two i x hx h2 with ⟨_, h6⟩ | ⟨h5, h6⟩
  ·subst h6
   refine ⟨fun y hy => ?_, .inl rfl⟩
   simp [addFree, st0, stF] at hy
   exact ⟨ns.length + 1, hy, by omega, by dsimp only; omega⟩
  ·exact absurd h5 h4
 ·dsimp only
  rw [path_free h0 (by omega) rfl]
  constructor
  ·rintro ⟨j, hj, hk⟩
   simp [addFree, st0, stF] at hj
   have : j = ns.length + 1 := by omega
   subst this
   exact path_end hk
  ·rintro rfl
   exact ⟨ns.length + 1, by simp [addFree, st0, stF], .done⟩
 ·rcases two i x hx h2 with ⟨_, h6⟩ | ⟨_, h6⟩ <;> (subst h6; simp [addFree, st0, stF])
theorem Part.congr {ns : List St} {p : List St × Nat × Nat} {L L' : List Int → Prop} (h : Part ns p L) (e : ∀ w, L w ↔ L' w) : Part ns p L' :=
 ⟨h.len, h.old, ⟨h.frag.hf, h.frag.ht, h.frag.hb, h.frag.cl, fun w => (h.frag.la w).trans (e w)⟩, h.out, h.few⟩
end
section
/-! ### any number -/
theorem part_star {a : Rx} {ns : List St} {La : List Int → Prop} (h : Part (ns ++ [st0, st0]) (bPart a (ns ++ [st0, st0])) La) (t : List Rx) : Part ns (bStar (a :: t) ns) (Star La) := by
 rcases hq : bPart a (ns ++ [st0, st0]) with ⟨m, fi, out⟩
 rw [hq] at h
 have hbs : bStar (a :: t) ns = (bFree (bFree (bFree m ns.length fi) out ns.length) ns.length (ns.length + 1), ns.length, ns.length + 1) := by rw [bStar, hq]
 rw [hbs]
 have hml := h.len
 have hfi := h.frag.hf
 have hto := h.frag.ht
 obtain ⟨so, ho1, ho2, ho3⟩ := h.out
 simp only [List.length_append, List.length_cons, List.length_nil] at hml hfi hto
 dsimp only at hml hfi hto ho1
 let M := bFree (bFree (bFree m ns.length fi) out ns.length) ns.length (ns.length + 1)
 have hMl : M.length = m.length := by simp only [M, bFree_len]
 have hMf : M[ns.length]? = some (addFree (addFree st0 fi) (ns.length + 1)) := by
  simp only [M]
  rw [bFree_get, if_pos rfl, bFree_get, if_neg (by omega), bFree_get, if_pos rfl, h.old _ (by simp), app_0]
  rfl
 have hMo : M[out]? = some (addFree so ns.length) := by
  simp only [M]
  rw [bFree_get, if_neg (by omega), bFree_get, if_pos rfl, bFree_get, if_neg (by omega), ho1]
  rfl
 have hMt : M[ns.length + 1]? = some st0 := by
  simp only [M]
  rw [bFree_get, if_neg (by omega), bFree_get, if_neg (by omega), bFree_get, if_neg (by omega), h.old _ (by simp), app_1]
 have hMi : ∀ i, i ≠ ns.length → i ≠ out → M[i]? = m[i]? := by
  intro i h1 h2
  simp only [M]
  rw [bFree_get, if_neg h1, bFree_get, if_neg h2, bFree_get, if_neg h1]
 have hfr : Frag M (ns.length + 2) m.length fi out La := by
  have := h.frag.agree (M' := M) (by dsimp only; omega) (fun i h1 h2 h3 => hMi i (by simp at h1; omega) h3)
  simpa using this
 have hcl : ∀ i s, M[i]? = some s → ns.length + 2 ≤ i → i < m.length → i ≠ out → edgeIn s fun j => ns.length + 2 ≤ j ∧ j < m.length := fun i s hs h1 h2 h3 => hfr.cl i s hs h1 h2 h3
 have hcl2 : ∀ i s, M[i]? = some s → (ns.length + 2 ≤ i ∧ i < m.length) → i ≠ out → edgeIn s fun j => ns.length + 2 ≤ j ∧ j < m.length := fun i s hs h1 h3 => hfr.cl i s hs h1.1 h1.2 h3
 show Part ns (M, ns.length, ns.length + 1) _
 refine ⟨by dsimp only; omega, fun i hi => ?_, ⟨by dsimp only; omega, by dsimp only; omega, Nat.le_refl _, fun i s hs h1 h2 h3 => ?_, fun w => ?_⟩, ⟨st0, hMt, rfl, rfl⟩, fun i s hs h1 => ?_⟩
 ·show M[i]? = _
  rw [hMi i (by omega) (by omega), h.old i (by simp; omega), app_old hi]
 ·dsimp only at h2 h3 ⊢
  rw [hMl] at h2 ⊢
  by_cases h4 : i = ns.length
  ·subst h4
   have e : M[ns.length]? = some s := hs
   rw [hMf] at e
   injection e with e
   subst e
   refine ⟨fun x hx => ?_, .inl rfl⟩
   simp [addFree, st0, stF] at hx
   rcases hx with rfl | rfl
   ·exact ⟨fi, rfl, by omega⟩
   ·exact ⟨ns.length + 1, rfl, by omega⟩
  ·by_cases h5 : i = out
   ·subst h5
    have e : M[i]? = some s := hs
    rw [hMo] at e
    injection e with e
    subst e
    refine ⟨fun x hx => ?_, .inl ho3⟩
    simp [addFree, ho2] at hx
    exact ⟨ns.length, hx, by omega⟩
   ·exact (hcl i s hs (by omega) h2 h5).mono fun j hj => by omega
 ·show PathTo M (ns.length + 1) ns.length w ↔ _
  constructor
  ·intro hp
   have key : ∀ i w, PathTo M (ns.length + 1) i w → (i = ns.length → Star La w) ∧ ((ns.length + 2 ≤ i ∧ i < m.length) → ∃ u v, w = u ++ v ∧ PathTo M out i u ∧ Star La v) := by
    intro i w hp
    induction hp with
    | done => exact ⟨fun e => by omega, fun e => by omega⟩
    | @eps i j w s hs ht hm hk ih =>
     refine ⟨fun e => ?_, fun e => ?_⟩
     ·subst e
      rw [hMf] at hs
      injection hs with hs
      subst hs
      simp [addFree, st0, stF] at hm
      rcases hm with hm | hm
      ·have : j = fi := by omega
       subst this
       obtain ⟨u, v, rfl, h2, h3⟩ := ih.2 (by omega)
       exact .cons ((hfr.la u).1 h2) h3
      ·have : j = ns.length + 1 := by omega
       subst this
       rw [path_end hk]
       exact .nil
     ·by_cases h5 : i = out
      ·subst h5
       rw [hMo] at hs
       injection hs with hs
       subst hs
       simp [addFree, ho2] at hm
       exact ⟨[], w, rfl, .done, ih.1 (by omega)⟩
      ·obtain ⟨x, e1, e2⟩ := (hcl2 i s hs e h5).1 _ hm
       have : j = x := by omega
       subst this
       obtain ⟨u, v, h1, h2, h3⟩ := ih.2 e2
       exact ⟨u, v, h1, .eps hs h5 hm h2, h3⟩
    | @byte i j b w s hs ht hm hh hk ih =>
     refine ⟨fun e => ?_, fun e => ?_⟩
     ·subst e
      rw [hMf] at hs
      injection hs with hs
      subst hs
      simp only [addFree, st0, stF] at hm
      omega
     ·by_cases h5 : i = out
      ·subst h5
       rw [hMo] at hs
       injection hs with hs
       subst hs
       simp only [addFree, ho3] at hm
       omega
      ·rcases (hcl2 i s hs e h5).2 with e1 | ⟨x, e1, e2⟩
       ·rw [hm] at e1; omega
       ·have : j = x := by omega
        subst this
        obtain ⟨u, v, h1, h2, h3⟩ := ih.2 e2
        exact ⟨b :: u, v, by rw [h1]; rfl, .byte hs h5 hm hh h2, h3⟩
   exact (key _ _ hp).1 rfl
  ·intro hs
   induction hs with
   | nil => exact .eps hMf (by omega) (by simp [addFree, st0, stF]) .done
   | @cons u v hu hv ih =>
    refine .eps (j := fi) hMf (by omega) (by simp [addFree, st0, stF]) ?_
    refine path_app ((hfr.la u).2 hu) (.eps (j := ns.length) hMo (by omega) (by simp [addFree, ho2]) ih) (P := fun j => ns.length + 2 ≤ j ∧ j < m.length) (fun i h1 _ => by omega) (fun i s hs h1 h2 => hcl2 i s hs h1 h2) (by omega)
 ·have e : M[i]? = some s := hs
  by_cases h4 : i = ns.length
  ·subst h4
   rw [hMf] at e
   injection e with e
   subst e
   simp [addFree, st0, stF]
  ·by_cases h5 : i = out
   ·subst h5
    rw [hMo] at e
    injection e with e
    subst e
    simp [addFree, ho2]
   ·by_cases h6 : i = ns.length + 1
    ·subst h6
     rw [hMt] at e
     injection e with e
     subst e
     simp [st0, stF]
    ·rw [hMi i h4 h5] at e
     exact h.few i s e (by simp; omega)
/-! ### one behind the other -/
structure CQ (a : Nat) (n : List St) (f t : Nat) (L : List Int → Prop) : Prop where
 frag : Frag n a n.length f t L
 out : ∃ s, n[t]? = some s ∧ s.free = [] ∧ s.to = -1
 few : ∀ i s, n[i]? = some s → a ≤ i → s.free.length ≤ 2
theorem cat_one {a : Nat} {n : List St} {f t : Nat} {L Lx : List Int → Prop} {x : Rx} (h : CQ a n f t L) (k : Part n (bPart x n) Lx) :
  CQ a (bFree (bPart x n).1 t (bPart x n).2.1) f (bPart x n).2.2 (fun w => ∃ u v, w = u ++ v ∧ L u ∧ Lx v) ∧ (∀ i, i < a → (bFree (bPart x n).1 t (bPart x n).2.1)[i]? = n[i]?) ∧ n.length ≤ (bFree (bPart x n).1 t (bPart x n).2.1).length := by
 rcases hq : bPart x n with ⟨m, fi, out⟩
 rw [hq] at k
 have hml := k.len
 have hfi := k.frag.hf
 have hto := k.frag.ht
 obtain ⟨so, ho1, ho2, ho3⟩ := k.out
 obtain ⟨s0, hs1, hs2, hs3⟩ := h.out
 have hft := h.frag.ht
 have hff := h.frag.hf
 dsimp only at hml hfi hto ho1 ⊢
 let M := bFree m t fi
 have hMl : M.length = m.length := by simp only [M, bFree_len]
 have hMt : M[t]? = some (addFree s0 fi) := by
  simp only [M]
  rw [bFree_get, if_pos rfl, k.old t (by omega), hs1]
  rfl
 have hMi : ∀ i, i ≠ t → M[i]? = m[i]? := fun i h1 => by simp only [M]; rw [bFree_get, if_neg h1]
 have f1 : Frag M a n.length f t L := h.frag.agree (by omega) (fun i h1 h2 h3 => by rw [hMi i h3, k.old i h2])
 have f2 : Frag M n.length m.length fi out Lx := k.frag.agree (by dsimp only; omega) (fun i h1 h2 h3 => hMi i (by omega))
 refine ⟨⟨⟨by rw [bFree_len]; omega, by rw [bFree_len]; omega, Nat.le_refl _, fun i s hs h1 h2 h3 => ?_, fun w => ?_⟩, ⟨so, ?_, ho2, ho3⟩, fun i s hs h1 => ?_⟩, fun i hi => ?_, by rw [bFree_len]; exact hml⟩
 ·rw [bFree_len] at h2 ⊢
  by_cases h4 : i = t
  ·subst h4
   have e : M[i]? = some s := hs
   rw [hMt] at e
   injection e with e
   subst e
   refine ⟨fun y hy => ?_, .inl hs3⟩
   simp [addFree, hs2] at hy
   exact ⟨fi, hy, by omega⟩
  ·by_cases h5 : i < n.length
   ·exact (f1.cl i s hs h1 h5 h4).mono fun j hj => by omega
   ·exact (f2.cl i s hs (by omega) h2 h3).mono fun j hj => by omega
 ·show PathTo M out f w ↔ _
  constructor
  ·intro hp
   obtain ⟨u, v, e, h2, h3⟩ := path_cut (m := t) hp (P := fun j => a ≤ j ∧ j < n.length) (fun i h1 => by omega) (fun i s hs h1 h2 => f1.cl i s hs h1.1 h1.2 h2) hff
   obtain ⟨j, hj, hk⟩ := (path_free hMt (by omega) hs3).1 h3
   simp [addFree, hs2] at hj
   have : j = fi := by omega
   subst this
   exact ⟨u, v, e, (f1.la u).1 h2, (f2.la v).1 hk⟩
  ·rintro ⟨u, v, rfl, h1, h2⟩
   refine path_app ((f1.la u).2 h1) ((path_free hMt (by omega) hs3).2 ⟨fi, by simp [addFree, hs2], (f2.la v).2 h2⟩) (P := fun j => a ≤ j ∧ j < n.length) (fun i h1 _ => by omega) (fun i s hs h1 h2 => f1.cl i s hs h1.1 h1.2 h2) hff
 ·show M[out]? = some so
  rw [hMi out (by omega)]; exact ho1
 ·have e : M[i]? = some s := hs
  by_cases h4 : i = t
  ·subst h4
   rw [hMt] at e
   injection e with e
   subst e
   simp [addFree, hs2]
  ·rw [hMi i h4] at e
   by_cases h5 : i < n.length
   ·rw [k.old i h5] at e
    exact h.few i s e h1
   ·exact k.few i s e (by omega)
 ·show M[i]? = _
  rw [hMi i (by omega), k.old i (by omega)]
/-! ### one of some -/
/-- A head of the row of states, in a machine that has more behind it. -/
theorem alt_head {T : Nat} {n M : List St} {x : Rx} {r : List Rx} {Lx : List Int → Prop} {X : List Int} {sh : St} (hT : T < n.length) (k : Part n (bPart x n) Lx) (hl : (bPart x n).1.length < M.length)
  (hag : ∀ i, n.length ≤ i → i < (bPart x n).1.length → M[i]? = (bFree (bPart x n).1 (bPart x n).2.2 T)[i]?) (hs : M[(bPart x n).1.length]? = some sh) (hs1 : sh.to = -1) (hs2 : sh.free = ((bPart x n).2.1 : Int) :: X)
  (hX : ∀ w, (∃ j : Nat, (j : Int) ∈ X ∧ PathTo M T j w) ↔ Rx.langAlt r w) (hx : ∀ w, Lx w ↔ x.lang w) :
  (∀ w, PathTo M T (bPart x n).1.length w ↔ Rx.langAlt (x :: r) w) ∧ (∀ i s, M[i]? = some s → n.length ≤ i → i < (bPart x n).1.length → edgeIn s (fun j => j = T ∨ (n.length ≤ j ∧ j < (bPart x n).1.length)) ∧ s.free.length ≤ 2) := by
 rcases hq : bPart x n with ⟨m, fi, out⟩
 rw [hq] at k hl hag hs hs2
 have hml := k.len
 have hfi := k.frag.hf
 have hto := k.frag.ht
 obtain ⟨so, ho1, ho2, ho3⟩ := k.out
 dsimp only at *
 have hMo : M[out]? = some (addFree so T) := by
  rw [hag out hto.1 hto.2, bFree_get, if_pos rfl, ho1]
  rfl
 have hMi : ∀ i, n.length ≤ i → i < m.length → i ≠ out → M[i]? = m[i]? := fun i h1 h2 h3 => by rw [hag i h1 h2, bFree_get, if_neg h3]
 have f2 : Frag M n.length m.length fi out Lx := k.frag.agree (by dsimp only; omega) (fun i h1 h2 h3 => hMi i h1 h2 h3)
 have hin : ∀ w, PathTo M T fi w ↔ x.lang w := by
  intro w
  rw [← hx, ← f2.la]
  constructor
  ·intro hp
   obtain ⟨u, v, e, h2, h3⟩ := path_cut (m := out) hp (P := fun j => n.length ≤ j ∧ j < m.length) (fun i h1 => by omega) (fun i s hs h1 h2 => f2.cl i s hs h1.1 h1.2 h2) hfi
   obtain ⟨j, hj, hk⟩ := (path_free hMo (by omega) ho3).1 h3
   simp [addFree, ho2] at hj
   have : j = T := by omega
   subst this
   rw [path_end hk, List.append_nil] at e
   rw [e]; exact h2
  ·intro hp
   have := path_app hp ((path_free hMo (by omega) ho3).2 ⟨T, by simp [addFree, ho2], .done⟩) (P := fun j => n.length ≤ j ∧ j < m.length) (t := T) (fun i h1 _ => by omega) (fun i s hs h1 h2 => f2.cl i s hs h1.1 h1.2 h2) hfi
   rwa [List.append_nil] at this
 refine ⟨fun w => ?_, fun i s hsi h1 h2 => ?_⟩
 ·rw [path_free hs (by omega) hs1, hs2, langAlt_cons, ← hin, ← hX]
  constructor
  ·rintro ⟨j, hj, hk⟩
   rcases List.mem_cons.1 hj with e | hj
   ·have : j = fi := by omega
    subst this
    exact .inl hk
   ·exact .inr ⟨j, hj, hk⟩
  ·rintro (hk | ⟨j, hj, hk⟩)
   ·exact ⟨fi, by simp, hk⟩
   ·exact ⟨j, List.mem_cons.2 (.inr hj), hk⟩
 ·by_cases h3 : i = out
  ·subst h3
   rw [hMo] at hsi
   injection hsi with hsi
   subst hsi
   refine ⟨⟨fun y hy => ?_, .inl ho3⟩, by simp [addFree, ho2]⟩
   simp [addFree, ho2] at hy
   exact ⟨T, hy, .inl rfl⟩
  ·refine ⟨(f2.cl i s hsi h1 h2 h3).mono fun j hj => .inr hj, ?_⟩
   rw [hMi i h1 h2 h3] at hsi
   exact k.few i s hsi h1
structure AR (T : Nat) (n : List St) (f l : Nat) (s0 : St) (r : List Rx) (p : List St × Nat × Nat) : Prop where
 f : p.2.1 = f
 t : p.2.2 = T
 len : n.length ≤ p.1.length
 old : ∀ i, i < n.length → i ≠ l → p.1[i]? = n[i]?
 last : ∃ X s1, p.1[l]? = some s1 ∧ s1.to = -1 ∧ s1.free = s0.free ++ X ∧ X.length ≤ 1 ∧ (∀ x ∈ X, ∃ j : Nat, x = (j : Int) ∧ n.length ≤ j ∧ j < p.1.length) ∧ ∀ w, (∃ j : Nat, (j : Int) ∈ X ∧ PathTo p.1 T j w) ↔ Rx.langAlt r w
 new : ∀ i s, p.1[i]? = some s → n.length ≤ i → edgeIn s (fun j => j = T ∨ (n.length ≤ j ∧ j < p.1.length)) ∧ s.free.length ≤ 2
theorem alt_nil {T f l : Nat} {n : List St} {s0 : St} (h : n[l]? = some s0) (h0 : s0.to = -1) : AR T n f l s0 [] (bAltGo [] n (some (f, l)) T) := by
 rw [bAltGo]
 refine ⟨rfl, rfl, Nat.le_refl _, fun i _ _ => rfl, ⟨[], s0, h, h0, by simp, by simp, by simp, fun w => ?_⟩, fun i s hs hi => ?_⟩
 ·constructor
  ·rintro ⟨j, hj, _⟩; simp at hj
  ·exact fun e => absurd e (langAlt_nil w)
 ·have := get_lt hs; dsimp only at this; omega
theorem alt_cons {T f l : Nat} {n : List St} {s0 : St} {x : Rx} {r : List Rx} (hT : T < n.length) (hl : l < n.length) (h : n[l]? = some s0) (h0 : s0.to = -1) (k : Part n (bPart x n) x.lang)
  (ih : ∀ n' s0', T < n'.length → (bPart x n).1.length < n'.length → n'[(bPart x n).1.length]? = some s0' → s0'.to = -1 → AR T n' f (bPart x n).1.length s0' r (bAltGo r n' (some (f, (bPart x n).1.length)) T)) : AR T n f l s0 (x :: r) (bAltGo (x :: r) n (some (f, l)) T) := by
 rw [bAltGo]
 rcases hq : bPart x n with ⟨m, fi, out⟩
 rw [hq] at ih
 have k' := k
 rw [hq] at k'
 have hml := k'.len
 have hfi := k'.frag.hf
 have hto := k'.frag.ht
 dsimp only at hml hfi hto ih ⊢
 let n3 := bFree (bFree m out T ++ [stF [(fi : Int)]]) l m.length
 have hn3 : n3.length = m.length + 1 := by simp [n3, bFree_len]
 have hlm : (bFree m out T).length = m.length := bFree_len _ _ _
 have h3s : n3[m.length]? = some (stF [(fi : Int)]) := by
  simp only [n3]
  rw [bFree_get, if_neg (by omega), ← hlm, app_0]
 have h3l : n3[l]? = some (addFree s0 m.length) := by
  simp only [n3]
  rw [bFree_get, if_pos rfl, app_old (by omega), bFree_get, if_neg (by omega), k'.old l hl, h]
  rfl
 have h3i : ∀ i, i < m.length → i ≠ l → n3[i]? = (bFree m out T)[i]? := fun i h1 h2 => by
  simp only [n3]
  rw [bFree_get, if_neg h2, app_old (by omega)]
 have A := ih n3 (stF [(fi : Int)]) (by omega) (by omega) h3s rfl
 obtain ⟨X, s1, a1, a2, a3, a4, a5, a6⟩ := A.last
 have hMlen := A.len
 rw [hn3] at hMlen
 have H := alt_head (T := T) (n := n) (M := (bAltGo r n3 (some (f, m.length)) T).1) (x := x) (r := r) (X := X) (sh := s1) hT k (by rw [hq]; dsimp only; omega)
  (fun i h1 h2 => by rw [hq] at h2 ⊢; dsimp only at h2 ⊢; rw [A.old i (by omega) (by omega), h3i i h2 (by omega)]) (by rw [hq]; exact a1) a2 (by rw [hq, a3]; rfl) a6 (fun w => Iff.rfl)
 rw [hq] at H
 dsimp only at H
 show AR T n f l s0 (x :: r) (bAltGo r n3 (some (f, m.length)) T)
 refine ⟨A.f, A.t, by omega, fun i h1 h2 => ?_, ⟨[(m.length : Int)], addFree s0 m.length, ?_, h0, rfl, by simp, fun y hy => ?_, fun w => ?_⟩, fun i s hs h1 => ?_⟩
 ·rw [A.old i (by omega) (by omega), h3i i (by omega) h2, bFree_get, if_neg (by omega), k'.old i h1]
 ·rw [A.old l (by omega) (by omega)]; exact h3l
 ·simp at hy; exact ⟨m.length, hy, by omega, by omega⟩
 ·rw [← H.1 w]
  constructor
  ·rintro ⟨j, hj, hk⟩
   simp at hj
   have : j = m.length := by omega
   subst this
   exact hk
  ·intro hk; exact ⟨m.length, by simp, hk⟩
 ·rcases Nat.lt_trichotomy i m.length with h2 | h2 | h2
  ·obtain ⟨b1, b2⟩ := H.2 i s hs h1 h2
   exact ⟨b1.mono fun j hj => by omega, b2⟩
  ·subst h2
   rw [a1] at hs
   injection hs with hs
   subst hs
   refine ⟨⟨fun y hy => ?_, .inl a2⟩, by rw [a3]; simp [stF]; omega⟩
   rw [a3] at hy
   rcases List.mem_append.1 hy with hy | hy
   ·simp [stF] at hy
    exact ⟨fi, hy, .inr (by omega)⟩
   ·obtain ⟨j, e1, e2, e3⟩ := a5 y hy
    exact ⟨j, e1, .inr (by omega)⟩
  ·obtain ⟨b1, b2⟩ := A.new i s hs (by omega)
   exact ⟨b1.mono fun j hj => by omega, b2⟩
theorem alt_first {x : Rx} {r : List Rx} {ns : List St} (k : Part (ns ++ [st0]) (bPart x (ns ++ [st0])) x.lang)
  (ih : ∀ n' f l s0', ns.length < n'.length → l < n'.length → n'[l]? = some s0' → s0'.to = -1 → AR ns.length n' f l s0' r (bAltGo r n' (some (f, l)) ns.length)) : Part ns (bAltGo (x :: r) (ns ++ [st0]) none ns.length) (Rx.langAlt (x :: r)) := by
 rw [bAltGo]
 rcases hq : bPart x (ns ++ [st0]) with ⟨m, fi, out⟩
 have k' := k
 rw [hq] at k'
 have hml := k'.len
 have hfi := k'.frag.hf
 have hto := k'.frag.ht
 simp only [List.length_append, List.length_cons, List.length_nil] at hml hfi hto
 dsimp only
 let n3 := bFree m out ns.length ++ [stF [(fi : Int)]]
 have hn3 : n3.length = m.length + 1 := by simp [n3, bFree_len]
 have hlm : (bFree m out ns.length).length = m.length := bFree_len _ _ _
 have h3s : n3[m.length]? = some (stF [(fi : Int)]) := by
  simp only [n3]
  rw [← hlm, app_0]
 have h3i : ∀ i, i < m.length → n3[i]? = (bFree m out ns.length)[i]? := fun i h1 => by
  simp only [n3]
  rw [app_old (by omega)]
 have A := ih n3 m.length m.length (stF [(fi : Int)]) (by omega) (by omega) h3s rfl
 obtain ⟨X, s1, a1, a2, a3, a4, a5, a6⟩ := A.last
 have hMlen := A.len
 rw [hn3] at hMlen
 have H := alt_head (T := ns.length) (n := ns ++ [st0]) (M := (bAltGo r n3 (some (m.length, m.length)) ns.length).1) (x := x) (r := r) (X := X) (sh := s1) (by simp) k (by rw [hq]; dsimp only; omega)
  (fun i h1 h2 => by rw [hq] at h2 ⊢; dsimp only at h2 ⊢; rw [A.old i (by omega) (by omega), h3i i h2]) (by rw [hq]; exact a1) a2 (by rw [hq, a3]; rfl) a6 (fun w => Iff.rfl)
 rw [hq] at H
 simp only [List.length_append, List.length_cons, List.length_nil] at H
 have hMT : (bAltGo r n3 (some (m.length, m.length)) ns.length).1[ns.length]? = some st0 := by
  rw [A.old ns.length (by omega) (by omega), h3i _ (by omega), bFree_get, if_neg (by omega), k'.old _ (by simp), app_0]
 have new : ∀ i s, (bAltGo r n3 (some (m.length, m.length)) ns.length).1[i]? = some s → ns.length ≤ i → edgeIn s (fun j => ns.length ≤ j ∧ j < (bAltGo r n3 (some (m.length, m.length)) ns.length).1.length) ∧ s.free.length ≤ 2 := by
  intro i s hs h1
  by_cases h0 : i = ns.length
  ·subst h0
   rw [hMT] at hs
   injection hs with hs
   subst hs
   exact ⟨⟨fun y hy => by simp [st0, stF] at hy, .inl rfl⟩, by simp [st0, stF]⟩
  rcases Nat.lt_trichotomy i m.length with h2 | h2 | h2
  ·obtain ⟨b1, b2⟩ := H.2 i s hs (by omega) h2
   exact ⟨b1.mono fun j hj => by omega, b2⟩
  ·subst h2
   rw [a1] at hs
   injection hs with hs
   subst hs
   refine ⟨⟨fun y hy => ?_, .inl a2⟩, by rw [a3]; simp [stF]; omega⟩
   rw [a3] at hy
   rcases List.mem_append.1 hy with hy | hy
   ·simp [stF] at hy
    exact ⟨fi, hy, by omega⟩
   ·obtain ⟨j, e1, e2, e3⟩ := a5 y hy
    exact ⟨j, e1, by omega⟩
  ·obtain ⟨b1, b2⟩ := A.new i s hs (by omega)
   exact ⟨b1.mono fun j hj => by omega, b2⟩
 have e1 : bAltGo r n3 (some (m.length, m.length)) ns.length = ((bAltGo r n3 (some (m.length, m.length)) ns.length).1, m.length, ns.length) := by
  rw [← A.f, ← A.t]
  have := A.f
  have := A.t
  ext1
  ·simp_all
  ·ext1 <;> simp_all
 show Part ns (bAltGo r n3 (some (m.length, m.length)) ns.length) _
 rw [e1]
 refine ⟨by dsimp only; omega, fun i hi => ?_, ⟨by dsimp only; omega, by dsimp only; omega, Nat.le_refl _, fun i s hs h1 h2 h3 => (new i s hs h1).1, fun w => H.1 w⟩, ⟨st0, hMT, rfl, rfl⟩, fun i s hs h1 => (new i s hs h1).2⟩
 dsimp only
 rw [A.old i (by omega) (by omega), h3i i (by omega), bFree_get, if_neg (by omega), k'.old i (by simp; omega), app_old hi]
end
section
theorem Part.cq {n : List St} {p : List St × Nat × Nat} {L : List Int → Prop} (h : Part n p L) : CQ n.length p.1 p.2.1 p.2.2 L := ⟨h.frag, h.out, h.few⟩
theorem right_star {k : Int} {s : W4} {l : List Rx} (h : right k s l = true) (hk : k = 6) : l.length = 1 := by
 subst hk
 simp [right] at h
 exact h.1.2
theorem right_ne {k : Int} {s : W4} {l : List Rx} (h : right k s l = true) (hk : k = 4 ∨ k = 5) : l ≠ [] := by
 rintro rfl
 rcases hk with rfl | rfl <;> simp [right] at h
mutual
theorem part_all : ∀ (r : Rx) (ns : List St), r.plain = true → Part ns (bPart r ns) r.lang
 | .mk k s l, ns, h => by
  simp only [Rx.plain, Bool.and_eq_true] at h
  have hk := right_kinds h.1
  rw [bPart]
  by_cases h3 : k = 3
  ·rw [if_pos h3]
   exact (part_set s ns).congr fun w => by rw [kind_3 (r := .mk k s l) h3]; rfl
  ·rw [if_neg h3]
   by_cases h4 : k = 4
   ·rw [if_pos h4]
    exact (cat_list l ns h.2 (right_ne h.1 (.inl h4))).congr fun w => by rw [kind_4 (r := .mk k s l) h4]; rfl
   ·rw [if_neg h4]
    by_cases h5 : k = 5
    ·rw [if_pos h5]
     exact (alt_list l ns h.2 (right_ne h.1 (.inr h5))).congr fun w => by rw [← kind_5 (r := .mk k s l) h5]; rfl
    ·rw [if_neg h5]
     by_cases h6 : k = 6
     ·rw [if_pos h6]
      exact (star_list l ns h.2 (right_star h.1 h6)).congr fun w => by rw [kind_6 (r := .mk k s l) h6]; rfl
     ·rw [if_neg h6]
      by_cases h2 : k = 2
      ·rw [if_pos h2]
       exact (part_empty ns).congr fun w => by rw [kind_2 (r := .mk k s l) h2]
      ·rw [if_neg h2]
       exact (part_none ns).congr fun w => ⟨fun e => e.elim, fun e => kind_0 (r := .mk k s l) ⟨h2, h3, h4, h5, h6⟩ w e⟩
theorem star_list : ∀ (l : List Rx) (ns : List St), Rx.plainL l = true → l.length = 1 → Part ns (bStar l ns) (Star (Rx.langOne l))
 | [], _, _, h => by simp at h
 | a :: t, ns, h, hl => by
  simp only [Rx.plainL, Bool.and_eq_true] at h
  have ht : t = [] := by simpa using hl
  subst ht
  refine part_star (Part.congr (part_all a (ns ++ [st0, st0]) h.1) fun w => ?_) []
  rw [langOne_iff]
  simp
theorem cat_list : ∀ (l : List Rx) (ns : List St), Rx.plainL l = true → l ≠ [] → Part ns (bCat l ns) (Rx.langCat l)
 | [], _, _, h => absurd rfl h
 | a :: t, ns, h, _ => by
  simp only [Rx.plainL, Bool.and_eq_true] at h
  have P := part_all a ns h.1
  rw [bCat]
  obtain ⟨c1, c2, c3⟩ := cat_all t (bPart a ns).1 ns.length (bPart a ns).2.1 (bPart a ns).2.2 a.lang h.2 P.cq
  refine ⟨Nat.le_trans P.len c3, fun i hi => (c2 i hi).trans (P.old i hi), ⟨c1.frag.hf, c1.frag.ht, c1.frag.hb, c1.frag.cl, fun w => (c1.frag.la w).trans (langCat_cons a t w).symm⟩, c1.out, c1.few⟩
theorem cat_all : ∀ (l : List Rx) (n : List St) (a f t : Nat) (L : List Int → Prop), Rx.plainL l = true → CQ a n f t L →
  CQ a (bCatGo l n f t).1 (bCatGo l n f t).2.1 (bCatGo l n f t).2.2 (fun w => ∃ u v, w = u ++ v ∧ L u ∧ Rx.langCat l v) ∧ (∀ i, i < a → (bCatGo l n f t).1[i]? = n[i]?) ∧ n.length ≤ (bCatGo l n f t).1.length
 | [], n, a, f, t, L, _, h => by
  rw [bCatGo]
  refine ⟨⟨⟨h.frag.hf, h.frag.ht, h.frag.hb, h.frag.cl, fun w => (h.frag.la w).trans ?_⟩, h.out, h.few⟩, fun _ _ => rfl, Nat.le_refl _⟩
  constructor
  ·intro hw; exact ⟨w, [], by simp, hw, (langCat_nil _).2 rfl⟩
  ·rintro ⟨u, v, rfl, h1, h2⟩
   rw [langCat_nil] at h2
   subst h2
   simpa using h1
 | x :: r, n, a, f, t, L, hp, h => by
  simp only [Rx.plainL, Bool.and_eq_true] at hp
  obtain ⟨d1, d2, d3⟩ := cat_one h (part_all x n hp.1)
  obtain ⟨c1, c2, c3⟩ := cat_all r (bFree (bPart x n).1 t (bPart x n).2.1) a f (bPart x n).2.2 _ hp.2 d1
  rw [bCatGo]
  refine ⟨⟨⟨c1.frag.hf, c1.frag.ht, c1.frag.hb, c1.frag.cl, fun w => (c1.frag.la w).trans ?_⟩, c1.out, c1.few⟩, fun i hi => (c2 i hi).trans (d2 i hi), Nat.le_trans d3 c3⟩
  constructor
  ·rintro ⟨_, v, rfl, ⟨u1, u2, rfl, h1, h2⟩, h3⟩
   exact ⟨u1, u2 ++ v, by rw [List.append_assoc], h1, (langCat_cons _ _ _).2 ⟨u2, v, rfl, h2, h3⟩⟩
  ·rintro ⟨u, v, rfl, h1, h2⟩
   obtain ⟨v1, v2, rfl, h3, h4⟩ := (langCat_cons _ _ _).1 h2
   exact ⟨u ++ v1, v2, by rw [List.append_assoc], ⟨u, v1, rfl, h1, h3⟩, h4⟩
theorem alt_list : ∀ (l : List Rx) (ns : List St), Rx.plainL l = true → l ≠ [] → Part ns (bAltGo l (ns ++ [st0]) none ns.length) (Rx.langAlt l)
 | [], _, _, h => absurd rfl h
 | x :: r, ns, h, _ => by
  simp only [Rx.plainL, Bool.and_eq_true] at h
  exact alt_first (part_all x (ns ++ [st0]) h.1) fun n' f l s0' h1 h2 h3 h4 => alt_all r n' f l ns.length s0' h.2 h1 h2 h3 h4
theorem alt_all : ∀ (r : List Rx) (n : List St) (f l T : Nat) (s0 : St), Rx.plainL r = true → T < n.length → l < n.length → n[l]? = some s0 → s0.to = -1 → AR T n f l s0 r (bAltGo r n (some (f, l)) T)
 | [], n, f, l, T, s0, _, _, _, h3, h4 => alt_nil h3 h4
 | x :: r, n, f, l, T, s0, h, h1, h2, h3, h4 => by
  simp only [Rx.plainL, Bool.and_eq_true] at h
  exact alt_cons h1 h2 h3 h4 (part_all x n h.1) fun n' s0' g1 g2 g3 g4 => alt_all r n' f (bPart x n).1.length T s0' h.2 g1 g2 g3 g4
end
/-! ### how great it is -/
mutual
theorem len_part : ∀ (r : Rx) (ns : List St), (bPart r ns).1.length + 1 ≤ ns.length + 3 * r.nodes
 | .mk k s l, ns => by
  rw [bPart, Rx.nodes]
  split
  ·simp; omega
  ·split
   ·have := len_cat l ns; omega
   ·split
    ·have := len_alt l (ns ++ [st0]) none ns.length
     simp only [List.length_append, List.length_cons, List.length_nil] at this
     omega
    ·split
     ·have := len_star l ns; omega
     ·split
      ·simp [bFree_len]; omega
      ·simp; omega
theorem len_star : ∀ (l : List Rx) (ns : List St), (bStar l ns).1.length ≤ ns.length + 3 * Rx.nodesL l + 1
 | [], ns => by rw [bStar]; simp [Rx.nodesL]
 | a :: t, ns => by
  have := len_part a (ns ++ [st0, st0])
  simp only [List.length_append, List.length_cons, List.length_nil] at this
  rw [bStar]
  simp only [bFree_len, Rx.nodesL]
  omega
theorem len_cat : ∀ (l : List Rx) (ns : List St), (bCat l ns).1.length ≤ ns.length + 3 * Rx.nodesL l
 | [], ns => by rw [bCat]; simp [Rx.nodesL]
 | a :: t, ns => by
  have h1 := len_part a ns
  have h2 := len_catGo t (bPart a ns).1 (bPart a ns).2.1 (bPart a ns).2.2
  rw [bCat, Rx.nodesL]
  omega
theorem len_catGo : ∀ (l : List Rx) (ns : List St) (f t : Nat), (bCatGo l ns f t).1.length ≤ ns.length + 3 * Rx.nodesL l
 | [], ns, f, t => by rw [bCatGo]; simp [Rx.nodesL]
 | a :: r, ns, f, t => by
  have h1 := len_part a ns
  have h2 := len_catGo r (bFree (bPart a ns).1 t (bPart a ns).2.1) f (bPart a ns).2.2
  rw [bFree_len] at h2
  rw [bCatGo, Rx.nodesL]
  omega
theorem len_alt : ∀ (l : List Rx) (ns : List St) (fl : Option (Nat × Nat)) (t : Nat), (bAltGo l ns fl t).1.length ≤ ns.length + 3 * Rx.nodesL l
 | [], ns, fl, t => by rw [bAltGo]; simp [Rx.nodesL]
 | a :: r, ns, none, t => by
  have h1 := len_part a ns
  have h2 := len_alt r (bFree (bPart a ns).1 (bPart a ns).2.2 t ++ [stF [((bPart a ns).2.1 : Int)]]) (some ((bPart a ns).1.length, (bPart a ns).1.length)) t
  simp only [List.length_append, bFree_len, List.length_cons, List.length_nil] at h2
  rw [bAltGo, Rx.nodesL]
  omega
 | a :: r, ns, some (f, l), t => by
  have h1 := len_part a ns
  have h2 := len_alt r (bFree (bFree (bPart a ns).1 (bPart a ns).2.2 t ++ [stF [((bPart a ns).2.1 : Int)]]) l (bPart a ns).1.length) (some (f, (bPart a ns).1.length)) t
  simp only [List.length_append, bFree_len, List.length_cons, List.length_nil] at h2
  rw [bAltGo, Rx.nodesL]
  omega
end
/-! ### a run -/
inductive Acc (M : List St) : Nat → List Int → Nat → Prop
 | refl {i : Nat} : Acc M i [] i
 | eps {i j k : Nat} {w : List Int} {s : St} : M[i]? = some s → (j : Int) ∈ s.free → Acc M j w k → Acc M i w k
 | byte {i j k : Nat} {b : Int} {w : List Int} {s : St} : M[i]? = some s → s.to = (j : Int) → s.has b = true → Acc M j w k → Acc M i (b :: w) k
end
section
/-! ### the words of the states -/
def wordsOk (ns : List St) : Prop := ∀ s ∈ ns, 0 ≤ s.w0 ∧ 0 ≤ s.w1 ∧ 0 ≤ s.w2 ∧ 0 ≤ s.w3
theorem wordsOk.app {a b : List St} (h : wordsOk a) (g : wordsOk b) : wordsOk (a ++ b) := fun s hs => (List.mem_append.1 hs).elim (h s) (g s)
theorem words_stF (l : List Int) : wordsOk [stF l] := fun s hs => by
 simp only [List.mem_cons, List.not_mem_nil, or_false] at hs
 subst hs
 exact ⟨Int.le_refl _, Int.le_refl _, Int.le_refl _, Int.le_refl _⟩
theorem words_st0 : wordsOk [st0] := words_stF []
theorem words_st00 : wordsOk [st0, st0] := words_st0.app words_st0
theorem wordsOk.free {ns : List St} (h : wordsOk ns) (i j : Nat) : wordsOk (bFree ns i j) := by
 unfold bFree
 split
 ·rename_i s hs
  intro x hx
  rcases List.mem_or_eq_of_mem_set hx with hx | hx
  ·exact h x hx
  ·subst hx
   exact h s (List.mem_of_getElem? hs)
 ·exact h
mutual
theorem words_part : ∀ (r : Rx) (ns : List St), r.ok → wordsOk ns → wordsOk (bPart r ns).1
 | .mk k s l, ns, h, g => by
  have hs : s.ok := h.2.1
  have hl : Rx.oks l := h.2.2
  rw [bPart]
  split
  ·refine g.app (words_st0.app (b := [_]) fun x hx => ?_)
   simp only [List.mem_cons, List.not_mem_nil, or_false] at hx
   subst hx
   exact ⟨hs.1, hs.2.1, hs.2.2.1, hs.2.2.2.1⟩
  ·split
   ·exact words_cat l ns hl g
   ·split
    ·exact words_alt l _ none _ hl (g.app words_st0)
    ·split
     ·exact words_star l ns hl g
     ·split
      ·exact (g.app words_st00).free _ _
      ·exact g.app words_st00
theorem words_star : ∀ (l : List Rx) (ns : List St), Rx.oks l → wordsOk ns → wordsOk (bStar l ns).1
 | [], ns, _, g => by rw [bStar]; exact g
 | a :: t, ns, h, g => by
  rw [bStar]
  exact (((words_part a _ h.1 (g.app words_st00)).free _ _).free _ _).free _ _
theorem words_cat : ∀ (l : List Rx) (ns : List St), Rx.oks l → wordsOk ns → wordsOk (bCat l ns).1
 | [], ns, _, g => by rw [bCat]; exact g
 | a :: t, ns, h, g => by
  rw [bCat]
  exact words_catGo t _ _ _ h.2 (words_part a _ h.1 g)
theorem words_catGo : ∀ (l : List Rx) (ns : List St) (f t : Nat), Rx.oks l → wordsOk ns → wordsOk (bCatGo l ns f t).1
 | [], ns, _, _, _, g => by rw [bCatGo]; exact g
 | a :: r, ns, f, t, h, g => by
  rw [bCatGo]
  exact words_catGo r _ _ _ h.2 ((words_part a _ h.1 g).free _ _)
theorem words_alt : ∀ (l : List Rx) (ns : List St) (fl : Option (Nat × Nat)) (t : Nat), Rx.oks l → wordsOk ns → wordsOk (bAltGo l ns fl t).1
 | [], ns, _, _, _, g => by rw [bAltGo]; exact g
 | a :: r, ns, none, t, h, g => by
  rw [bAltGo]
  exact words_alt r _ _ _ h.2 (((words_part a _ h.1 g).free _ _).app (words_stF _))
 | a :: r, ns, some (f, l), t, h, g => by
  rw [bAltGo]
  exact words_alt r _ _ _ h.2 ((((words_part a _ h.1 g).free _ _).app (words_stF _)).free _ _)
end
end
section
/-! ### what the constructors speak -/
theorem tidy_set' {l : List Rx} (h : Rx.tidyL l) : ∀ r ∈ l, r.set.ok := fun r hr => tidy_set ((Rx.tidyL_iff _).1 h r hr)
/-! ### tidy ones -/
theorem tidy_mk {k : Int} {l : List Rx} (h : Rx.tidyL l) : (Rx.mk k noSet l).tidy := by
 simp only [Rx.tidy]
 exact ⟨fun _ => trivial, noSet_ok, h⟩
theorem tidy_none : noneR.tidy := tidy_mk (by simp [Rx.tidyL])
theorem tidy_empty : emptyR.tidy := tidy_mk (by simp [Rx.tidyL])
theorem tidy_bytes {s : W4} (h : s.ok) : (bytesR s).tidy := by
 unfold bytesR
 split
 ·exact tidy_none
 ·exact tidy_mkset h
theorem catOf_tidy {l : List Rx} (h : Rx.tidyL l) : (catOf l).tidy := by
 match l with
 | [] => exact tidy_empty
 | [x] => exact h.1
 | x :: y :: t => exact tidy_mk h
theorem altOf_tidy {l : List Rx} (h : Rx.tidyL l) : (altOf l).tidy := by
 match l with
 | [] => exact tidy_none
 | [x] => exact h.1
 | x :: y :: t => exact tidy_mk h
theorem filter_tidy {p : Rx → Bool} {l : List Rx} (h : Rx.tidyL l) : Rx.tidyL (l.filter p) := by
 rw [Rx.tidyL_iff] at h ⊢
 exact fun x hx => h x (mem_filt hx)
theorem catR_tidy {l : List Rx} (h : Rx.tidyL l) : (catR l).tidy := by
 unfold catR
 split
 ·exact tidy_none
 ·exact catOf_tidy (filter_tidy (flat_tidy h))
theorem altR_tidy {l : List Rx} (h : Rx.tidyL l) : (altR l).tidy := by
 have hf := flat_tidy (k := 5) h
 obtain ⟨o1, o2, o3⟩ := altOuts_props (o := []) hf (by simp [Rx.tidyL]) (by simp [SortedR])
 exact altOf_tidy (altFin_props o1 o2 (altSet_ok noSet_ok (tidy_set' hf))).1
theorem starN_tidy : ∀ (n : Nat) {r : Rx}, r.tidy → (starN n r).tidy
 | 0, r, h => h
 | n + 1, r, h => by
  simp only [starN]
  split
  ·exact h
  ·split
   ·exact tidy_empty
   ·split
    ·exact starN_tidy n (altR_tidy (filter_tidy (tidy_args h)))
    ·exact tidy_mk ⟨h, trivial⟩
theorem starR_tidy {r : Rx} (h : r.tidy) : (starR r).tidy := starN_tidy 2000 h
/-! ### any number -/
theorem Star.one {P : List Int → Prop} {w : List Int} (h : P w) : Star P w := by
 have := Star.cons h Star.nil
 rwa [List.append_nil] at this
theorem Star.app {P : List Int → Prop} {u v : List Int} (h : Star P u) (g : Star P v) : Star P (u ++ v) := by
 induction h with
 | nil => exact g
 | cons h1 _ ih => rw [List.append_assoc]; exact .cons h1 ih
theorem Star.bind {P Q : List Int → Prop} {w : List Int} (h : Star P w) (hP : ∀ u, P u → Star Q u) : Star Q w := by
 induction h with
 | nil => exact .nil
 | cons h1 _ ih => exact (hP _ h1).app ih
/-! ### an expression out of numbers is tidy -/
theorem pLeaf_tidy {k : Int} {q : List Int} (hq : bytesOk q) : (pLeaf k q).1.tidy := by
 unfold pLeaf
 split
 ·exact tidy_bytes (pSet_ok hq).1
 ·dsimp only
  split
  ·exact tidy_none
  ·exact tidy_empty
theorem pRx_tidy : ∀ (f : Nat) {q : List Int}, bytesOk q → (pRx f q).1.tidy
 | 0, q, hq => pLeaf_tidy hq.tail
 | f + 1, q, hq => by
  have a1 := pRx_tidy f hq.tail
  have a2 := pRx_tidy f (pRx_ok f hq.tail).2.1
  have hl : Rx.tidyL [(pRx f q.tail).1, (pRx f (pRx f q.tail).2).1] := ⟨a1, a2, trivial⟩
  simp only [pRx]
  split
  ·exact pLeaf_tidy hq.tail
  ·split
   ·exact catR_tidy hl
   ·split
    ·exact altR_tidy hl
    ·have h8 := starR_tidy a1
     dsimp only
     generalize starR (pRx f q.tail).1 = z at h8 ⊢
     exact h8
end
section
def joinB (P Q : List Int → Bool) (w : List Int) (k : Nat) : Bool := (List.range k).any fun i => P (w.take i) && Q (w.drop i)
def manyB (P Q : List Int → Bool) (w : List Int) (k : Nat) : Bool := decide (w.length = 0) || (List.range k).any fun i => decide (0 < i) && P (w.take i) && Q (w.drop i)
end
section
/-! ### where the words end that begin at the marked places -/
open Classical in
noncomputable def endsP (L : List Int → Prop) (w : List Int) (p : Nat → Bool) (j : Nat) : Bool := decide (∃ i, i ≤ j ∧ p i = true ∧ L (sl w i j))
theorem ends_iff {L : List Int → Prop} {w : List Int} {p : Nat → Bool} {j : Nat} : endsP L w p j = true ↔ ∃ i, i ≤ j ∧ p i = true ∧ L (sl w i j) := by
 unfold endsP
 simp only [decide_eq_true_eq]
theorem ends_congr {L M : List Int → Prop} (h : ∀ x, L x ↔ M x) (w : List Int) (p : Nat → Bool) (j : Nat) : endsP L w p j = endsP M w p j := by
 rw [Bool.eq_iff_iff, ends_iff, ends_iff]
 simp only [h]
theorem ends_eps {L : List Int → Prop} (hL : ∀ x, L x ↔ x = []) {w : List Int} {n j : Nat} (hn : n = w.length + 1) (hj : j < n) (p : Nat → Bool) : p j = endsP L w p j := by
 rw [Bool.eq_iff_iff, ends_iff]
 constructor
 ·intro h; exact ⟨j, Nat.le_refl _, h, (hL _).2 (sl_self w j)⟩
 ·rintro ⟨i, h1, h2, h3⟩
  rw [hL, sl_nil h1 (by omega)] at h3
  exact h3 ▸ h2
theorem ends_none {L : List Int → Prop} (hL : ∀ x, ¬ L x) {w : List Int} {p : Nat → Bool} {j : Nat} : false = endsP L w p j := by
 symm
 rw [Bool.eq_false_iff, ne_eq, ends_iff]
 rintro ⟨_, _, _, h⟩
 exact hL _ h
def eg (s : W4) (w : List Int) (p : Nat → Bool) (i j : Nat) : Bool := decide (0 < j ∧ j ≤ i) && (p (j - 1) && s.hasI (w.getD (j - 1) 0))
theorem eg_start {s : W4} {w : List Int} {p : Nat → Bool} {j : Nat} : false = eg s w p 0 j := by
 unfold eg
 rw [decide_eq_false (by omega), Bool.false_and]
theorem eg_step {s : W4} {w : List Int} {p : Nat → Bool} {i j : Nat} (h : i < w.length) : (if j = i + 1 then (p i && s.hasI w[i]) else eg s w p i j) = eg s w p (i + 1) j := by
 unfold eg
 by_cases hj : j = i + 1
 ·subst hj
  rw [if_pos rfl, decide_eq_true (by omega), Bool.true_and, Nat.add_sub_cancel, List.getD_eq_getElem?_getD, List.getElem?_eq_getElem h]
  rfl
 ·rw [if_neg hj]
  congr 1
  rw [decide_eq_decide]
  omega
theorem eg_done {s : W4} {L : List Int → Prop} (hL : ∀ x, L x ↔ ∃ c, x = [c] ∧ s.hasI c = true) {w : List Int} {n j : Nat} (hn : n = w.length + 1) (hj : j < n) (p : Nat → Bool) : eg s w p w.length j = endsP L w p j := by
 unfold eg
 rw [Bool.eq_iff_iff, ends_iff]
 simp only [Bool.and_eq_true, decide_eq_true_eq]
 constructor
 ·rintro ⟨⟨h1, h2⟩, h3, h4⟩
  refine ⟨j - 1, by omega, h3, (hL _).2 ⟨w[j - 1]'(by omega), ?_, ?_⟩⟩
  ·have := sl_one (w := w) (i := j - 1) (by omega)
   rwa [show j - 1 + 1 = j by omega] at this
  ·rw [List.getD_eq_getElem?_getD, List.getElem?_eq_getElem (by omega)] at h4
   exact h4
 ·rintro ⟨i, h1, h2, h3⟩
  obtain ⟨c, h3, h4⟩ := (hL _).1 h3
  have hl := sl_len (w := w) (i := i) (j := j) (by omega)
  rw [h3] at hl
  simp at hl
  have : i = j - 1 := by omega
  subst this
  refine ⟨⟨by omega, by omega⟩, h2, ?_⟩
  have h5 := sl_one (w := w) (i := j - 1) (by omega)
  rw [show j - 1 + 1 = j by omega, h3] at h5
  injection h5 with h5
  rw [List.getD_eq_getElem?_getD, List.getElem?_eq_getElem (by omega)]
  exact h5 ▸ h4
theorem ends_comp {L M : List Int → Prop} {w : List Int} {p : Nat → Bool} {j : Nat} (hj : j ≤ w.length) : endsP M w (endsP L w p) j = endsP (fun x => ∃ u v, x = u ++ v ∧ L u ∧ M v) w p j := by
 rw [Bool.eq_iff_iff, ends_iff, ends_iff]
 constructor
 ·rintro ⟨i, h1, h2, h3⟩
  obtain ⟨k, h4, h5, h6⟩ := ends_iff.1 h2
  exact ⟨k, by omega, h5, _, _, sl_app h4 h1 hj, h6, h3⟩
 ·rintro ⟨i, h1, h2, u, v, h3, h4, h5⟩
  obtain ⟨g1, g2, g3⟩ := sl_cut h1 hj h3
  exact ⟨i + u.length, g1, ends_iff.2 ⟨i, by omega, h2, g2 ▸ h4⟩, g3 ▸ h5⟩
theorem ends_cat {l : List Rx} {k : Nat} (hk : k < l.length) {w : List Int} {p : Nat → Bool} {n j : Nat} (hn : n = w.length + 1) (hj : j < n) : endsP (l[k]).lang w (endsP (Rx.langCat (l.take k)) w p) j = endsP (Rx.langCat (l.take (k + 1))) w p j := by
 rw [ends_comp (by omega)]
 refine ends_congr (fun x => ?_) w p j
 rw [List.take_add_one, List.getElem?_eq_getElem hk, langCat_app]
 simp only [Option.toList_some, langCat_one]
theorem ends_alt {l : List Rx} {k : Nat} (hk : k < l.length) (w : List Int) (p : Nat → Bool) (j : Nat) : (endsP (Rx.langAlt (l.take k)) w p j || endsP (l[k]).lang w p j) = endsP (Rx.langAlt (l.take (k + 1))) w p j := by
 rw [Bool.eq_iff_iff, Bool.or_eq_true, ends_iff, ends_iff, ends_iff]
 rw [List.take_add_one, List.getElem?_eq_getElem hk]
 simp only [Option.toList_some, langAlt_iff, List.mem_append, List.mem_singleton]
 constructor
 ·rintro (⟨i, h1, h2, a, h3, h4⟩ | ⟨i, h1, h2, h3⟩)
  ·exact ⟨i, h1, h2, a, .inl h3, h4⟩
  ·exact ⟨i, h1, h2, _, .inr rfl, h3⟩
 ·rintro ⟨i, h1, h2, a, h3 | h3, h4⟩
  ·exact .inl ⟨i, h1, h2, a, h3, h4⟩
  ·exact .inr ⟨i, h1, h2, h3 ▸ h4⟩
/-- p or, below place i, q. -/
def orP (p q : Nat → Bool) (i j : Nat) : Bool := p j || (decide (j < i) && q j)
def chg (p q : Nat → Bool) (i : Nat) : Bool := (List.range i).any fun j => q j && !p j
theorem chg_succ (p q : Nat → Bool) (i : Nat) : chg p q (i + 1) = (chg p q i || (q i && !p i)) := by
 unfold chg
 rw [List.range_succ, List.any_append]
 simp
theorem orP_start {p q : Nat → Bool} {j : Nat} : p j = orP p q 0 j := by simp [orP]
theorem orP_here {p q : Nat → Bool} {i : Nat} : orP p q i i = p i := by simp [orP]
theorem orP_yes {p q : Nat → Bool} {i j : Nat} (h : q i = true) : (if j = i then true else orP p q i j) = orP p q (i + 1) j := by
 unfold orP
 by_cases hj : j = i
 ·subst hj; simp [h]
 ·rw [if_neg hj, show decide (j < i + 1) = decide (j < i) by rw [decide_eq_decide]; omega]
theorem orP_no {p q : Nat → Bool} {i j : Nat} (h : (q i && !p i) = false) : orP p q i j = orP p q (i + 1) j := by
 unfold orP
 by_cases hj : j = i
 ·subst hj
  simp only [Nat.lt_irrefl, decide_false, Bool.false_and, Nat.lt_succ_self, decide_true, Bool.true_and, Bool.or_false]
  cases h1 : q j <;> cases h2 : p j <;> simp_all
 ·rw [show decide (j < i + 1) = decide (j < i) by rw [decide_eq_decide]; omega]
theorem orP_done {p q : Nat → Bool} {n j : Nat} (h : j < n) : orP p q n j = (p j || q j) := by simp [orP, h]
/-- How many places are not marked. -/
def falses (n : Nat) (q : Nat → Bool) : Nat := (List.range n).countP fun i => !q i
theorem falses_less : ∀ {n : Nat} {q e : Nat → Bool}, chg q e n = true → falses n (orP q e n) < falses n q := by
 intro n q e h
 have key : ∀ m, m ≤ n → (List.range m).countP (fun i => !orP q e n i) + (if chg q e m = true then 1 else 0) ≤ (List.range m).countP fun i => !q i := by
  intro m
  induction m with
  | zero => intro _; simp [chg]
  | succ m ih =>
   intro hm
   have := ih (by omega)
   rw [chg_succ, List.range_succ, List.countP_append, List.countP_append]
   simp only [List.countP_cons, List.countP_nil, orP_done (show m < n by omega)]
   cases h1 : q m <;> cases h2 : e m <;> cases h3 : chg q e m <;> simp_all <;> omega
 have := key n (Nat.le_refl _)
 rw [if_pos h] at this
 unfold falses
 omega
/-- Between what came in and what any number of words reach. -/
def Mid (L : List Int → Prop) (w : List Int) (n : Nat) (p q : Nat → Bool) : Prop := (∀ j, j < n → p j = true → q j = true) ∧ ∀ j, j < n → q j = true → endsP (Star L) w p j = true
theorem mid_start {L : List Int → Prop} {w : List Int} {n : Nat} {p : Nat → Bool} : Mid L w n p p :=
 ⟨fun _ _ h => h, fun j _ h => ends_iff.2 ⟨j, Nat.le_refl _, h, by rw [sl_self]; exact .nil⟩⟩
theorem mid_step {L : List Int → Prop} {w : List Int} {n : Nat} {p q : Nat → Bool} (hn : n = w.length + 1) (h : Mid L w n p q) : Mid L w n p (orP q (endsP L w q) n) := by
 refine ⟨fun j hj hp => by rw [orP_done hj, h.1 j hj hp]; rfl, fun j hj hq => ?_⟩
 rw [orP_done hj, Bool.or_eq_true] at hq
 rcases hq with hq | hq
 ·exact h.2 j hj hq
 ·obtain ⟨i, h1, h2, h3⟩ := ends_iff.1 hq
  obtain ⟨k, h4, h5, h6⟩ := ends_iff.1 (h.2 i (by omega) h2)
  refine ends_iff.2 ⟨k, by omega, h5, ?_⟩
  rw [sl_app h4 h1 (by omega)]
  exact star_app h6 (star_one h3)
theorem mid_done {L : List Int → Prop} {w : List Int} {n : Nat} {p q : Nat → Bool} (hn : n = w.length + 1) (h : Mid L w n p q) (hc : chg q (endsP L w q) n = false) {j : Nat} (hj : j < n) : q j = endsP (Star L) w p j := by
 rw [Bool.eq_iff_iff]
 refine ⟨h.2 j hj, fun g => ?_⟩
 have hc2 : ∀ k, k < n → endsP L w q k = true → q k = true := by
  intro k hk he
  unfold chg at hc
  rw [List.any_eq_false] at hc
  have := hc k (List.mem_range.2 hk)
  simpa [he] using this
 obtain ⟨i, h1, h2, h3⟩ := ends_iff.1 g
 rw [star_iff h1 (by omega)] at h3
 have : ∀ j, SR L w i j → j < n → q j = true := by
  intro j hs
  induction hs with
  | base => intro hj; exact h.1 i hj h2
  | @step a b hs hab hb hl ih =>
   intro hj
   exact hc2 b hj (ends_iff.2 ⟨a, by omega, ih (by omega), hl⟩)
 exact this j h3 hj
theorem mid_none {L : List Int → Prop} (hL : ∀ x, ¬ L x) {w : List Int} {n : Nat} {p q : Nat → Bool} (hn : n = w.length + 1) (h : Mid L w n p q) {j : Nat} (hj : j < n) : q j = endsP (Star L) w p j := by
 refine mid_done hn h ?_ hj
 unfold chg
 rw [List.any_eq_false]
 intro k hk
 rw [← ends_none hL]
 simp
/-- All else is al' it was. -/
def OK1 (es es2 : List Ent) (id : Nat) : Prop := (∀ i, i ≠ id → at_ es2 i = at_ es i) ∧ es2.length = es.length
theorem OK1.refl (es : List Ent) (id : Nat) : OK1 es es id := ⟨fun _ _ => rfl, rfl⟩
theorem OK1.put {es es2 : List Ent} {id : Nat} (h : OK1 es es2 id) (y : Ent) : OK1 es (setAt es2 id y) id := ⟨fun i hi => (at_setAt_ne y hi).trans (h.1 i hi), by rw [setAt_len]; exact h.2⟩
theorem OK1.kb {base es es2 : List Ent} {id : Nat} (h : OK1 es es2 id) (k : KB base es) (hid : base.length ≤ id) : KB base es2 := ⟨fun i hi => (h.1 i (by omega)).trans (k.1 i hi), by rw [h.2]; exact k.2⟩
end
section
open Go.RowKit
section
variable {P : Program} {w0 : World} {N : Nat} {f : Frame} {es : List Ent} {K : Frame → List Ent → Prop}
variable {d : Nat} {ty : TypeId} {pos : String} {aft : Array Edge} {g : Option (Nat × Bool)} {x y z : Operand} {a : AV}
/-- copy(dst, src), the two being al' long al' one another, each cell one word. -/
theorem o_copy {t u e id s : Nat} {rows ys : List (List AV)} {C : Ent → List Ent} (ht : sliceB P t e 1 = true) (hx : ev f x = .own id s) (he : Loc es id (.row s e 1 rows) C) (hy : ev f y = a) (hs : Src es a 1 ys) (hl : ys.length = rows.length) (h0 : 0 < rows.length)
  (k : K (upd f d (.int .i64 rows.length)) (C (.row s e 1 ys))) (hd : Nat.blt d N = true := by rfl) : AOp P w0 N ⟨some d, .call { callee := .builtin .copy, args := #[x, y], argTypes := #[t, u] }, ty, pos, aft, g⟩ f es K := by
 refine op_run hd fun c A ok rf => ?_
 have hvx := rep_own (hx ▸ rep_ev rf x) he.1
 obtain ⟨B, m, vs, hvy, hcapy, hmy, hvs, hnone, hcells⟩ := src_cells ok (hy ▸ rep_ev rf y) hs
 have hvl : vs.length = rows.length := by rw [hvs.length, hl, Nat.mul_one]
 obtain ⟨p, hp⟩ : ∃ p, c.phi id = some p := by
  cases hq : c.phi id with
  | some p => exact ⟨p, rfl⟩
  | none =>
   obtain ⟨_, _, _, _, _, hown⟩ := ok.ent id _ he.1
   rw [hq] at hown
   rcases hown.2 with ⟨_, h1⟩ | ⟨_, _, _, h1, _⟩
   ·omega
   ·cases h1
 obtain ⟨gb, cap⟩ := p
 obtain ⟨xs, cur, h4, hheap, hcap, hcm, hsz, htake, h5⟩ := own_cells ok he.1 hp
 rw [hp] at hvx
 obtain ⟨q, rfl⟩ : ∃ q, B = some q := by
  cases B with
  | some q => exact ⟨q, rfl⟩
  | none => have := hnone rfl; rw [this] at hvl; simp at hvl; omega
 have hcl : cur.toList.length = cap := by rw [Array.length_toList, hsz, Nat.mul_one]
 unfold sliceB at ht
 split at ht
 ·rename_i e' i' hu hi
  simp only [Bool.and_eq_true, beq_iff_eq] at ht
  obtain ⟨rfl, hi1⟩ := ht
  have hrun := run_copy_row (P := P) c.w t u ty e' gb 0 rows.length cap q ys.length m cur e' vs hu (by rw [hi]; simp [hi1]) hheap (by rw [hvl, hl]; simp) (fun j v hj => hcells q rfl j v hj) (by rw [hvl, Nat.zero_add, hsz, Nat.mul_one]; exact hcap) hvs.one
  have hrows : RepRows c (some es) 1 ys vs := hvs
  have hgr : c.w.grownBy (c.w.setRow gb (cur.toList.take 0 ++ vs ++ cur.toList.drop (0 + vs.length)).toArray) (ownVal (c.phi id) rows.length).ownBlock := by
   rw [hp]
   exact ⟨rfl, rfl, rfl, by simp, fun k _ hk => setRow_other c.w gb k _ (fun e => hk (by rw [own_block_some, e]))⟩
  have hown : (c.w.setRow gb (cur.toList.take 0 ++ vs ++ cur.toList.drop (0 + vs.length)).toArray).ownsRow 0 e' 1 (ownVal (some (gb, cap)) ys.length) ys.length vs :=
   ⟨by rw [hvl, hl, Nat.mul_one], .inr ⟨gb, cap, _, rfl, Nat.zero_le _, setRow_heap c.w gb cur _ e' _ hheap, by rw [hl]; exact hcap, hcm, by
    simp only [List.size_toArray, List.length_append, List.length_take, List.length_drop]
    omega, by
    simp only [List.take_zero, List.nil_append]
    rw [hl, ← hvl, Nat.mul_one, List.take_left]⟩⟩
  refine ⟨.int .i64 rows.length, c.turn _ id (some (gb, cap)), setAt es id (.row s e' 1 ys), .int .i64 rows.length, ?_, ext_turn ok he.1 hgr (.inr ⟨rfl, hl, hp.symm⟩), ok_turn ok he.1 hgr (.inr ⟨rfl, hl, hp.symm⟩) (.inl (by rw [hp]; rfl)) hmy hrows hown, by simp only [Rep], ?_⟩
  ·show (execOp A.eval _).run P c.w = .ok (.value (.int .i64 rows.length)) (c.w.setRow gb _)
   simp only [execOp, resolve, invoke, builtin, Sem.run_bind, Sem.run_pure, Result.andThen_ok, List.map_toArray, List.map_cons, List.map_nil, hvx, ownVal, hvy, hrun, hvl]
   rfl
  ·rw [he.2]
   exact k
 ·cases ht
theorem p_copy {t u e id s : Nat} {rows ys : List (List AV)} {C : Ent → List Ent} (ht : sliceB P t e 1 = true) (k : K (upd f d (.int .i64 rows.length)) (C (.row s e 1 ys))) (hl : ys.length = rows.length := by omega) (h0 : 0 < rows.length := by omega)
  (hx : ev f x = .own id s := by simp only [ev_tmp, ev_const, ev_func, ofConst_int, ofConst_bool, ofConst_str, ofConst_nil, upd_apply, Nat.reduceEqDiff, ↓reduceIte] <;> exact rfl) (he : Loc es id (.row s e 1 rows) C := by first | exact loc_hit | exact (loc_miss loc_hit) | exact (loc_miss (loc_miss loc_hit)) | exact (loc_miss (loc_miss (loc_miss loc_hit))) | exact (loc_miss (loc_miss (loc_miss (loc_miss loc_hit)))) | exact (loc_miss (loc_miss (loc_miss (loc_miss (loc_miss loc_hit))))) | exact (loc_miss (loc_miss (loc_miss (loc_miss (loc_miss (loc_miss loc_hit)))))) | exact (loc_miss (loc_miss (loc_miss (loc_miss (loc_miss (loc_miss (loc_miss loc_hit))))))) | exact (loc_miss (loc_miss (loc_miss (loc_miss (loc_miss (loc_miss (loc_miss (loc_miss loc_hit)))))))) | exact (loc_base (by assumption)) | exact (loc_miss (loc_base (by assumption))) | exact (loc_miss (loc_miss (loc_base (by assumption)))) | exact (loc_miss (loc_miss (loc_miss (loc_base (by assumption))))) | exact (loc_miss (loc_miss (loc_miss (loc_miss (loc_base (by assumption)))))) | exact (loc_miss (loc_miss (loc_miss (loc_miss (loc_miss (loc_base (by assumption))))))) | exact (loc_miss (loc_miss (loc_miss (loc_miss (loc_miss (loc_miss (loc_base (by assumption)))))))) | exact (loc_miss (loc_miss (loc_miss (loc_miss (loc_miss (loc_miss (loc_miss (loc_base (by assumption))))))))) | exact (loc_miss (loc_miss (loc_miss (loc_miss (loc_miss (loc_miss (loc_miss (loc_miss (loc_base (by assumption))))))))))) (hy : ev f y = a := by simp only [ev_tmp, ev_const, ev_func, ofConst_int, ofConst_bool, ofConst_str, ofConst_nil, upd_apply, Nat.reduceEqDiff, ↓reduceIte] <;> exact rfl) (hs : Src es a 1 ys := by first | exact src_list | exact src_nil | exact src_own (by first | exact loc_hit | exact (loc_miss loc_hit) | exact (loc_miss (loc_miss loc_hit)) | exact (loc_miss (loc_miss (loc_miss loc_hit))) | exact (loc_miss (loc_miss (loc_miss (loc_miss loc_hit)))) | exact (loc_miss (loc_miss (loc_miss (loc_miss (loc_miss loc_hit))))) | exact (loc_miss (loc_miss (loc_miss (loc_miss (loc_miss (loc_miss loc_hit)))))) | exact (loc_miss (loc_miss (loc_miss (loc_miss (loc_miss (loc_miss (loc_miss loc_hit))))))) | exact (loc_miss (loc_miss (loc_miss (loc_miss (loc_miss (loc_miss (loc_miss (loc_miss loc_hit)))))))) | exact (loc_base (by assumption)) | exact (loc_miss (loc_base (by assumption))) | exact (loc_miss (loc_miss (loc_base (by assumption)))) | exact (loc_miss (loc_miss (loc_miss (loc_base (by assumption))))) | exact (loc_miss (loc_miss (loc_miss (loc_miss (loc_base (by assumption)))))) | exact (loc_miss (loc_miss (loc_miss (loc_miss (loc_miss (loc_base (by assumption))))))) | exact (loc_miss (loc_miss (loc_miss (loc_miss (loc_miss (loc_miss (loc_base (by assumption)))))))) | exact (loc_miss (loc_miss (loc_miss (loc_miss (loc_miss (loc_miss (loc_miss (loc_base (by assumption))))))))) | exact (loc_miss (loc_miss (loc_miss (loc_miss (loc_miss (loc_miss (loc_miss (loc_miss (loc_base (by assumption)))))))))))) (hd : Nat.blt d N = true := by exact rfl) : AOp P w0 N ⟨some d, .call { callee := .builtin .copy, args := #[x, y], argTypes := #[t, u] }, ty, pos, aft, g⟩ f es K :=
 o_copy ht hx he hy hs hl h0 k hd
end
end
set_option maxRecDepth 8000
section
open Go.RowKit Go.Proofs
theorem row_hit {s e sz : Nat} {rows rows' : List (List AV)} {y : Ent} {es : List Ent} (h : rows = rows') : at_ (.row s e sz rows :: y :: es) (es.length + 1) = some (.row s e sz rows') := by
 subst h
 exact at_hit _ _
theorem orP_same {q e : Nat → Bool} {n j : Nat} (h : chg q e n = false) (hj : j < n) : orP q e n j = q j := by
 rw [orP_done hj]
 unfold chg at h
 rw [List.any_eq_false] at h
 have := h j (List.mem_range.2 hj)
 cases h1 : q j <;> cases h2 : e j <;> simp_all
theorem not_one {l : List Rx} {x : List Int} (h : l.length ≠ 1) : ¬ Rx.langOne l x := by
 rw [langOne_iff]
 rintro ⟨a, rfl, _⟩
 exact h rfl
theorem inR_ends {r : Rx} {w : List Int} : endsP r.lang w (fun j => if j = 0 then true else false) w.length = inR r w := by
 rw [Bool.eq_iff_iff, ends_iff, inR_iff]
 constructor
 ·rintro ⟨i, h1, h2, h3⟩
  have : i = 0 := by
   by_cases h : i = 0
   ·exact h
   ·rw [if_neg h] at h2; cases h2
  subst this
  rwa [sl_all] at h3
 ·intro h
  exact ⟨0, Nat.zero_le _, rfl, by rwa [sl_all]⟩
theorem or_walk {w0 : World} {es : List Ent} {a sa b sb n : Nat} {p q : Nat → Bool} (hn : n ≤ 1001) (ha : at_ es a = some (.row sa 4 1 (boolRow n p))) (hb : at_ es b = some (.row sb 4 1 (boolRow n q))) (hab : b ≠ a) : ACalls Tryd.prog w0 128 [.own a sa, .own b sb] es fun v es' => v = .bool (chg p q n) ∧ at_ es' a = some (.row sa 4 1 (boolRow n (orP p q n))) ∧ OK1 es es' a := by
 refine calls2 (N := 28) Tryd.func128 rfl rfl (by decide) ?_
 refine w_seq ?_
 refine w_region ?_
 refine l_cons rfl (p_assign ?_)
 refine l_nil ?_
 refine k_seq_normal ?_
 refine w_seq ?_
 refine w_region ?_
 refine l_cons rfl (p_assign ?_)
 refine l_nil ?_
 refine k_seq_normal ?_
 refine w_seq ?_
 refine w_seq ?_
 refine w_region ?_
 refine l_cons rfl (p_move ?_)
 refine l_cons rfl (p_leno sl_60 ?_)
 rw [boolRow_len]
 refine l_cons rfl (p_move ?_)
 refine l_nil ?_
 refine k_seq_normal ?_
 refine w_block ?_
 refine w_loop (fun m f es2 => ∃ i, m = n - i ∧ i ≤ n ∧ at_ es2 a = some (.row sa 4 1 (boolRow n (orP p q i))) ∧ OK1 es es2 a ∧ Knows f [(0, .own a sa), (1, .own b sb), (5, .bool (chg p q i)), (8, .int .i64 (n : Int)), (9, .int .i64 (i : Int))]) (n) (⟨0, rfl, Nat.zero_le _, by rw [ha, boolRow_congr fun j _ => orP_start], OK1.refl _ _, by simp only [chg, List.range_zero, List.any_nil, Knows, put, upd_apply, Nat.reduceEqDiff, ↓reduceIte, and_true, true_and, eq_self] <;> and_intros <;> rfl⟩) ?_
 rintro m f es2 ⟨i, rfl, hi1, ha2, hok, hk⟩
 have hb2 := (hok.1 b hab).trans hb
 refine w_pins _ (Sub.refl _) (hk) ?_
 simp only [pins]
 refine w_seq ?_
 refine w_region ?_
 refine l_cons rfl (p_cmp ?_)
 refine l_nil ?_
 refine k_seq_normal ?_
 refine w_seq ?_
 refine w_b (fun h1 => ?_) (fun h1 => ?_)
 ·skip
  have h1' := h1; (try simp only [bb] at h1')
  refine w_skip ?_
  refine k_seq_normal ?_
  refine w_seq ?_
  refine w_block ?_
  refine w_seq ?_
  refine w_region ?_
  refine l_cons rfl (p_move ?_)
  refine l_cons rfl (p_assign ?_)
  refine l_nil ?_
  refine k_seq_normal ?_
  refine w_seq ?_
  refine w_region ?_
  refine l_cons rfl (p_move ?_)
  refine l_cons rfl (p_move ?_)
  refine l_cons rfl (p_ixo sl_60 (a := .ptr b sb i 0) ?_ (h0 := by omega) (h1 := by rw [boolRow_len]; omega))
  refine l_cons rfl (p_loadp ty_4 (a := .bool (q i)) ?_ (hr := boolRow_at _ (by omega)) (hl := Nat.le_refl 1) (ha := rfl))
  refine l_cons rfl (p_move ?_)
  refine g_b rfl (fun h2 => ?_) (fun h2 => ?_)
  ·skip
   have h2' := h2; (try simp only [bb] at h2')
   refine (p_move ?_)
   refine g_y rfl h2 (p_move ?_)
   refine g_y rfl h2 (p_ixo sl_60 (a := .ptr a sa i 0) ?_ (h0 := by omega) (h1 := by rw [boolRow_len]; omega))
   refine g_y rfl h2 (p_loadp ty_4 (a := .bool (p i)) ?_ (hr := boolRow_at _ (by omega)) (hl := Nat.le_refl 1) (ha := by rw [orP_here]; rfl))
   refine g_y rfl h2 (p_not ?_)
   refine l_cons rfl (p_pickt h2 ?_)
   refine l_nil ?_
   refine k_seq_normal ?_
   refine w_b (fun h3 => ?_) (fun h3 => ?_)
   ·skip
    have h3' := h3; (try simp only [bb] at h3')
    refine w_region ?_
    refine l_cons rfl (p_move ?_)
    refine l_cons rfl (p_move ?_)
    refine l_cons rfl (p_ixo sl_60 (a := .ptr a sa i 0) ?_ (h0 := by omega) (h1 := by rw [boolRow_len]; omega))
    refine l_cons rfl (p_store ty_4 (rows' := (boolRow n (orP p q i)).set (i) [.bool (true)]) (r' := [.bool (true)]) ?_ (hr := boolRow_at _ (by omega)) (hl := Nat.le_refl 1) (hr' := by first | rfl | (simp only [List.take_zero, List.nil_append, List.drop_succ_cons, List.drop_zero, List.append_nil, List.drop_nil] <;> simp [*, W4.hasI])) (hrs := rfl))
    refine l_cons rfl (p_assign ?_)
    refine l_nil ?_
    refine k_blk_normal ?_
    refine k_seq_normal ?_
    refine w_region ?_
    refine l_cons rfl (p_arith ?_)
    refine l_cons rfl (p_move ?_)
    refine l_nil ?_
    refine k_seq_normal ?_
    first
    | exact ⟨n - (i + 1), by omega, i + 1, rfl, by omega, by rw [at_setAt_same _ ha2, boolRow_set _ _ (by omega), boolRow_congr fun j _ => orP_yes (by simp_all)], hok.put _, by simp only [Knows, put, upd_apply, Nat.reduceEqDiff, ↓reduceIte, and_true, true_and, eq_self, chg_succ]; and_intros <;> first | rfl | (simp_all; done)⟩
    | exact ⟨n - (i + 1), by omega, i + 1, rfl, by omega, by rw [ha2, boolRow_congr fun j _ => orP_no (by simp_all)], hok, by simp only [Knows, put, upd_apply, Nat.reduceEqDiff, ↓reduceIte, and_true, true_and, eq_self, chg_succ]; and_intros <;> first | rfl | (simp_all; done)⟩
   ·skip
    have h3' := h3; (try simp only [bb] at h3')
    refine w_skip ?_
    refine k_blk_normal ?_
    refine k_seq_normal ?_
    refine w_region ?_
    refine l_cons rfl (p_arith ?_)
    refine l_cons rfl (p_move ?_)
    refine l_nil ?_
    refine k_seq_normal ?_
    first
    | exact ⟨n - (i + 1), by omega, i + 1, rfl, by omega, by rw [at_setAt_same _ ha2, boolRow_set _ _ (by omega), boolRow_congr fun j _ => orP_yes (by simp_all)], hok.put _, by simp only [Knows, put, upd_apply, Nat.reduceEqDiff, ↓reduceIte, and_true, true_and, eq_self, chg_succ]; and_intros <;> first | rfl | (simp_all; done)⟩
    | exact ⟨n - (i + 1), by omega, i + 1, rfl, by omega, by rw [ha2, boolRow_congr fun j _ => orP_no (by simp_all)], hok, by simp only [Knows, put, upd_apply, Nat.reduceEqDiff, ↓reduceIte, and_true, true_and, eq_self, chg_succ]; and_intros <;> first | rfl | (simp_all; done)⟩
  ·skip
   have h2' := h2; (try simp only [bb] at h2')
   refine g_n rfl h2 ?_
   refine g_n rfl h2 ?_
   refine g_n rfl h2 ?_
   refine g_n rfl h2 ?_
   refine l_cons rfl (p_pickf h2 ?_)
   refine l_nil ?_
   refine k_seq_normal ?_
   refine w_f rfl ?_
   refine w_skip ?_
   refine k_blk_normal ?_
   refine k_seq_normal ?_
   refine w_region ?_
   refine l_cons rfl (p_arith ?_)
   refine l_cons rfl (p_move ?_)
   refine l_nil ?_
   refine k_seq_normal ?_
   first
   | exact ⟨n - (i + 1), by omega, i + 1, rfl, by omega, by rw [at_setAt_same _ ha2, boolRow_set _ _ (by omega), boolRow_congr fun j _ => orP_yes (by simp_all)], hok.put _, by simp only [Knows, put, upd_apply, Nat.reduceEqDiff, ↓reduceIte, and_true, true_and, eq_self, chg_succ]; and_intros <;> first | rfl | (simp_all; done)⟩
   | exact ⟨n - (i + 1), by omega, i + 1, rfl, by omega, by rw [ha2, boolRow_congr fun j _ => orP_no (by simp_all)], hok, by simp only [Knows, put, upd_apply, Nat.reduceEqDiff, ↓reduceIte, and_true, true_and, eq_self, chg_succ]; and_intros <;> first | rfl | (simp_all; done)⟩
 ·skip
  have h1' := h1; (try simp only [bb] at h1')
  refine w_exit ?_
  refine k_seq_exit ?_
  refine k_seq_exit ?_
  refine k_blk_here ?_
  refine k_seq_normal ?_
  refine w_seq ?_
  refine w_region ?_
  refine l_cons rfl (p_move ?_)
  refine l_cons rfl (p_assign ?_)
  refine l_nil ?_
  refine k_seq_normal ?_
  refine w_ret ?_
  have hin : i = n := by omega
  rw [hin] at ha2 ⊢
  exact ret1 rfl ev1 (Sub.refl _) ⟨rfl, ha2, hok⟩
theorem ends_walk {w0 : World} : ∀ (B : Nat) (r : Rx) (es : List Ent) (w : List Int) (id s : Nat) (p : Nat → Bool), r.nodes ≤ B → r.ok → bytesOk w → w.length ≤ 1000 → at_ es id = some (.row s 4 1 (boolRow (w.length + 1) p)) → ACalls Tryd.prog w0 96 [.agg r.cells, bytesAV w, .own id s] es fun v es' => ∃ id' s', v = .own id' s' ∧ es.length ≤ id' ∧ at_ es' id' = some (.row s' 4 1 (boolRow (w.length + 1) (endsP r.lang w p))) ∧ KB es es' := by
  intro B
  induction B using Nat.strongRecOn with
  | _ B ih => ?_
  intro r es w id s p hB ho hw hwl hat
  rw [Rx.cells_eq r]
  unfold bytesAV
  have hne := r.nodes_eq
  have hal := Rx.len_le r.args
  have hidl := at_lt hat
  obtain ⟨n, hn⟩ : ∃ n, n = w.length + 1 := ⟨_, rfl⟩
  rw [← hn] at hat ⊢
  refine calls3 (N := 102) Tryd.func96 rfl rfl (by decide) ?_
  refine w_seq ?_
  refine w_region ?_
  refine l_cons rfl (p_box fun s3 => ?_)
  refine l_cons rfl (p_assign ?_)
  refine l_nil ?_
  refine k_seq_normal ?_
  refine w_seq ?_
  refine w_region ?_
  refine l_cons rfl (p_move ?_)
  refine l_cons rfl (p_leno sl_60 ?_)
  rw [boolRow_len]
  refine l_cons rfl (p_makeSlice sl_60 by_4 ze_4  fun s16 => ?_)
  rw [Int.toNat_natCast, boolRow_none n]
  refine l_cons rfl (p_assign ?_)
  refine l_nil ?_
  refine k_seq_normal ?_
  refine w_cut (fun f es' => ∃ id7 s7, es.length < id7 ∧ at_ es' id7 = some (.row s7 4 1 (boolRow n (endsP r.lang w p))) ∧ KB (.row s3 29 6 [[.int .i64 r.kind, .int .u64 r.set.w0, .int .u64 r.set.w1, .int .u64 r.set.w2, .int .u64 r.set.w3, .list 6 (r.args.map Rx.cells)]] :: es) es' ∧ Knows f [(7, .own id7 s7)]) ?_ ?_
  · skip
    refine w_seq ?_
    refine w_region ?_
    refine l_cons rfl (p_fap fa_29_0 ?_)
    refine l_cons rfl (p_loadp ty_3 ?_)
    refine l_nil ?_
    refine k_seq_normal ?_
    refine w_block ?_
    refine w_seq ?_
    refine w_region ?_
    refine l_cons rfl (p_cmp ?_)
    refine l_cons rfl (p_assign ?_)
    refine l_nil ?_
    refine k_seq_normal ?_
    refine w_b (fun h1 => ?_) (fun h1 => ?_)
    · skip
      have h1' := h1; (try simp only [bb] at h1')
      refine w_region ?_
      refine l_cons rfl (p_move ?_)
      refine l_cons rfl (p_move ?_)
      refine l_cons rfl (p_copy sl_60 (he := loc_hit) (hs := src_own (loc_miss (loc_miss (loc_base hat)))) ?_ (hl := by rw [boolRow_len, boolRow_len]) (h0 := by rw [boolRow_len]; omega))
      rw [boolRow_len]
      refine l_nil ?_
      refine k_blk_normal ?_
      refine k_seq_normal ?_
      first
      | exact ⟨es.length + 1, s16, Nat.lt_succ_self _, row_hit (boolRow_congr fun j hj => ends_eps (kind_2 (by omega)) hn hj p), (KB.refl _).push _, kn⟩
      | (have hiw : i = w.length := by omega
         rw [hiw] at h7
         exact ⟨_, _, hid7, by rw [h7, boolRow_congr fun j hj => eg_done (kind_3 (by omega)) hn hj p], kb, kn⟩)
      | (have hkl : k = r.args.length := by omega
         rw [hkl, List.take_length] at h7
         exact ⟨_, _, hid7, by rw [h7, boolRow_congr fun j hj => ends_congr (fun x => (kind_4 (by omega) x).symm) w p j], kb, kn⟩)
      | (have hkl : k = r.args.length := by omega
         rw [hkl, List.take_length] at h7
         exact ⟨_, _, hid7, by rw [h7, boolRow_congr fun j hj => ends_congr (kind_5 (by omega)) w p j], kb, kn⟩)
      | exact ⟨_, _, hid7, by rw [h9, boolRow_congr fun j hj => (orP_same (by assumption) hj).trans ((mid_done hn hmid (by rw [← show endsP (r.args[0]'(by omega)).lang w q = endsP (Rx.langOne r.args) w q from funext fun j => ends_congr (one_arg (by omega)) w q j]; assumption) hj).trans (ends_congr (fun x => (kind_6 (by omega) x).symm) w p j))], hok9.kb (kb.trans kb8) (by simp only [List.length_cons]; omega), kn⟩
      | exact ⟨_, _, hid7, by rw [h7, boolRow_congr fun j hj => (mid_none (fun x => not_one (by omega)) hn hmid hj).trans (ends_congr (fun x => (kind_6 (by omega) x).symm) w p j)], kb, kn⟩
      | exact ⟨es.length + 1, s16, Nat.lt_succ_self _, row_hit (boolRow_congr fun j hj => ends_none (kind_0 (by omega))), (KB.refl _).push _, kn⟩
    · skip
      have h1' := h1; (try simp only [bb] at h1')
      refine w_seq ?_
      refine w_region ?_
      refine l_cons rfl (p_cmp ?_)
      refine l_cons rfl (p_assign ?_)
      refine l_nil ?_
      refine k_seq_normal ?_
      refine w_b (fun h2 => ?_) (fun h2 => ?_)
      · skip
        have h2' := h2; (try simp only [bb] at h2')
        refine w_seq ?_
        refine w_region ?_
        refine l_cons rfl (p_move ?_)
        refine l_cons rfl (p_lenl sl_22 ?_)
        refine l_cons rfl (p_move ?_)
        refine l_nil ?_
        refine k_seq_normal ?_
        refine w_block ?_
        refine w_loop (fun m f es2 => ∃ i, m = w.length - i ∧ i ≤ w.length ∧ es.length < (es.length + 1) ∧ at_ es2 (es.length + 1) = some (.row s16 4 1 (boolRow n (eg r.set w p i))) ∧ KB (.row s3 29 6 [[.int .i64 r.kind, .int .u64 r.set.w0, .int .u64 r.set.w1, .int .u64 r.set.w2, .int .u64 r.set.w3, .list 6 (r.args.map Rx.cells)]] :: es) es2 ∧ Knows f [(1, .list 1 (w.map fun n => [.int .u8 n])), (2, .own id s), (3, .ptr es.length s3 0 0), (7, .own (es.length + 1) s16), (26, .list 1 (w.map fun n => [.int .u8 n])), (27, .int .i64 (w.length : Int)), (28, .int .i64 (i : Int))]) (w.length) (⟨0, rfl, Nat.zero_le _, Nat.lt_succ_self _, row_hit (boolRow_congr fun j _ => eg_start), (KB.refl _).push _, kn⟩) ?_
        rintro m f es2 ⟨i, rfl, hi1, hid7, h7, kb, hk⟩
        have hbox := (kb.1 es.length (by simp)).trans (at_hit _ _)
        have hat2 := (kb.1 id (by simp only [List.length_cons]; omega)).trans (at_miss _ hat)
        refine w_pins _ (Sub.refl _) (hk) ?_
        simp only [pins]
        refine w_seq ?_
        refine w_region ?_
        refine l_cons rfl (p_cmp ?_)
        refine l_nil ?_
        refine k_seq_normal ?_
        refine w_seq ?_
        refine w_b (fun h3 => ?_) (fun h3 => ?_)
        · skip
          have h3' := h3; (try simp only [bb] at h3')
          refine w_skip ?_
          refine k_seq_normal ?_
          refine w_seq ?_
          refine w_block ?_
          refine w_seq ?_
          refine w_region ?_
          refine l_cons rfl (p_move ?_)
          refine l_cons rfl (p_ixl sl_22 (a := .fptr 1 (w.map fun n => [.int .u8 n]) i 0) ?_ (h0 := by omega) (h1 := by simp only [List.length_map]; omega))
          refine l_cons rfl (p_loadf ty_5 (a := .int .u8 (w[i]'(by omega))) ?_ (hr := row_u8 (by omega)) (hl := Nat.le_refl 1) (ha := rfl))
          refine l_cons rfl (p_assign ?_)
          refine l_cons rfl (p_assign ?_)
          refine l_nil ?_
          refine k_seq_normal ?_
          refine w_region ?_
          refine l_cons rfl (p_move ?_)
          refine l_cons rfl (p_move ?_)
          refine l_cons rfl (p_arith ?_)
          refine l_cons rfl (p_move ?_)
          refine l_cons rfl (p_move ?_)
          refine l_cons rfl (p_ixo sl_60 (a := .ptr id s i 0) ?_ (h0 := by omega) (h1 := by rw [boolRow_len]; omega))
          refine l_cons rfl (p_loadp ty_4 (a := .bool (p i)) ?_ (hr := boolRow_at _ (by omega)) (hl := Nat.le_refl 1) (ha := rfl))
          refine l_cons rfl (p_move ?_)
          refine g_b rfl (fun h4 => ?_) (fun h4 => ?_)
          · skip
            have h4' := h4; (try simp only [bb] at h4')
            refine (p_fap fa_29_1 ?_)
            refine g_y rfl h4 (p_loadp ty_26 (a := .agg r.set.row) ?_ (hl := Nat.le_of_ble_eq_true rfl) (ha := rfl))
            refine g_y rfl h4 (p_move ?_)
            refine g_y rfl h4 (p_callr en_100 (bytesetHas r.set.w0 r.set.w1 r.set.w2 r.set.w3 (w[i]'(by omega)) (hw _ (List.getElem_mem _)).1 (hw _ (List.getElem_mem _)).2) ?_)
            refine l_cons rfl (p_pickt h4 ?_)
            refine l_cons rfl (p_ixo sl_60 (a := .ptr (es.length + 1) s16 (i + 1) 0) ?_ (h0 := by omega) (h1 := by rw [boolRow_len]; omega))
            refine l_cons rfl (p_store ty_4 (rows' := (boolRow n (eg r.set w p i)).set (i + 1) [.bool (p i && r.set.hasI (w[i]'(by omega)))]) (r' := [.bool (p i && r.set.hasI (w[i]'(by omega)))]) ?_ (hr := boolRow_at _ (by omega)) (hl := Nat.le_refl 1) (hr' := by first | rfl | (simp only [List.take_zero, List.nil_append, List.drop_succ_cons, List.drop_zero, List.append_nil, List.drop_nil] <;> simp [*, W4.hasI])) (hrs := rfl))
            refine l_nil ?_
            refine k_blk_normal ?_
            refine k_seq_normal ?_
            refine w_region ?_
            refine l_cons rfl (p_arith ?_)
            refine l_cons rfl (p_move ?_)
            refine l_nil ?_
            refine k_seq_normal ?_
            exact ⟨w.length - (i + 1), by omega, i + 1, rfl, by omega, hid7, by rw [at_setAt_same _ h7, boolRow_set _ _ (by omega), boolRow_congr fun j _ => eg_step (by omega)], kb.put (by simp only [List.length_cons]; omega) _, kn⟩
          · skip
            have h4' := h4; (try simp only [bb] at h4')
            refine g_n rfl h4 ?_
            refine g_n rfl h4 ?_
            refine g_n rfl h4 ?_
            refine l_cons rfl (p_pickf h4 ?_)
            refine l_cons rfl (p_ixo sl_60 (a := .ptr (es.length + 1) s16 (i + 1) 0) ?_ (h0 := by omega) (h1 := by rw [boolRow_len]; omega))
            refine l_cons rfl (p_store ty_4 (rows' := (boolRow n (eg r.set w p i)).set (i + 1) [.bool (p i && r.set.hasI (w[i]'(by omega)))]) (r' := [.bool (p i && r.set.hasI (w[i]'(by omega)))]) ?_ (hr := boolRow_at _ (by omega)) (hl := Nat.le_refl 1) (hr' := by first | rfl | (simp only [List.take_zero, List.nil_append, List.drop_succ_cons, List.drop_zero, List.append_nil, List.drop_nil] <;> simp [*, W4.hasI])) (hrs := rfl))
            refine l_nil ?_
            refine k_blk_normal ?_
            refine k_seq_normal ?_
            refine w_region ?_
            refine l_cons rfl (p_arith ?_)
            refine l_cons rfl (p_move ?_)
            refine l_nil ?_
            refine k_seq_normal ?_
            exact ⟨w.length - (i + 1), by omega, i + 1, rfl, by omega, hid7, by rw [at_setAt_same _ h7, boolRow_set _ _ (by omega), boolRow_congr fun j _ => eg_step (by omega)], kb.put (by simp only [List.length_cons]; omega) _, kn⟩
        · skip
          have h3' := h3; (try simp only [bb] at h3')
          refine w_exit ?_
          refine k_seq_exit ?_
          refine k_seq_exit ?_
          refine k_blk_here ?_
          refine k_blk_normal ?_
          refine k_seq_normal ?_
          first
          | exact ⟨es.length + 1, s16, Nat.lt_succ_self _, row_hit (boolRow_congr fun j hj => ends_eps (kind_2 (by omega)) hn hj p), (KB.refl _).push _, kn⟩
          | (have hiw : i = w.length := by omega
             rw [hiw] at h7
             exact ⟨_, _, hid7, by rw [h7, boolRow_congr fun j hj => eg_done (kind_3 (by omega)) hn hj p], kb, kn⟩)
          | (have hkl : k = r.args.length := by omega
             rw [hkl, List.take_length] at h7
             exact ⟨_, _, hid7, by rw [h7, boolRow_congr fun j hj => ends_congr (fun x => (kind_4 (by omega) x).symm) w p j], kb, kn⟩)
          | (have hkl : k = r.args.length := by omega
             rw [hkl, List.take_length] at h7
             exact ⟨_, _, hid7, by rw [h7, boolRow_congr fun j hj => ends_congr (kind_5 (by omega)) w p j], kb, kn⟩)
          | exact ⟨_, _, hid7, by rw [h9, boolRow_congr fun j hj => (orP_same (by assumption) hj).trans ((mid_done hn hmid (by rw [← show endsP (r.args[0]'(by omega)).lang w q = endsP (Rx.langOne r.args) w q from funext fun j => ends_congr (one_arg (by omega)) w q j]; assumption) hj).trans (ends_congr (fun x => (kind_6 (by omega) x).symm) w p j))], hok9.kb (kb.trans kb8) (by simp only [List.length_cons]; omega), kn⟩
          | exact ⟨_, _, hid7, by rw [h7, boolRow_congr fun j hj => (mid_none (fun x => not_one (by omega)) hn hmid hj).trans (ends_congr (fun x => (kind_6 (by omega) x).symm) w p j)], kb, kn⟩
          | exact ⟨es.length + 1, s16, Nat.lt_succ_self _, row_hit (boolRow_congr fun j hj => ends_none (kind_0 (by omega))), (KB.refl _).push _, kn⟩
      · skip
        have h2' := h2; (try simp only [bb] at h2')
        refine w_seq ?_
        refine w_region ?_
        refine l_cons rfl (p_cmp ?_)
        refine l_cons rfl (p_assign ?_)
        refine l_nil ?_
        refine k_seq_normal ?_
        refine w_b (fun h5 => ?_) (fun h5 => ?_)
        · skip
          have h5' := h5; (try simp only [bb] at h5')
          refine w_seq ?_
          refine w_region ?_
          refine l_cons rfl (p_move ?_)
          refine l_cons rfl (p_move ?_)
          refine l_cons rfl (p_copy sl_60 (he := loc_hit) (hs := src_own (loc_miss (loc_miss (loc_base hat)))) ?_ (hl := by rw [boolRow_len, boolRow_len]) (h0 := by rw [boolRow_len]; omega))
          rw [boolRow_len]
          refine l_nil ?_
          refine k_seq_normal ?_
          refine w_seq ?_
          refine w_region ?_
          refine l_cons rfl (p_fap fa_29_2 ?_)
          refine l_cons rfl (p_loadp ty_27 ?_)
          first | refine l_cons rfl (p_lenl sl_27 ?_) | refine l_cons rfl (p_leno sl_27 ?_) | refine l_cons rfl (p_lenn sl_27 ?_)
          refine l_len 54 fun hl2 => ?_
          simp only [List.length_map, most] at hl2
          refine l_cons rfl (p_move ?_)
          refine l_nil ?_
          refine k_seq_normal ?_
          refine w_block ?_
          refine w_loop (fun m f es2 => ∃ k id7 s7, m = r.args.length - k ∧ k ≤ r.args.length ∧ es.length < id7 ∧ at_ es2 id7 = some (.row s7 4 1 (boolRow n (endsP (Rx.langCat (r.args.take k)) w p))) ∧ KB (.row s3 29 6 [[.int .i64 r.kind, .int .u64 r.set.w0, .int .u64 r.set.w1, .int .u64 r.set.w2, .int .u64 r.set.w3, .list 6 (r.args.map Rx.cells)]] :: es) es2 ∧ Knows f [(1, .list 1 (w.map fun n => [.int .u8 n])), (2, .own id s), (3, .ptr es.length s3 0 0), (7, .own id7 s7), (54, .list 6 (r.args.map Rx.cells)), (55, .int .i64 (r.args.length : Int)), (56, .int .i64 (k : Int))]) (r.args.length) (⟨0, es.length + 1, s16, rfl, Nat.zero_le _, Nat.lt_succ_self _, row_hit (boolRow_congr fun j hj => ends_eps (L := Rx.langCat (r.args.take 0)) (fun x => by rw [List.take_zero]; exact langCat_nil x) hn hj p), (KB.refl _).push _, by simp only [List.length_map, Knows, put, upd_apply, Nat.reduceEqDiff, ↓reduceIte, and_true, true_and, eq_self] <;> and_intros <;> rfl⟩) ?_
          rintro m f es2 ⟨k, id7, s7, rfl, hk1, hid7, h7, kb, hk⟩
          have hbox := (kb.1 es.length (by simp)).trans (at_hit _ _)
          have hat2 := (kb.1 id (by simp only [List.length_cons]; omega)).trans (at_miss _ hat)
          refine w_pins _ (Sub.refl _) (hk) ?_
          simp only [pins]
          refine w_seq ?_
          refine w_region ?_
          refine l_cons rfl (p_cmp ?_)
          refine l_nil ?_
          refine k_seq_normal ?_
          refine w_seq ?_
          refine w_b (fun h6 => ?_) (fun h6 => ?_)
          · skip
            have h6' := h6; (try simp only [bb] at h6')
            refine w_skip ?_
            refine k_seq_normal ?_
            refine w_seq ?_
            refine w_block ?_
            refine w_seq ?_
            refine w_region ?_
            refine l_cons rfl (p_ixl sl_27 (a := .fptr 6 (r.args.map Rx.cells) k 0) ?_ (h0 := by omega) (h1 := by simp only [List.length_map]; omega))
            refine l_cons rfl (p_loadf ty_29 (a := .agg (r.args[k]'(by omega)).cells) ?_ (hr := rxrow_at (l := r.args) (k := k) (by omega)) (hl := Nat.le_refl 6) (ha := rfl))
            refine l_cons rfl (p_alloc ze_29 fun s11 => ?_)
            refine l_cons rfl (p_store ty_29 ?_)
            refine l_nil ?_
            refine k_seq_normal ?_
            refine w_region ?_
            refine l_cons rfl (p_loadp ty_29 ?_)
            refine l_cons rfl (p_move ?_)
            refine l_cons rfl (p_move ?_)
            refine l_cons rfl (p_call en_96 ((ih (B - 1) (by omega) (r.args[k]'(by omega)) _ w id7 s7 (endsP (Rx.langCat (r.args.take k)) w p) (by have := r.nodes_arg (k := k) (by omega); omega) (ho.arg (by omega)) hw hwl (by rw [← hn]; exact (at_miss _ h7))).mono ?_))
            rintro _ es3 ⟨id8, s8, rfl, hid8, h8, kb8⟩
            rw [← hn] at h8
            refine l_cons rfl (p_assign ?_)
            refine l_nil ?_
            refine k_blk_normal ?_
            refine k_seq_normal ?_
            refine w_region ?_
            refine l_cons rfl (p_arith ?_)
            refine l_cons rfl (p_move ?_)
            refine l_nil ?_
            refine k_seq_normal ?_
            exact ⟨r.args.length - (k + 1), by omega, k + 1, id8, s8, rfl, by omega, by have := kb.2; simp only [List.length_cons] at this hid8; omega, by rw [h8, boolRow_congr fun j hj => ends_cat (by omega) hn hj], (kb.push _).trans kb8, kn⟩
          · skip
            have h6' := h6; (try simp only [bb] at h6')
            refine w_exit ?_
            refine k_seq_exit ?_
            refine k_seq_exit ?_
            refine k_blk_here ?_
            refine k_blk_normal ?_
            refine k_seq_normal ?_
            first
            | exact ⟨es.length + 1, s16, Nat.lt_succ_self _, row_hit (boolRow_congr fun j hj => ends_eps (kind_2 (by omega)) hn hj p), (KB.refl _).push _, kn⟩
            | (have hiw : i = w.length := by omega
               rw [hiw] at h7
               exact ⟨_, _, hid7, by rw [h7, boolRow_congr fun j hj => eg_done (kind_3 (by omega)) hn hj p], kb, kn⟩)
            | (have hkl : k = r.args.length := by omega
               rw [hkl, List.take_length] at h7
               exact ⟨_, _, hid7, by rw [h7, boolRow_congr fun j hj => ends_congr (fun x => (kind_4 (by omega) x).symm) w p j], kb, kn⟩)
            | (have hkl : k = r.args.length := by omega
               rw [hkl, List.take_length] at h7
               exact ⟨_, _, hid7, by rw [h7, boolRow_congr fun j hj => ends_congr (kind_5 (by omega)) w p j], kb, kn⟩)
            | exact ⟨_, _, hid7, by rw [h9, boolRow_congr fun j hj => (orP_same (by assumption) hj).trans ((mid_done hn hmid (by rw [← show endsP (r.args[0]'(by omega)).lang w q = endsP (Rx.langOne r.args) w q from funext fun j => ends_congr (one_arg (by omega)) w q j]; assumption) hj).trans (ends_congr (fun x => (kind_6 (by omega) x).symm) w p j))], hok9.kb (kb.trans kb8) (by simp only [List.length_cons]; omega), kn⟩
            | exact ⟨_, _, hid7, by rw [h7, boolRow_congr fun j hj => (mid_none (fun x => not_one (by omega)) hn hmid hj).trans (ends_congr (fun x => (kind_6 (by omega) x).symm) w p j)], kb, kn⟩
            | exact ⟨es.length + 1, s16, Nat.lt_succ_self _, row_hit (boolRow_congr fun j hj => ends_none (kind_0 (by omega))), (KB.refl _).push _, kn⟩
        · skip
          have h5' := h5; (try simp only [bb] at h5')
          refine w_seq ?_
          refine w_region ?_
          refine l_cons rfl (p_cmp ?_)
          refine l_cons rfl (p_assign ?_)
          refine l_nil ?_
          refine k_seq_normal ?_
          refine w_b (fun h7 => ?_) (fun h7 => ?_)
          · skip
            have h7' := h7; (try simp only [bb] at h7')
            refine w_seq ?_
            refine w_region ?_
            refine l_cons rfl (p_fap fa_29_2 ?_)
            refine l_cons rfl (p_loadp ty_27 ?_)
            first | refine l_cons rfl (p_lenl sl_27 ?_) | refine l_cons rfl (p_leno sl_27 ?_) | refine l_cons rfl (p_lenn sl_27 ?_)
            refine l_len 68 fun hl2 => ?_
            simp only [List.length_map, most] at hl2
            refine l_cons rfl (p_move ?_)
            refine l_nil ?_
            refine k_seq_normal ?_
            refine w_block ?_
            refine w_loop (fun m f es2 => ∃ k, m = r.args.length - k ∧ k ≤ r.args.length ∧ es.length < (es.length + 1) ∧ at_ es2 (es.length + 1) = some (.row s16 4 1 (boolRow n (endsP (Rx.langAlt (r.args.take k)) w p))) ∧ KB (.row s3 29 6 [[.int .i64 r.kind, .int .u64 r.set.w0, .int .u64 r.set.w1, .int .u64 r.set.w2, .int .u64 r.set.w3, .list 6 (r.args.map Rx.cells)]] :: es) es2 ∧ Knows f [(1, .list 1 (w.map fun n => [.int .u8 n])), (2, .own id s), (3, .ptr es.length s3 0 0), (7, .own (es.length + 1) s16), (68, .list 6 (r.args.map Rx.cells)), (69, .int .i64 (r.args.length : Int)), (70, .int .i64 (k : Int))]) (r.args.length) (⟨0, rfl, Nat.zero_le _, Nat.lt_succ_self _, row_hit (boolRow_congr fun j hj => ends_none (L := Rx.langAlt (r.args.take 0)) (fun x => by rw [List.take_zero]; exact langAlt_nil x)), (KB.refl _).push _, by simp only [List.length_map, Knows, put, upd_apply, Nat.reduceEqDiff, ↓reduceIte, and_true, true_and, eq_self] <;> and_intros <;> rfl⟩) ?_
            rintro m f es2 ⟨k, rfl, hk1, hid7, h7, kb, hk⟩
            have hbox := (kb.1 es.length (by simp)).trans (at_hit _ _)
            have hat2 := (kb.1 id (by simp only [List.length_cons]; omega)).trans (at_miss _ hat)
            refine w_pins _ (Sub.refl _) (hk) ?_
            simp only [pins]
            refine w_seq ?_
            refine w_region ?_
            refine l_cons rfl (p_cmp ?_)
            refine l_nil ?_
            refine k_seq_normal ?_
            refine w_seq ?_
            refine w_b (fun h8 => ?_) (fun h8 => ?_)
            · skip
              have h8' := h8; (try simp only [bb] at h8')
              refine w_skip ?_
              refine k_seq_normal ?_
              refine w_seq ?_
              refine w_block ?_
              refine w_seq ?_
              refine w_region ?_
              refine l_cons rfl (p_ixl sl_27 (a := .fptr 6 (r.args.map Rx.cells) k 0) ?_ (h0 := by omega) (h1 := by simp only [List.length_map]; omega))
              refine l_cons rfl (p_loadf ty_29 (a := .agg (r.args[k]'(by omega)).cells) ?_ (hr := rxrow_at (l := r.args) (k := k) (by omega)) (hl := Nat.le_refl 6) (ha := rfl))
              refine l_cons rfl (p_alloc ze_29 fun s13 => ?_)
              refine l_cons rfl (p_store ty_29 ?_)
              refine l_nil ?_
              refine k_seq_normal ?_
              refine w_region ?_
              refine l_cons rfl (p_move ?_)
              refine l_cons rfl (p_loadp ty_29 ?_)
              refine l_cons rfl (p_move ?_)
              refine l_cons rfl (p_move ?_)
              refine l_cons rfl (p_call en_96 ((ih (B - 1) (by omega) (r.args[k]'(by omega)) _ w id s (p) (by have := r.nodes_arg (k := k) (by omega); omega) (ho.arg (by omega)) hw hwl (by rw [← hn]; exact (at_miss _ hat2))).mono ?_))
              rintro _ es3 ⟨id8, s8, rfl, hid8, h8, kb8⟩
              rw [← hn] at h8
              refine l_cons rfl (p_call en_128 ((or_walk (by omega) ((kb8.1 (es.length + 1) (by simp only [List.length_cons]; have := at_lt h7; omega)).trans (at_miss _ h7)) h8 (by simp only [List.length_cons] at hid8; have := at_lt h7; omega)).mono ?_))
              rintro _ es4 ⟨rfl, h9, hok9⟩
              refine l_nil ?_
              refine k_blk_normal ?_
              refine k_seq_normal ?_
              refine w_region ?_
              refine l_cons rfl (p_arith ?_)
              refine l_cons rfl (p_move ?_)
              refine l_nil ?_
              refine k_seq_normal ?_
              exact ⟨r.args.length - (k + 1), by omega, k + 1, rfl, by omega, hid7, by rw [h9, boolRow_congr fun j hj => (orP_done hj).trans (ends_alt (by omega) w p j)], hok9.kb ((kb.push _).trans kb8) (by simp only [List.length_cons]; omega), kn⟩
            · skip
              have h8' := h8; (try simp only [bb] at h8')
              refine w_exit ?_
              refine k_seq_exit ?_
              refine k_seq_exit ?_
              refine k_blk_here ?_
              refine k_blk_normal ?_
              refine k_seq_normal ?_
              first
              | exact ⟨es.length + 1, s16, Nat.lt_succ_self _, row_hit (boolRow_congr fun j hj => ends_eps (kind_2 (by omega)) hn hj p), (KB.refl _).push _, kn⟩
              | (have hiw : i = w.length := by omega
                 rw [hiw] at h7
                 exact ⟨_, _, hid7, by rw [h7, boolRow_congr fun j hj => eg_done (kind_3 (by omega)) hn hj p], kb, kn⟩)
              | (have hkl : k = r.args.length := by omega
                 rw [hkl, List.take_length] at h7
                 exact ⟨_, _, hid7, by rw [h7, boolRow_congr fun j hj => ends_congr (fun x => (kind_4 (by omega) x).symm) w p j], kb, kn⟩)
              | (have hkl : k = r.args.length := by omega
                 rw [hkl, List.take_length] at h7
                 exact ⟨_, _, hid7, by rw [h7, boolRow_congr fun j hj => ends_congr (kind_5 (by omega)) w p j], kb, kn⟩)
              | exact ⟨_, _, hid7, by rw [h9, boolRow_congr fun j hj => (orP_same (by assumption) hj).trans ((mid_done hn hmid (by rw [← show endsP (r.args[0]'(by omega)).lang w q = endsP (Rx.langOne r.args) w q from funext fun j => ends_congr (one_arg (by omega)) w q j]; assumption) hj).trans (ends_congr (fun x => (kind_6 (by omega) x).symm) w p j))], hok9.kb (kb.trans kb8) (by simp only [List.length_cons]; omega), kn⟩
              | exact ⟨_, _, hid7, by rw [h7, boolRow_congr fun j hj => (mid_none (fun x => not_one (by omega)) hn hmid hj).trans (ends_congr (fun x => (kind_6 (by omega) x).symm) w p j)], kb, kn⟩
              | exact ⟨es.length + 1, s16, Nat.lt_succ_self _, row_hit (boolRow_congr fun j hj => ends_none (kind_0 (by omega))), (KB.refl _).push _, kn⟩
          · skip
            have h7' := h7; (try simp only [bb] at h7')
            refine w_seq ?_
            refine w_region ?_
            refine l_cons rfl (p_cmp ?_)
            refine l_cons rfl (p_assign ?_)
            refine l_nil ?_
            refine k_seq_normal ?_
            refine w_b (fun h9 => ?_) (fun h9 => ?_)
            · skip
              have h9' := h9; (try simp only [bb] at h9')
              refine w_seq ?_
              refine w_region ?_
              refine l_cons rfl (p_move ?_)
              refine l_cons rfl (p_move ?_)
              refine l_cons rfl (p_copy sl_60 (he := loc_hit) (hs := src_own (loc_miss (loc_miss (loc_base hat)))) ?_ (hl := by rw [boolRow_len, boolRow_len]) (h0 := by rw [boolRow_len]; omega))
              rw [boolRow_len]
              refine l_nil ?_
              refine k_seq_normal ?_
              refine w_block ?_
              refine w_loop (fun m f es2 => ∃ q, m = falses n q ∧ Mid (Rx.langOne r.args) w n p q ∧ es.length < (es.length + 1) ∧ at_ es2 (es.length + 1) = some (.row s16 4 1 (boolRow n (q))) ∧ KB (.row s3 29 6 [[.int .i64 r.kind, .int .u64 r.set.w0, .int .u64 r.set.w1, .int .u64 r.set.w2, .int .u64 r.set.w3, .list 6 (r.args.map Rx.cells)]] :: es) es2 ∧ Knows f [(1, .list 1 (w.map fun n => [.int .u8 n])), (2, .own id s), (3, .ptr es.length s3 0 0), (7, .own (es.length + 1) s16)]) (falses n p) (⟨p, rfl, mid_start, Nat.lt_succ_self _, at_hit _ _, (KB.refl _).push _, kn⟩) ?_
              rintro m f es2 ⟨q, rfl, hmid, hid7, h7, kb, hk⟩
              have hbox := (kb.1 es.length (by simp)).trans (at_hit _ _)
              have hat2 := (kb.1 id (by simp only [List.length_cons]; omega)).trans (at_miss _ hat)
              refine w_pins _ (Sub.refl _) (hk) ?_
              simp only [pins]
              refine w_seq ?_
              refine w_seq ?_
              refine w_region ?_
              refine l_cons rfl (p_fap fa_29_2 ?_)
              refine l_cons rfl (p_loadp ty_27 ?_)
              first | refine l_cons rfl (p_lenl sl_27 ?_) | refine l_cons rfl (p_leno sl_27 ?_) | refine l_cons rfl (p_lenn sl_27 ?_)
              refine l_cons rfl (p_cmp ?_)
              refine l_cons rfl (p_move ?_)
              refine g_b rfl (fun h10 => ?_) (fun h10 => ?_)
              · skip
                have h10' := h10; (try simp only [bb] at h10')
                refine (p_move ?_)
                refine g_y rfl h10 (p_fap fa_29_2 ?_)
                refine g_y rfl h10 (p_loadp ty_27 ?_)
                refine g_y rfl h10 (p_ixl sl_27 (a := .fptr 6 (r.args.map Rx.cells) 0 0) ?_ (h0 := by omega) (h1 := by simp only [List.length_map]; omega))
                refine g_y rfl h10 (p_loadf ty_29 (a := .agg (r.args[0]'(by omega)).cells) ?_ (hr := rxrow_at (l := r.args) (k := 0) (by omega)) (hl := Nat.le_refl 6) (ha := rfl))
                refine g_y rfl h10 (p_move ?_)
                refine g_y rfl h10 (p_move ?_)
                refine g_y rfl h10 (p_call en_96 ((ih (B - 1) (by omega) (r.args[0]'(by omega)) _ w (es.length + 1) s16 (q) (by have := r.nodes_arg (k := 0) (by omega); omega) (ho.arg (by omega)) hw hwl (by rw [← hn]; exact h7)).mono ?_))
                rintro _ es3 ⟨id8, s8, rfl, hid8, h8, kb8⟩
                rw [← hn] at h8
                refine g_y rfl h10 (p_call en_128 ((or_walk (by omega) ((kb8.1 (es.length + 1) (at_lt h7)).trans h7) h8 (by have := at_lt h7; omega)).mono ?_))
                rintro _ es4 ⟨rfl, h9, hok9⟩
                refine l_cons rfl (p_pickt h10 ?_)
                refine l_nil ?_
                refine k_seq_normal ?_
                refine w_b (fun h11 => ?_) (fun h11 => ?_)
                · skip
                  have h11' := h11; (try simp only [bb] at h11')
                  refine w_skip ?_
                  refine k_seq_normal ?_
                  refine w_block ?_
                  refine w_skip ?_
                  refine k_blk_normal ?_
                  refine k_seq_normal ?_
                  exact ⟨falses n (orP q (endsP (r.args[0]'(by omega)).lang w q) n), falses_less (by simp_all), _, rfl, by rw [show endsP (r.args[0]'(by omega)).lang w q = endsP (Rx.langOne r.args) w q from funext fun j => ends_congr (one_arg (by omega)) w q j]; exact mid_step hn hmid, hid7, h9, hok9.kb (kb.trans kb8) (by simp only [List.length_cons]; omega), kn⟩
                · skip
                  have h11' := h11; (try simp only [bb] at h11')
                  refine w_exit ?_
                  refine k_seq_exit ?_
                  refine k_seq_exit ?_
                  refine k_blk_here ?_
                  refine k_blk_normal ?_
                  refine k_seq_normal ?_
                  first
                  | exact ⟨es.length + 1, s16, Nat.lt_succ_self _, row_hit (boolRow_congr fun j hj => ends_eps (kind_2 (by omega)) hn hj p), (KB.refl _).push _, kn⟩
                  | (have hiw : i = w.length := by omega
                     rw [hiw] at h7
                     exact ⟨_, _, hid7, by rw [h7, boolRow_congr fun j hj => eg_done (kind_3 (by omega)) hn hj p], kb, kn⟩)
                  | (have hkl : k = r.args.length := by omega
                     rw [hkl, List.take_length] at h7
                     exact ⟨_, _, hid7, by rw [h7, boolRow_congr fun j hj => ends_congr (fun x => (kind_4 (by omega) x).symm) w p j], kb, kn⟩)
                  | (have hkl : k = r.args.length := by omega
                     rw [hkl, List.take_length] at h7
                     exact ⟨_, _, hid7, by rw [h7, boolRow_congr fun j hj => ends_congr (kind_5 (by omega)) w p j], kb, kn⟩)
                  | exact ⟨_, _, hid7, by rw [h9, boolRow_congr fun j hj => (orP_same (by assumption) hj).trans ((mid_done hn hmid (by rw [← show endsP (r.args[0]'(by omega)).lang w q = endsP (Rx.langOne r.args) w q from funext fun j => ends_congr (one_arg (by omega)) w q j]; assumption) hj).trans (ends_congr (fun x => (kind_6 (by omega) x).symm) w p j))], hok9.kb (kb.trans kb8) (by simp only [List.length_cons]; omega), kn⟩
                  | exact ⟨_, _, hid7, by rw [h7, boolRow_congr fun j hj => (mid_none (fun x => not_one (by omega)) hn hmid hj).trans (ends_congr (fun x => (kind_6 (by omega) x).symm) w p j)], kb, kn⟩
                  | exact ⟨es.length + 1, s16, Nat.lt_succ_self _, row_hit (boolRow_congr fun j hj => ends_none (kind_0 (by omega))), (KB.refl _).push _, kn⟩
              · skip
                have h10' := h10; (try simp only [bb] at h10')
                refine g_n rfl h10 ?_
                refine g_n rfl h10 ?_
                refine g_n rfl h10 ?_
                refine g_n rfl h10 ?_
                refine g_n rfl h10 ?_
                refine g_n rfl h10 ?_
                refine g_n rfl h10 ?_
                refine g_n rfl h10 ?_
                refine l_cons rfl (p_pickf h10 ?_)
                refine l_nil ?_
                refine k_seq_normal ?_
                refine w_f rfl ?_
                refine w_exit ?_
                refine k_seq_exit ?_
                refine k_seq_exit ?_
                refine k_blk_here ?_
                refine k_blk_normal ?_
                refine k_seq_normal ?_
                first
                | exact ⟨es.length + 1, s16, Nat.lt_succ_self _, row_hit (boolRow_congr fun j hj => ends_eps (kind_2 (by omega)) hn hj p), (KB.refl _).push _, kn⟩
                | (have hiw : i = w.length := by omega
                   rw [hiw] at h7
                   exact ⟨_, _, hid7, by rw [h7, boolRow_congr fun j hj => eg_done (kind_3 (by omega)) hn hj p], kb, kn⟩)
                | (have hkl : k = r.args.length := by omega
                   rw [hkl, List.take_length] at h7
                   exact ⟨_, _, hid7, by rw [h7, boolRow_congr fun j hj => ends_congr (fun x => (kind_4 (by omega) x).symm) w p j], kb, kn⟩)
                | (have hkl : k = r.args.length := by omega
                   rw [hkl, List.take_length] at h7
                   exact ⟨_, _, hid7, by rw [h7, boolRow_congr fun j hj => ends_congr (kind_5 (by omega)) w p j], kb, kn⟩)
                | exact ⟨_, _, hid7, by rw [h9, boolRow_congr fun j hj => (orP_same (by assumption) hj).trans ((mid_done hn hmid (by rw [← show endsP (r.args[0]'(by omega)).lang w q = endsP (Rx.langOne r.args) w q from funext fun j => ends_congr (one_arg (by omega)) w q j]; assumption) hj).trans (ends_congr (fun x => (kind_6 (by omega) x).symm) w p j))], hok9.kb (kb.trans kb8) (by simp only [List.length_cons]; omega), kn⟩
                | exact ⟨_, _, hid7, by rw [h7, boolRow_congr fun j hj => (mid_none (fun x => not_one (by omega)) hn hmid hj).trans (ends_congr (fun x => (kind_6 (by omega) x).symm) w p j)], kb, kn⟩
                | exact ⟨es.length + 1, s16, Nat.lt_succ_self _, row_hit (boolRow_congr fun j hj => ends_none (kind_0 (by omega))), (KB.refl _).push _, kn⟩
            · skip
              have h9' := h9; (try simp only [bb] at h9')
              refine w_skip ?_
              refine k_blk_normal ?_
              refine k_seq_normal ?_
              first
              | exact ⟨es.length + 1, s16, Nat.lt_succ_self _, row_hit (boolRow_congr fun j hj => ends_eps (kind_2 (by omega)) hn hj p), (KB.refl _).push _, kn⟩
              | (have hiw : i = w.length := by omega
                 rw [hiw] at h7
                 exact ⟨_, _, hid7, by rw [h7, boolRow_congr fun j hj => eg_done (kind_3 (by omega)) hn hj p], kb, kn⟩)
              | (have hkl : k = r.args.length := by omega
                 rw [hkl, List.take_length] at h7
                 exact ⟨_, _, hid7, by rw [h7, boolRow_congr fun j hj => ends_congr (fun x => (kind_4 (by omega) x).symm) w p j], kb, kn⟩)
              | (have hkl : k = r.args.length := by omega
                 rw [hkl, List.take_length] at h7
                 exact ⟨_, _, hid7, by rw [h7, boolRow_congr fun j hj => ends_congr (kind_5 (by omega)) w p j], kb, kn⟩)
              | exact ⟨_, _, hid7, by rw [h9, boolRow_congr fun j hj => (orP_same (by assumption) hj).trans ((mid_done hn hmid (by rw [← show endsP (r.args[0]'(by omega)).lang w q = endsP (Rx.langOne r.args) w q from funext fun j => ends_congr (one_arg (by omega)) w q j]; assumption) hj).trans (ends_congr (fun x => (kind_6 (by omega) x).symm) w p j))], hok9.kb (kb.trans kb8) (by simp only [List.length_cons]; omega), kn⟩
              | exact ⟨_, _, hid7, by rw [h7, boolRow_congr fun j hj => (mid_none (fun x => not_one (by omega)) hn hmid hj).trans (ends_congr (fun x => (kind_6 (by omega) x).symm) w p j)], kb, kn⟩
              | exact ⟨es.length + 1, s16, Nat.lt_succ_self _, row_hit (boolRow_congr fun j hj => ends_none (kind_0 (by omega))), (KB.refl _).push _, kn⟩
  · skip
    rintro f es' ⟨id7, s7, hid7, h7, kb, hk⟩
    refine w_pins _ (Sub.refl _) (hk) ?_
    simp only [pins]
    refine w_seq ?_
    refine w_region ?_
    refine l_cons rfl (p_move ?_)
    refine l_cons rfl (p_assign ?_)
    refine l_nil ?_
    refine k_seq_normal ?_
    refine w_ret ?_
    exact ret1 rfl ev1 (Sub.refl _) ⟨id7, s7, rfl, by omega, h7, kb.pop⟩
theorem In_walk {w0 : World} {es : List Ent} (r : Rx) (w : List Int) (ho : r.ok) (hw : bytesOk w) (hwl : w.length ≤ 1000) : ACalls Tryd.prog w0 58 [.agg r.cells, bytesAV w] es fun v es' => v = .bool (inR r w) ∧ es' = es := by
 unfold bytesAV
 obtain ⟨n, hn⟩ : ∃ n, n = w.length + 1 := ⟨_, rfl⟩
 refine calls2 (N := 20) Tryd.func58 rfl rfl (by decide) ?_
 refine w_seq ?_
 refine w_region ?_
 refine l_cons rfl (p_box fun s2 => ?_)
 refine l_cons rfl (p_assign ?_)
 refine l_nil ?_
 refine k_seq_normal ?_
 refine w_seq ?_
 refine w_region ?_
 refine l_cons rfl (p_move ?_)
 refine l_cons rfl (p_lenl sl_22 ?_)
 refine l_cons rfl (p_arith (r := (w.length : Int) + 1) ?_ (hb := add64 (by omega) (by omega)))
 refine l_cons rfl (p_makeSlice sl_60 by_4 ze_4  fun s9 => ?_)
 rw [show ((w.length : Int) + 1).toNat = n by omega, boolRow_none n]
 refine l_cons rfl (p_assign ?_)
 refine l_nil ?_
 refine k_seq_normal ?_
 refine w_seq ?_
 refine w_region ?_
 refine l_cons rfl (p_move ?_)
 refine l_cons rfl (p_ixo sl_60 (a := .ptr (es.length + 1) s9 0 0) ?_ (h0 := by omega) (h1 := by rw [boolRow_len]; omega))
 refine l_cons rfl (p_store ty_4 (rows' := (boolRow n (fun _ => false)).set (0) [.bool (true)]) (r' := [.bool (true)]) ?_ (hr := boolRow_at _ (by omega)) (hl := Nat.le_refl 1) (hr' := by first | rfl | (simp only [List.take_zero, List.nil_append, List.drop_succ_cons, List.drop_zero, List.append_nil, List.drop_nil] <;> simp [*, W4.hasI])) (hrs := rfl))
 refine l_nil ?_
 refine k_seq_normal ?_
 refine w_seq ?_
 refine w_region ?_
 refine l_cons rfl (p_loadp ty_29 ?_)
 refine l_cons rfl (p_move ?_)
 refine l_cons rfl (p_move ?_)
 refine l_cons rfl (p_call en_96 ((ends_walk _ r _ w (es.length + 1) s9 (fun j => if j = 0 then true else false) (Nat.le_refl _) ho hw hwl (by rw [← hn, ← boolRow_set _ _ (by omega)]; exact at_hit _ _)).mono ?_))
 rintro _ es3 ⟨id8, s8, rfl, hid8, h8, kb8⟩
 rw [← hn] at h8
 refine l_cons rfl (p_move ?_)
 refine l_cons rfl (p_lenl sl_22 ?_)
 refine l_cons rfl (p_ixo sl_60 (a := .ptr id8 s8 w.length 0) ?_ (h0 := by omega) (h1 := by rw [boolRow_len]; omega))
 refine l_cons rfl (p_loadp ty_4 (a := .bool (inR r w)) ?_ (hr := boolRow_at _ (by omega)) (hl := Nat.le_refl 1) (ha := by rw [inR_ends]; rfl))
 refine l_cons rfl (p_assign ?_)
 refine l_nil ?_
 refine k_seq_normal ?_
 refine w_ret ?_
 exact ret1 rfl ev1 (sub_of fun i hi => by rw [kb8.1 i (by simp only [List.length_cons]; omega), at_push _ (by simp only [List.length_cons]; omega), at_push _ hi]) ⟨rfl, rfl⟩
end
section
/-! ### the empty word, any word, the first bytes -/
mutual
def Rx.null : Rx → Bool
 | .mk k s l => if k = 2 ∨ k = 6 then true else if k = 4 then Rx.nullA l else if k = 5 then Rx.nullE l else false
def Rx.nullA : List Rx → Bool
 | [] => true
 | a :: t => a.null && Rx.nullA t
def Rx.nullE : List Rx → Bool
 | [] => false
 | a :: t => a.null || Rx.nullE t
end
mutual
def Rx.some : Rx → Bool
 | .mk k s l => if k = 2 ∨ k = 6 then true else if k = 3 then !decide (s = noSet) else if k = 4 then Rx.someA l else if k = 5 then Rx.someE l else false
def Rx.someA : List Rx → Bool
 | [] => true
 | a :: t => a.some && Rx.someA t
def Rx.someE : List Rx → Bool
 | [] => false
 | a :: t => a.some || Rx.someE t
end
mutual
def Rx.first : Rx → W4
 | .mk k s l => if k = 3 then s else if k = 5 ∨ k = 6 ∧ l.length = 1 then Rx.firstE noSet l else if k = 4 ∧ Rx.someA l = true then Rx.firstC noSet l else noSet
def Rx.firstE : W4 → List Rx → W4
 | s, [] => s
 | s, a :: t => Rx.firstE (s.or a.first) t
def Rx.firstC : W4 → List Rx → W4
 | s, [] => s
 | s, a :: t => if a.null = true then Rx.firstC (s.or a.first) t else s.or a.first
end
theorem nullA_all (l : List Rx) : Rx.nullA l = l.all Rx.null := by
 induction l with
 | nil => rfl
 | cons a t ih => rw [Rx.nullA, ih]; rfl
theorem nullE_any (l : List Rx) : Rx.nullE l = l.any Rx.null := by
 induction l with
 | nil => rfl
 | cons a t ih => rw [Rx.nullE, ih]; rfl
theorem someA_all (l : List Rx) : Rx.someA l = l.all Rx.some := by
 induction l with
 | nil => rfl
 | cons a t ih => rw [Rx.someA, ih]; rfl
theorem someE_any (l : List Rx) : Rx.someE l = l.any Rx.some := by
 induction l with
 | nil => rfl
 | cons a t ih => rw [Rx.someE, ih]; rfl
theorem null_eq (r : Rx) : r.null = if r.kind = 2 ∨ r.kind = 6 then true else if r.kind = 4 then r.args.all Rx.null else if r.kind = 5 then r.args.any Rx.null else false := by
 cases r
 rw [Rx.null, nullA_all, nullE_any]
 rfl
theorem some_eq (r : Rx) : r.some = if r.kind = 2 ∨ r.kind = 6 then true else if r.kind = 3 then !decide (r.set = noSet) else if r.kind = 4 then r.args.all Rx.some else if r.kind = 5 then r.args.any Rx.some else false := by
 cases r
 rw [Rx.some, someA_all, someE_any]
 rfl
theorem firstE_fold (l : List Rx) (s : W4) : Rx.firstE s l = l.foldl (fun s a => s.or a.first) s := by
 induction l generalizing s with
 | nil => rfl
 | cons a t ih => rw [Rx.firstE, ih]; rfl
theorem firstC_none {l : List Rx} (h : ∀ a ∈ l, a.null = true) (s : W4) : Rx.firstC s l = Rx.firstE s l := by
 induction l generalizing s with
 | nil => rfl
 | cons a t ih => rw [Rx.firstC, Rx.firstE, if_pos (h a (by simp)), ih (fun x hx => h x (by simp [hx]))]
theorem firstC_at : ∀ {l : List Rx} {k : Nat} (h : k < l.length), (∀ j (hj : j < k) (h : j < l.length), l[j].null = true) → l[k].null = false → ∀ s, Rx.firstC s l = Rx.firstE s (l.take (k + 1))
 | a :: t, 0, h, _, h2, s => by
  rw [Rx.firstC, if_neg (by simpa using h2)]
  rfl
 | a :: t, k + 1, h, h1, h2, s => by
  have h0 : a.null = true := h1 0 (by omega) (by simp)
  rw [Rx.firstC, if_pos h0]
  have := firstC_at (l := t) (k := k) (by simpa using h) (fun j hj hl => h1 (j + 1) (by omega) (by simpa using hl)) h2 (s.or a.first)
  rw [this]
  rfl
theorem firstE_succ {l : List Rx} {k : Nat} (h : k < l.length) (s : W4) : Rx.firstE s (l.take (k + 1)) = (Rx.firstE s (l.take k)).or (l[k]).first := by
 rw [firstE_fold, firstE_fold, List.take_add_one, List.getElem?_eq_getElem h, List.foldl_append]
 rfl
theorem firstC_all {l : List Rx} (h : ∀ j (hj : j < l.length) (h : j < l.length), l[j].null = true) (s : W4) : Rx.firstC s l = Rx.firstE s l :=
 firstC_none (fun a ha => by obtain ⟨j, hj, rfl⟩ := List.mem_iff_getElem.1 ha; exact h j hj hj) s
theorem first_3 {r : Rx} (h : r.kind = 3) : r.first = r.set := by cases r; simp only [Rx.kind] at h; rw [Rx.first, if_pos h]; rfl
theorem first_5 {r : Rx} (h : r.kind = 5 ∨ r.kind = 6 ∧ r.args.length = 1) : r.first = Rx.firstE noSet r.args := by
 cases r
 simp only [Rx.kind, Rx.args] at h
 rw [Rx.first, if_neg (by omega), if_pos h]
 rfl
theorem first_4 {r : Rx} (h : r.kind = 4) (hs : r.some = true) : r.first = Rx.firstC noSet r.args := by
 rw [some_eq, h] at hs
 cases r
 simp only [Rx.kind, Rx.args] at h hs
 rw [Rx.first, if_neg (by omega), if_neg (by omega), if_pos ⟨h, by simpa [someA_all] using hs⟩]
 rfl
theorem first_no {r : Rx} (h3 : r.kind ≠ 3) (h5 : ¬ (r.kind = 5 ∨ r.kind = 6 ∧ r.args.length = 1)) (h4 : r.kind = 4 → r.some = false) : r.first = noSet := by
 cases r with
 | mk k s l =>
  simp only [Rx.kind, Rx.args] at h3 h5 h4
  rw [Rx.first, if_neg h3, if_neg h5, if_neg]
  rintro ⟨h, hs⟩
  have := h4 h
  rw [some_eq] at this
  simp only [Rx.kind, Rx.args, h] at this
  rw [someA_all] at hs
  simp [hs] at this
mutual
theorem first_ok : ∀ r : Rx, r.ok → r.first.ok
 | .mk k s l, h => by
  have h2 : Rx.oks l := h.2.2
  rw [Rx.first]
  split
  ·exact h.2.1
  ·split
   ·exact firstE_ok l noSet noSet_ok h2
   ·split
    ·exact firstC_ok l noSet noSet_ok h2
    ·exact noSet_ok
theorem firstE_ok : ∀ (l : List Rx) (s : W4), s.ok → Rx.oks l → (Rx.firstE s l).ok
 | [], s, h, _ => by rw [Rx.firstE]; exact h
 | a :: t, s, h, g => by rw [Rx.firstE]; exact firstE_ok t _ (or_ok h (first_ok a g.1)) g.2
theorem firstC_ok : ∀ (l : List Rx) (s : W4), s.ok → Rx.oks l → (Rx.firstC s l).ok
 | [], s, h, _ => by rw [Rx.firstC]; exact h
 | a :: t, s, h, g => by
  rw [Rx.firstC]
  split
  ·exact firstC_ok t _ (or_ok h (first_ok a g.1)) g.2
  ·exact or_ok h (first_ok a g.1)
end
theorem oks_take {l : List Rx} (h : ∀ r ∈ l, r.ok) (k : Nat) : Rx.oks (l.take k) := (Rx.oks_iff _).2 fun r hr => h r (List.mem_of_mem_take hr)
theorem rall_no {p : Rx → Bool} {l : List Rx} {k : Nat} (h : k < l.length) (hp : p l[k] = false) : l.all p = false := by
 rw [List.all_eq_false]
 exact ⟨_, List.getElem_mem h, by simp [hp]⟩
theorem rall_yes {p : Rx → Bool} {l : List Rx} (h : ∀ j (hj : j < l.length) (h : j < l.length), p l[j] = true) : l.all p = true := by
 rw [List.all_eq_true]
 intro a ha
 obtain ⟨j, hj, rfl⟩ := List.mem_iff_getElem.1 ha
 exact h j hj hj
theorem rany_yes {p : Rx → Bool} {l : List Rx} {k : Nat} (h : k < l.length) (hp : p l[k] = true) : l.any p = true := List.any_eq_true.2 ⟨_, List.getElem_mem h, hp⟩
theorem rany_no {p : Rx → Bool} {l : List Rx} (h : ∀ j (hj : j < l.length) (h : j < l.length), p l[j] = false) : l.any p = false := by
 rw [List.any_eq_false]
 intro a ha
 obtain ⟨j, hj, rfl⟩ := List.mem_iff_getElem.1 ha
 simp [h j hj hj]
theorem next_true {p : Rx → Bool} {l : List Rx} {k : Nat} {b : Bool} (hk : k < l.length) (h : ∀ j (hj : j < k) (h : j < l.length), p l[j] = b) (hp : p l[k] = b) : ∀ j (hj : j < k + 1) (h : j < l.length), p l[j] = b := fun j hj hl => by
 rcases Nat.lt_or_eq_of_le (Nat.le_of_lt_succ hj) with h9 | h9
 ·exact h j h9 hl
 ·subst h9; exact hp
/-- Word by word. -/
def mapW (op : Int → Int → Int) (a b : W4) : W4 := ⟨op a.w0 b.w0, op a.w1 b.w1, op a.w2 b.w2, op a.w3 b.w3⟩
def mapTo (op : Int → Int → Int) (a b : W4) (k : Nat) : W4 := ⟨if 0 < k then op a.w0 b.w0 else 0, if 1 < k then op a.w1 b.w1 else 0, if 2 < k then op a.w2 b.w2 else 0, if 3 < k then op a.w3 b.w3 else 0⟩
theorem mapTo_succ (op : Int → Int → Int) (a b : W4) {k : Nat} (h : k < 4) : (mapTo op a b k).setWd k (op (a.wd k) (b.wd k)) = mapTo op a b (k + 1) := by
 have h1 : k = 0 ∨ k = 1 ∨ k = 2 ∨ k = 3 := by omega
 rcases h1 with rfl | rfl | rfl | rfl <;> rfl
end
set_option maxRecDepth 8000
section
open Go.RowKit Go.Proofs
theorem or1_walk {w0 : World} {es : List Ent} (x y : Int) (hx : 0 ≤ x ∧ x < 18446744073709551616) (hy : 0 ≤ y ∧ y < 18446744073709551616) : ACalls Tryd.prog w0 130 [.int .u64 x, .int .u64 y] es fun v es' => v = .int .u64 (orI x y) ∧ es' = es := by
 refine calls2 (N := 8) Tryd.func130 rfl rfl (by decide) ?_
 refine w_seq ?_
 refine w_region ?_
 refine l_cons rfl (p_assign ?_)
 refine l_nil ?_
 refine k_seq_normal ?_
 refine w_seq ?_
 refine w_region ?_
 refine l_cons rfl (p_move ?_)
 refine l_cons rfl (p_move ?_)
 refine l_cons rfl (p_arith ?_ (hb := arith_or64 hx hy))
 refine l_cons rfl (p_assign ?_)
 refine l_nil ?_
 refine k_seq_normal ?_
 refine w_ret ?_
 exact ret1 rfl ev1 subx ⟨rfl, rfl⟩
theorem with_walk {w0 : World} {es : List Ent} (op : Int → Int → Int) (g : Nat) (hen : enterB Tryd.prog g = true) (a b : W4) (hop : ∀ k, k < 4 → ∀ es, ACalls Tryd.prog w0 g [.int .u64 (a.wd k), .int .u64 (b.wd k)] es fun v es' => v = .int .u64 (op (a.wd k) (b.wd k)) ∧ es' = es) : ACalls Tryd.prog w0 129 [.agg a.row, .agg b.row, .fn (.func g) [] []] es fun v es' => v = .agg (mapW op a b).row ∧ es' = es := by
 unfold W4.row
 refine calls3 (N := 24) Tryd.func129 rfl rfl (by decide) ?_
 refine w_seq ?_
 refine w_region ?_
 refine l_cons rfl (p_box fun s3 => ?_)
 refine l_cons rfl (p_box fun s4 => ?_)
 refine l_cons rfl (p_alloc ze_26 fun s6 => ?_)
 refine l_nil ?_
 refine k_seq_normal ?_
 refine w_seq ?_
 refine w_region ?_
 refine l_cons rfl (p_alloc ze_26 fun s7 => ?_)
 refine l_nil ?_
 refine k_seq_normal ?_
 refine w_seq ?_
 refine w_seq ?_
 refine w_region ?_
 refine l_cons rfl (p_move ?_)
 refine l_nil ?_
 refine k_seq_normal ?_
 refine w_block ?_
 refine w_loop (fun m f es' => ∃ k, m = 4 - k ∧ k ≤ 4 ∧ es' = .row s7 26 4 [[.int .u64 (mapTo op a b k).w0, .int .u64 (mapTo op a b k).w1, .int .u64 (mapTo op a b k).w2, .int .u64 (mapTo op a b k).w3]] :: .row s6 26 4 [[.int .u64 0, .int .u64 0, .int .u64 0, .int .u64 0]] :: .row s4 26 4 [[.int .u64 b.w0, .int .u64 b.w1, .int .u64 b.w2, .int .u64 b.w3]] :: .row s3 26 4 [[.int .u64 a.w0, .int .u64 a.w1, .int .u64 a.w2, .int .u64 a.w3]] :: es ∧ Knows f [(2, .fn (.func g) [] []), (3, .ptr es.length s3 0 0), (4, .ptr (es.length + 1) s4 0 0), (6, .ptr (es.length + 2) s6 0 0), (7, .ptr (es.length + 3) s7 0 0), (9, .int .i64 (k : Int))]) (4) (⟨0, rfl, Nat.zero_le _, rfl, kn⟩) ?_
 rintro m f es' ⟨k, rfl, hk1, rfl, hk⟩
 refine w_pins _ (Sub.refl _) (hk) ?_
 simp only [pins]
 refine w_seq ?_
 refine w_region ?_
 refine l_cons rfl (p_cmp ?_)
 refine l_nil ?_
 refine k_seq_normal ?_
 refine w_seq ?_
 refine w_b (fun h1 => ?_) (fun h1 => ?_)
 ·skip
  have h1' := h1; (try simp only [bb] at h1')
  refine w_skip ?_
  refine k_seq_normal ?_
  refine w_seq ?_
  refine w_block ?_
  refine w_seq ?_
  refine w_region ?_
  refine l_cons rfl (p_move ?_)
  refine l_cons rfl (p_assign ?_)
  refine l_nil ?_
  refine k_seq_normal ?_
  refine w_drawn 9 [] (fun e => e = _) mixed (by kernel_rfl) rfl ?_
  refine q1 8 (hg := rfl) (hu := rfl) (h := by rintro f _ rfl; exact p_move ⟨rfl, rfl⟩) (k := ?_)
  refine q1 2 (hg := rfl) (hu := rfl) (h := by rintro f _ rfl; exact p_move ⟨rfl, rfl⟩) (k := ?_)
  refine q1 8 (hg := rfl) (hu := rfl) (h := by rintro f _ rfl; exact p_move ⟨rfl, rfl⟩) (k := ?_)
  refine q2 3 14 (hg := rfl) (hu := rfl) (h := by rintro f _ rfl; exact p_ixa ar_26 (a := .ptr es.length s3 0 k) ⟨rfl, rfl⟩ (h0 := by omega) (h1 := by omega) (ho := by simp)) (k := ?_)
  refine q1 15 (hg := rfl) (hu := rfl) (h := by rintro f _ rfl; exact p_loadp ty_24 (a := .int .u64 (a.wd k)) ⟨rfl, rfl⟩ (hl := by simp only [List.length_cons, List.length_nil]; omega) (ha := wd_load a (by omega))) (k := ?_)
  refine q1 8 (hg := rfl) (hu := rfl) (h := by rintro f _ rfl; exact p_move ⟨rfl, rfl⟩) (k := ?_)
  refine q2 4 17 (hg := rfl) (hu := rfl) (h := by rintro f _ rfl; exact p_ixa ar_26 (a := .ptr (es.length + 1) s4 0 k) ⟨rfl, rfl⟩ (h0 := by omega) (h1 := by omega) (ho := by simp)) (k := ?_)
  refine q1 18 (hg := rfl) (hu := rfl) (h := by rintro f _ rfl; exact p_loadp ty_24 (a := .int .u64 (b.wd k)) ⟨rfl, rfl⟩ (hl := by simp only [List.length_cons, List.length_nil]; omega) (ha := wd_load b (by omega))) (k := ?_)
  refine q3 13 16 19 (hg := rfl) (hu := rfl) (h := by rintro f _ rfl; exact p_callr hen (hop k (by omega) _) ⟨rfl, rfl⟩) (k := ?_)
  refine q_end ?_
  refine m_end ?_
  refine l_cons rfl (p_ixa ar_26 (a := .ptr (es.length + 3) s7 0 k) ?_ (h0 := by omega) (h1 := by omega) (ho := by simp))
  refine l_cons rfl (p_store ty_24 (r' := [.int .u64 (mapTo op a b (k + 1)).w0, .int .u64 (mapTo op a b (k + 1)).w1, .int .u64 (mapTo op a b (k + 1)).w2, .int .u64 (mapTo op a b (k + 1)).w3]) ?_ (hl := by simp only [List.length_cons, List.length_nil]; omega) (hr' := by rw [← mapTo_succ op a b (by omega)]; exact store_wd (mapTo op a b k) (by omega) _))
  refine l_nil ?_
  refine k_blk_normal ?_
  refine k_seq_normal ?_
  refine w_region ?_
  refine l_cons rfl (p_arith ?_)
  refine l_cons rfl (p_move ?_)
  refine l_nil ?_
  refine k_seq_normal ?_
  exact ⟨4 - (k + 1), by omega, k + 1, rfl, by omega, rfl, kn⟩
 ·skip
  have h1' := h1; (try simp only [bb] at h1')
  refine w_exit ?_
  refine k_seq_exit ?_
  refine k_seq_exit ?_
  refine k_blk_here ?_
  refine k_seq_normal ?_
  refine w_seq ?_
  refine w_region ?_
  refine l_cons rfl (p_loadp ty_26 ?_)
  refine l_cons rfl (p_store ty_26 ?_)
  refine l_nil ?_
  refine k_seq_normal ?_
  refine w_ret ?_
  have hk4 : k = 4 := by omega
  subst hk4
  exact retc rfl ty_26 (sub4 _ _ _ _ _) ⟨rfl, rfl⟩
theorem or_set {w0 : World} {es : List Ent} (a b : W4) (ha : a.ok) (hb : b.ok) : ACalls Tryd.prog w0 97 [.agg a.row, .agg b.row] es fun v es' => v = .agg (a.or b).row ∧ es' = es := by
 refine calls2 (N := 8) Tryd.func97 rfl rfl (by decide) ?_
 refine w_seq ?_
 refine w_region ?_
 refine l_cons rfl (p_box fun s2 => ?_)
 refine l_cons rfl (p_box fun s3 => ?_)
 refine l_cons rfl (p_alloc ze_26 fun s4 => ?_)
 refine l_nil ?_
 refine k_seq_normal ?_
 refine w_seq ?_
 refine w_region ?_
 refine l_cons rfl (p_loadp ty_26 ?_)
 refine l_cons rfl (p_loadp ty_26 ?_)
 refine l_cons rfl (p_callr en_129 (with_walk orI 130 en_130 a b (fun k hk es => or1_walk _ _ (W4.wd_ok ha k) (W4.wd_ok hb k))) ?_)
 refine l_cons rfl (p_store ty_26 ?_)
 refine l_nil ?_
 refine k_seq_normal ?_
 refine w_ret ?_
 exact retc rfl ty_26 subx ⟨rfl, rfl⟩
theorem Null_walk {w0 : World} : ∀ (B : Nat) (r : Rx) (es : List Ent), r.nodes ≤ B → B ≤ 1048576 → ACalls Tryd.prog w0 59 [.agg r.cells] es fun v es' => v = .bool r.null ∧ es' = es := by
 intro B
 induction B using Nat.strongRecOn with
 | _ B ih => ?_
 intro r es hB hB2
 rw [Rx.cells_eq r]
 have hne := r.nodes_eq
 have hal := Rx.len_le r.args
 refine calls1 (N := 37) Tryd.func59 rfl rfl (by decide) ?_
 refine w_seq ?_
 refine w_region ?_
 refine l_cons rfl (p_box fun s1 => ?_)
 refine l_cons rfl (p_assign ?_)
 refine l_nil ?_
 refine k_seq_normal ?_
 refine w_seq ?_
 refine w_seq ?_
 refine w_region ?_
 refine l_cons rfl (p_fap fa_29_0 ?_)
 refine l_cons rfl (p_loadp ty_3 ?_)
 refine l_nil ?_
 refine k_seq_normal ?_
 refine w_block ?_
 refine w_seq ?_
 refine w_seq ?_
 refine w_region ?_
 refine l_cons rfl (p_cmp ?_)
 refine l_cons rfl (p_assign ?_)
 refine l_nil ?_
 refine k_seq_normal ?_
 refine w_b (fun h1 => ?_) (fun h1 => ?_)
 ·skip
  have h1' := h1; (try simp only [bb] at h1')
  refine w_skip ?_
  refine k_seq_normal ?_
  refine w_t h1 ?_
  refine w_seq ?_
  refine w_region ?_
  refine l_cons rfl (p_assign ?_)
  refine l_nil ?_
  refine k_seq_normal ?_
  refine w_ret ?_
  refine k_blk_ret ?_
  refine k_seq_ret ?_
  exact ret1 rfl ev1 (by first | exact sub1 _ _ | exact kb.sub | exact (kb.push _).sub | exact Sub.refl _) ⟨by rw [null_eq, if_pos (by omega)], rfl⟩
 ·skip
  have h1' := h1; (try simp only [bb] at h1')
  refine w_region ?_
  refine l_cons rfl (p_cmp ?_)
  refine l_cons rfl (p_assign ?_)
  refine l_nil ?_
  refine k_seq_normal ?_
  refine w_b (fun h2 => ?_) (fun h2 => ?_)
  ·skip
   have h2' := h2; (try simp only [bb] at h2')
   refine w_seq ?_
   refine w_region ?_
   refine l_cons rfl (p_assign ?_)
   refine l_nil ?_
   refine k_seq_normal ?_
   refine w_ret ?_
   refine k_blk_ret ?_
   refine k_seq_ret ?_
   exact ret1 rfl ev1 (by first | exact sub1 _ _ | exact kb.sub | exact (kb.push _).sub | exact Sub.refl _) ⟨by rw [null_eq, if_pos (by omega)], rfl⟩
  ·skip
   have h2' := h2; (try simp only [bb] at h2')
   refine w_seq ?_
   refine w_region ?_
   refine l_cons rfl (p_cmp ?_)
   refine l_cons rfl (p_assign ?_)
   refine l_nil ?_
   refine k_seq_normal ?_
   refine w_b (fun h3 => ?_) (fun h3 => ?_)
   ·skip
    have h3' := h3; (try simp only [bb] at h3')
    refine w_seq ?_
    refine w_seq ?_
    refine w_region ?_
    refine l_cons rfl (p_fap fa_29_2 ?_)
    refine l_cons rfl (p_loadp ty_27 ?_)
    first | refine l_cons rfl (p_lenl sl_27 ?_) | refine l_cons rfl (p_leno sl_27 ?_) | refine l_cons rfl (p_lenn sl_27 ?_)
    refine l_len 15 fun hl2 => ?_
    simp only [List.length_map, most] at hl2
    refine l_cons rfl (p_move ?_)
    refine l_nil ?_
    refine k_seq_normal ?_
    refine w_block ?_
    refine w_loop (fun m f es2 => ∃ k, m = r.args.length - k ∧ k ≤ r.args.length ∧ (∀ j (hj : j < k) (h : j < r.args.length), (r.args[j]).null = true) ∧ KB es es2 ∧ Knows f [(15, .list 6 (r.args.map Rx.cells)), (16, .int .i64 (r.args.length : Int)), (17, .int .i64 (k : Int))]) (r.args.length) (⟨0, rfl, Nat.zero_le _, fun j hj => absurd hj (Nat.not_lt_zero _), (KB.refl _).push _, by simp only [List.length_map, Knows, put, upd_apply, Nat.reduceEqDiff, ↓reduceIte, and_true, true_and, eq_self] <;> and_intros <;> rfl⟩) ?_
    rintro m f es2 ⟨k, rfl, hk1, hk2, kb, hk⟩
    refine w_pins _ (Sub.refl _) (hk) ?_
    simp only [pins]
    refine w_seq ?_
    refine w_region ?_
    refine l_cons rfl (p_cmp ?_)
    refine l_nil ?_
    refine k_seq_normal ?_
    refine w_seq ?_
    refine w_b (fun h4 => ?_) (fun h4 => ?_)
    ·skip
     have h4' := h4; (try simp only [bb] at h4')
     refine w_skip ?_
     refine k_seq_normal ?_
     refine w_seq ?_
     refine w_block ?_
     refine w_seq ?_
     refine w_region ?_
     refine l_cons rfl (p_ixl sl_27 (a := .fptr 6 (r.args.map Rx.cells) k 0) ?_ (h0 := by omega) (h1 := by simp only [List.length_map]; omega))
     refine l_cons rfl (p_loadf ty_29 (a := .agg (r.args[k]'(by omega)).cells) ?_ (hr := rxrow_at (l := r.args) (k := k) (by omega)) (hl := Nat.le_refl 6) (ha := rfl))
     refine l_cons rfl (p_alloc ze_29 fun s4 => ?_)
     refine l_cons rfl (p_store ty_29 ?_)
     refine l_nil ?_
     refine k_seq_normal ?_
     refine w_seq ?_
     refine w_region ?_
     refine l_cons rfl (p_loadp ty_29 ?_)
     refine l_cons rfl (p_callr en_59 (ih (B - 1) (by omega) (r.args[k]'(by omega)) _ (by have := r.nodes_arg (k := k) (by omega); omega) (by omega)) ?_)
     refine l_cons rfl (p_not ?_)
     refine l_nil ?_
     refine k_seq_normal ?_
     refine w_b (fun h5 => ?_) (fun h5 => ?_)
     ·skip
      have h5' := h5; (try simp only [bb] at h5')
      refine w_seq ?_
      refine w_region ?_
      refine l_cons rfl (p_assign ?_)
      refine l_nil ?_
      refine k_seq_normal ?_
      refine w_ret ?_
      refine k_blk_ret ?_
      refine k_seq_ret ?_
      refine k_seq_ret ?_
      refine k_blk_ret ?_
      refine k_seq_ret ?_
      refine k_blk_ret ?_
      refine k_seq_ret ?_
      exact ret1 rfl ev1 (by first | exact sub1 _ _ | exact kb.sub | exact (kb.push _).sub | exact Sub.refl _) ⟨by rw [null_eq, if_neg (by omega), if_pos (by omega), rall_no (k := k) (by omega) (by assumption)], rfl⟩
     ·skip
      have h5' := h5; (try simp only [bb] at h5')
      refine w_skip ?_
      refine k_blk_normal ?_
      refine k_seq_normal ?_
      refine w_region ?_
      refine l_cons rfl (p_arith ?_)
      refine l_cons rfl (p_move ?_)
      refine l_nil ?_
      refine k_seq_normal ?_
      exact ⟨r.args.length - (k + 1), by omega, k + 1, rfl, by omega, next_true (p := Rx.null) (by omega) hk2 (by assumption), (kb.push _), kn⟩
    ·skip
     have h4' := h4; (try simp only [bb] at h4')
     refine w_exit ?_
     refine k_seq_exit ?_
     refine k_seq_exit ?_
     refine k_blk_here ?_
     refine k_seq_normal ?_
     refine w_seq ?_
     refine w_region ?_
     refine l_cons rfl (p_assign ?_)
     refine l_nil ?_
     refine k_seq_normal ?_
     refine w_ret ?_
     refine k_blk_ret ?_
     refine k_seq_ret ?_
     exact ret1 rfl ev1 (by first | exact sub1 _ _ | exact kb.sub | exact (kb.push _).sub | exact Sub.refl _) ⟨by rw [null_eq, if_neg (by omega), if_pos (by omega), rall_yes (fun j hj h => hk2 j (by omega) h)], rfl⟩
   ·skip
    have h3' := h3; (try simp only [bb] at h3')
    refine w_seq ?_
    refine w_region ?_
    refine l_cons rfl (p_cmp ?_)
    refine l_cons rfl (p_assign ?_)
    refine l_nil ?_
    refine k_seq_normal ?_
    refine w_b (fun h6 => ?_) (fun h6 => ?_)
    ·skip
     have h6' := h6; (try simp only [bb] at h6')
     refine w_seq ?_
     refine w_region ?_
     refine l_cons rfl (p_fap fa_29_2 ?_)
     refine l_cons rfl (p_loadp ty_27 ?_)
     first | refine l_cons rfl (p_lenl sl_27 ?_) | refine l_cons rfl (p_leno sl_27 ?_) | refine l_cons rfl (p_lenn sl_27 ?_)
     refine l_len 28 fun hl2 => ?_
     simp only [List.length_map, most] at hl2
     refine l_cons rfl (p_move ?_)
     refine l_nil ?_
     refine k_seq_normal ?_
     refine w_block ?_
     refine w_loop (fun m f es2 => ∃ k, m = r.args.length - k ∧ k ≤ r.args.length ∧ (∀ j (hj : j < k) (h : j < r.args.length), (r.args[j]).null = false) ∧ KB es es2 ∧ Knows f [(28, .list 6 (r.args.map Rx.cells)), (29, .int .i64 (r.args.length : Int)), (30, .int .i64 (k : Int))]) (r.args.length) (⟨0, rfl, Nat.zero_le _, fun j hj => absurd hj (Nat.not_lt_zero _), (KB.refl _).push _, by simp only [List.length_map, Knows, put, upd_apply, Nat.reduceEqDiff, ↓reduceIte, and_true, true_and, eq_self] <;> and_intros <;> rfl⟩) ?_
     rintro m f es2 ⟨k, rfl, hk1, hk2, kb, hk⟩
     refine w_pins _ (Sub.refl _) (hk) ?_
     simp only [pins]
     refine w_seq ?_
     refine w_region ?_
     refine l_cons rfl (p_cmp ?_)
     refine l_nil ?_
     refine k_seq_normal ?_
     refine w_seq ?_
     refine w_b (fun h7 => ?_) (fun h7 => ?_)
     ·skip
      have h7' := h7; (try simp only [bb] at h7')
      refine w_skip ?_
      refine k_seq_normal ?_
      refine w_seq ?_
      refine w_block ?_
      refine w_seq ?_
      refine w_region ?_
      refine l_cons rfl (p_ixl sl_27 (a := .fptr 6 (r.args.map Rx.cells) k 0) ?_ (h0 := by omega) (h1 := by simp only [List.length_map]; omega))
      refine l_cons rfl (p_loadf ty_29 (a := .agg (r.args[k]'(by omega)).cells) ?_ (hr := rxrow_at (l := r.args) (k := k) (by omega)) (hl := Nat.le_refl 6) (ha := rfl))
      refine l_cons rfl (p_alloc ze_29 fun s6 => ?_)
      refine l_cons rfl (p_store ty_29 ?_)
      refine l_nil ?_
      refine k_seq_normal ?_
      refine w_seq ?_
      refine w_region ?_
      refine l_cons rfl (p_loadp ty_29 ?_)
      refine l_cons rfl (p_callr en_59 (ih (B - 1) (by omega) (r.args[k]'(by omega)) _ (by have := r.nodes_arg (k := k) (by omega); omega) (by omega)) ?_)
      refine l_nil ?_
      refine k_seq_normal ?_
      refine w_b (fun h8 => ?_) (fun h8 => ?_)
      ·skip
       have h8' := h8; (try simp only [bb] at h8')
       refine w_seq ?_
       refine w_region ?_
       refine l_cons rfl (p_assign ?_)
       refine l_nil ?_
       refine k_seq_normal ?_
       refine w_ret ?_
       refine k_blk_ret ?_
       refine k_seq_ret ?_
       refine k_seq_ret ?_
       refine k_blk_ret ?_
       refine k_blk_ret ?_
       refine k_seq_ret ?_
       exact ret1 rfl ev1 (by first | exact sub1 _ _ | exact kb.sub | exact (kb.push _).sub | exact Sub.refl _) ⟨by rw [null_eq, if_neg (by omega), if_neg (by omega), if_pos (by omega), rany_yes (k := k) (by omega) (by assumption)], rfl⟩
      ·skip
       have h8' := h8; (try simp only [bb] at h8')
       refine w_skip ?_
       refine k_blk_normal ?_
       refine k_seq_normal ?_
       refine w_region ?_
       refine l_cons rfl (p_arith ?_)
       refine l_cons rfl (p_move ?_)
       refine l_nil ?_
       refine k_seq_normal ?_
       exact ⟨r.args.length - (k + 1), by omega, k + 1, rfl, by omega, next_true (p := Rx.null) (by omega) hk2 (by assumption), (kb.push _), kn⟩
     ·skip
      have h7' := h7; (try simp only [bb] at h7')
      refine w_exit ?_
      refine k_seq_exit ?_
      refine k_seq_exit ?_
      refine k_blk_here ?_
      refine k_blk_normal ?_
      refine k_seq_normal ?_
      refine w_seq ?_
      refine w_region ?_
      refine l_cons rfl (p_assign ?_)
      refine l_nil ?_
      refine k_seq_normal ?_
      refine w_ret ?_
      first
      | exact ret1 rfl ev1 (by first | exact sub1 _ _ | exact kb.sub | exact (kb.push _).sub | exact Sub.refl _) ⟨by rw [null_eq, if_neg (by omega), if_neg (by omega), if_pos (by omega), rany_no (fun j hj h => hk2 j (by omega) h)], rfl⟩
      | exact ret1 rfl ev1 (by first | exact sub1 _ _ | exact kb.sub | exact (kb.push _).sub | exact Sub.refl _) ⟨by rw [null_eq, if_neg (by omega), if_neg (by omega), if_neg (by omega)], rfl⟩
    ·skip
     have h6' := h6; (try simp only [bb] at h6')
     refine w_skip ?_
     refine k_blk_normal ?_
     refine k_seq_normal ?_
     refine w_seq ?_
     refine w_region ?_
     refine l_cons rfl (p_assign ?_)
     refine l_nil ?_
     refine k_seq_normal ?_
     refine w_ret ?_
     first
     | exact ret1 rfl ev1 (by first | exact sub1 _ _ | exact kb.sub | exact (kb.push _).sub | exact Sub.refl _) ⟨by rw [null_eq, if_neg (by omega), if_neg (by omega), if_pos (by omega), rany_no (fun j hj h => hk2 j (by omega) h)], rfl⟩
     | exact ret1 rfl ev1 (by first | exact sub1 _ _ | exact kb.sub | exact (kb.push _).sub | exact Sub.refl _) ⟨by rw [null_eq, if_neg (by omega), if_neg (by omega), if_neg (by omega)], rfl⟩
theorem refNull {w0 : World} : ∀ (B : Nat) (r : Rx) (es : List Ent), r.nodes ≤ B → B ≤ 1048576 → ACalls Tryd.prog w0 60 [.agg r.cells] es fun v es' => v = .bool r.null ∧ es' = es := by
 intro B
 induction B using Nat.strongRecOn with
 | _ B ih => ?_
 intro r es hB hB2
 rw [Rx.cells_eq r]
 have hne := r.nodes_eq
 have hal := Rx.len_le r.args
 refine calls1 (N := 41) Tryd.func60 rfl rfl (by decide) ?_
 refine w_seq ?_
 refine w_region ?_
 refine l_cons rfl (p_box fun s1 => ?_)
 refine l_cons rfl (p_assign ?_)
 refine l_nil ?_
 refine k_seq_normal ?_
 refine w_seq ?_
 refine w_seq ?_
 refine w_region ?_
 refine l_cons rfl (p_fap fa_29_0 ?_)
 refine l_cons rfl (p_loadp ty_3 ?_)
 refine l_nil ?_
 refine k_seq_normal ?_
 refine w_block ?_
 refine w_seq ?_
 refine w_seq ?_
 refine w_region ?_
 refine l_cons rfl (p_cmp ?_)
 refine l_cons rfl (p_assign ?_)
 refine l_nil ?_
 refine k_seq_normal ?_
 refine w_b (fun h1 => ?_) (fun h1 => ?_)
 ·skip
  have h1' := h1; (try simp only [bb] at h1')
  refine w_skip ?_
  refine k_seq_normal ?_
  refine w_t h1 ?_
  refine w_seq ?_
  refine w_region ?_
  refine l_cons rfl (p_assign ?_)
  refine l_nil ?_
  refine k_seq_normal ?_
  refine w_ret ?_
  refine k_blk_ret ?_
  refine k_seq_ret ?_
  exact ret1 rfl ev1 (by first | exact sub1 _ _ | exact kb.sub | exact (kb.push _).sub | exact Sub.refl _) ⟨by rw [null_eq, if_pos (by omega)], rfl⟩
 ·skip
  have h1' := h1; (try simp only [bb] at h1')
  refine w_region ?_
  refine l_cons rfl (p_cmp ?_)
  refine l_cons rfl (p_assign ?_)
  refine l_nil ?_
  refine k_seq_normal ?_
  refine w_b (fun h2 => ?_) (fun h2 => ?_)
  ·skip
   have h2' := h2; (try simp only [bb] at h2')
   refine w_seq ?_
   refine w_region ?_
   refine l_cons rfl (p_assign ?_)
   refine l_nil ?_
   refine k_seq_normal ?_
   refine w_ret ?_
   refine k_blk_ret ?_
   refine k_seq_ret ?_
   exact ret1 rfl ev1 (by first | exact sub1 _ _ | exact kb.sub | exact (kb.push _).sub | exact Sub.refl _) ⟨by rw [null_eq, if_pos (by omega)], rfl⟩
  ·skip
   have h2' := h2; (try simp only [bb] at h2')
   refine w_seq ?_
   refine w_region ?_
   refine l_cons rfl (p_cmp ?_)
   refine l_cons rfl (p_assign ?_)
   refine l_nil ?_
   refine k_seq_normal ?_
   refine w_b (fun h3 => ?_) (fun h3 => ?_)
   ·skip
    have h3' := h3; (try simp only [bb] at h3')
    refine w_seq ?_
    refine w_seq ?_
    refine w_region ?_
    refine l_cons rfl (p_assign ?_)
    refine l_nil ?_
    refine k_seq_normal ?_
    refine w_block ?_
    refine w_loop (fun m f es2 => ∃ k, m = r.args.length - k ∧ k ≤ r.args.length ∧ (∀ j (hj : j < k) (h : j < r.args.length), (r.args[j]).null = true) ∧ es2 = .row s1 29 6 [[.int .i64 r.kind, .int .u64 r.set.w0, .int .u64 r.set.w1, .int .u64 r.set.w2, .int .u64 r.set.w3, .list 6 (r.args.map Rx.cells)]] :: es ∧ Knows f [(1, .ptr es.length s1 0 0), (3, .int .i64 (k : Int))]) (r.args.length) (⟨0, rfl, Nat.zero_le _, fun j hj => absurd hj (Nat.not_lt_zero _), rfl, kn⟩) ?_
    rintro m f es2 ⟨k, rfl, hk1, hk2, rfl, hk⟩
    refine w_pins _ (Sub.refl _) (hk) ?_
    simp only [pins]
    refine w_seq ?_
    refine w_seq ?_
    refine w_region ?_
    refine l_cons rfl (p_move ?_)
    refine l_cons rfl (p_fap fa_29_2 ?_)
    refine l_cons rfl (p_loadp ty_27 ?_)
    refine l_len 14 fun hl2 => ?_
    simp only [List.length_map, most] at hl2
    first | refine l_cons rfl (p_lenl sl_27 ?_) | refine l_cons rfl (p_leno sl_27 ?_) | refine l_cons rfl (p_lenn sl_27 ?_)
    refine l_cons rfl (p_cmp ?_)
    refine l_nil ?_
    refine k_seq_normal ?_
    refine w_b (fun h4 => ?_) (fun h4 => ?_)
    ·skip
     have h4' := h4; (try simp only [bb] at h4')
     refine w_skip ?_
     refine k_seq_normal ?_
     refine w_seq ?_
     refine w_block ?_
     refine w_seq ?_
     refine w_region ?_
     refine l_cons rfl (p_fap fa_29_2 ?_)
     refine l_cons rfl (p_loadp ty_27 ?_)
     refine l_cons rfl (p_move ?_)
     refine l_cons rfl (p_ixl sl_27 (a := .fptr 6 (r.args.map Rx.cells) k 0) ?_ (h0 := by omega) (h1 := by simp only [List.length_map]; omega))
     refine l_cons rfl (p_loadf ty_29 (a := .agg (r.args[k]'(by omega)).cells) ?_ (hr := rxrow_at (l := r.args) (k := k) (by omega)) (hl := Nat.le_refl 6) (ha := rfl))
     refine l_cons rfl (p_callr en_60 (ih (B - 1) (by omega) (r.args[k]'(by omega)) _ (by have := r.nodes_arg (k := k) (by omega); omega) (by omega)) ?_)
     refine l_cons rfl (p_not ?_)
     refine l_nil ?_
     refine k_seq_normal ?_
     refine w_b (fun h5 => ?_) (fun h5 => ?_)
     ·skip
      have h5' := h5; (try simp only [bb] at h5')
      refine w_seq ?_
      refine w_region ?_
      refine l_cons rfl (p_assign ?_)
      refine l_nil ?_
      refine k_seq_normal ?_
      refine w_ret ?_
      refine k_blk_ret ?_
      refine k_seq_ret ?_
      refine k_seq_ret ?_
      refine k_blk_ret ?_
      refine k_seq_ret ?_
      refine k_blk_ret ?_
      refine k_seq_ret ?_
      exact ret1 rfl ev1 (by first | exact sub1 _ _ | exact kb.sub | exact (kb.push _).sub | exact Sub.refl _) ⟨by rw [null_eq, if_neg (by omega), if_pos (by omega), rall_no (k := k) (by omega) (by assumption)], rfl⟩
     ·skip
      have h5' := h5; (try simp only [bb] at h5')
      refine w_skip ?_
      refine k_blk_normal ?_
      refine k_seq_normal ?_
      refine w_region ?_
      refine l_cons rfl (p_move ?_)
      refine l_cons rfl (p_arith ?_)
      refine l_cons rfl (p_assign ?_)
      refine l_nil ?_
      refine k_seq_normal ?_
      exact ⟨r.args.length - (k + 1), by omega, k + 1, rfl, by omega, next_true (p := Rx.null) (by omega) hk2 (by assumption), rfl, kn⟩
    ·skip
     have h4' := h4; (try simp only [bb] at h4')
     refine w_exit ?_
     refine k_seq_exit ?_
     refine k_seq_exit ?_
     refine k_blk_here ?_
     refine k_seq_normal ?_
     refine w_seq ?_
     refine w_region ?_
     refine l_cons rfl (p_assign ?_)
     refine l_nil ?_
     refine k_seq_normal ?_
     refine w_ret ?_
     refine k_blk_ret ?_
     refine k_seq_ret ?_
     exact ret1 rfl ev1 (by first | exact sub1 _ _ | exact kb.sub | exact (kb.push _).sub | exact Sub.refl _) ⟨by rw [null_eq, if_neg (by omega), if_pos (by omega), rall_yes (fun j hj h => hk2 j (by omega) h)], rfl⟩
   ·skip
    have h3' := h3; (try simp only [bb] at h3')
    refine w_seq ?_
    refine w_region ?_
    refine l_cons rfl (p_cmp ?_)
    refine l_cons rfl (p_assign ?_)
    refine l_nil ?_
    refine k_seq_normal ?_
    refine w_b (fun h6 => ?_) (fun h6 => ?_)
    ·skip
     have h6' := h6; (try simp only [bb] at h6')
     refine w_seq ?_
     refine w_region ?_
     refine l_cons rfl (p_assign ?_)
     refine l_nil ?_
     refine k_seq_normal ?_
     refine w_block ?_
     refine w_loop (fun m f es2 => ∃ k, m = r.args.length - k ∧ k ≤ r.args.length ∧ (∀ j (hj : j < k) (h : j < r.args.length), (r.args[j]).null = false) ∧ es2 = .row s1 29 6 [[.int .i64 r.kind, .int .u64 r.set.w0, .int .u64 r.set.w1, .int .u64 r.set.w2, .int .u64 r.set.w3, .list 6 (r.args.map Rx.cells)]] :: es ∧ Knows f [(1, .ptr es.length s1 0 0), (4, .int .i64 (k : Int))]) (r.args.length) (⟨0, rfl, Nat.zero_le _, fun j hj => absurd hj (Nat.not_lt_zero _), rfl, kn⟩) ?_
     rintro m f es2 ⟨k, rfl, hk1, hk2, rfl, hk⟩
     refine w_pins _ (Sub.refl _) (hk) ?_
     simp only [pins]
     refine w_seq ?_
     refine w_seq ?_
     refine w_region ?_
     refine l_cons rfl (p_move ?_)
     refine l_cons rfl (p_fap fa_29_2 ?_)
     refine l_cons rfl (p_loadp ty_27 ?_)
     refine l_len 30 fun hl2 => ?_
     simp only [List.length_map, most] at hl2
     first | refine l_cons rfl (p_lenl sl_27 ?_) | refine l_cons rfl (p_leno sl_27 ?_) | refine l_cons rfl (p_lenn sl_27 ?_)
     refine l_cons rfl (p_cmp ?_)
     refine l_nil ?_
     refine k_seq_normal ?_
     refine w_b (fun h7 => ?_) (fun h7 => ?_)
     ·skip
      have h7' := h7; (try simp only [bb] at h7')
      refine w_skip ?_
      refine k_seq_normal ?_
      refine w_seq ?_
      refine w_block ?_
      refine w_seq ?_
      refine w_region ?_
      refine l_cons rfl (p_fap fa_29_2 ?_)
      refine l_cons rfl (p_loadp ty_27 ?_)
      refine l_cons rfl (p_move ?_)
      refine l_cons rfl (p_ixl sl_27 (a := .fptr 6 (r.args.map Rx.cells) k 0) ?_ (h0 := by omega) (h1 := by simp only [List.length_map]; omega))
      refine l_cons rfl (p_loadf ty_29 (a := .agg (r.args[k]'(by omega)).cells) ?_ (hr := rxrow_at (l := r.args) (k := k) (by omega)) (hl := Nat.le_refl 6) (ha := rfl))
      refine l_cons rfl (p_callr en_60 (ih (B - 1) (by omega) (r.args[k]'(by omega)) _ (by have := r.nodes_arg (k := k) (by omega); omega) (by omega)) ?_)
      refine l_nil ?_
      refine k_seq_normal ?_
      refine w_b (fun h8 => ?_) (fun h8 => ?_)
      ·skip
       have h8' := h8; (try simp only [bb] at h8')
       refine w_seq ?_
       refine w_region ?_
       refine l_cons rfl (p_assign ?_)
       refine l_nil ?_
       refine k_seq_normal ?_
       refine w_ret ?_
       refine k_blk_ret ?_
       refine k_seq_ret ?_
       refine k_seq_ret ?_
       refine k_blk_ret ?_
       refine k_blk_ret ?_
       refine k_seq_ret ?_
       exact ret1 rfl ev1 (by first | exact sub1 _ _ | exact kb.sub | exact (kb.push _).sub | exact Sub.refl _) ⟨by rw [null_eq, if_neg (by omega), if_neg (by omega), if_pos (by omega), rany_yes (k := k) (by omega) (by assumption)], rfl⟩
      ·skip
       have h8' := h8; (try simp only [bb] at h8')
       refine w_skip ?_
       refine k_blk_normal ?_
       refine k_seq_normal ?_
       refine w_region ?_
       refine l_cons rfl (p_move ?_)
       refine l_cons rfl (p_arith ?_)
       refine l_cons rfl (p_assign ?_)
       refine l_nil ?_
       refine k_seq_normal ?_
       exact ⟨r.args.length - (k + 1), by omega, k + 1, rfl, by omega, next_true (p := Rx.null) (by omega) hk2 (by assumption), rfl, kn⟩
     ·skip
      have h7' := h7; (try simp only [bb] at h7')
      refine w_exit ?_
      refine k_seq_exit ?_
      refine k_seq_exit ?_
      refine k_blk_here ?_
      refine k_blk_normal ?_
      refine k_seq_normal ?_
      refine w_seq ?_
      refine w_region ?_
      refine l_cons rfl (p_assign ?_)
      refine l_nil ?_
      refine k_seq_normal ?_
      refine w_ret ?_
      first
      | exact ret1 rfl ev1 (by first | exact sub1 _ _ | exact kb.sub | exact (kb.push _).sub | exact Sub.refl _) ⟨by rw [null_eq, if_neg (by omega), if_neg (by omega), if_pos (by omega), rany_no (fun j hj h => hk2 j (by omega) h)], rfl⟩
      | exact ret1 rfl ev1 (by first | exact sub1 _ _ | exact kb.sub | exact (kb.push _).sub | exact Sub.refl _) ⟨by rw [null_eq, if_neg (by omega), if_neg (by omega), if_neg (by omega)], rfl⟩
    ·skip
     have h6' := h6; (try simp only [bb] at h6')
     refine w_skip ?_
     refine k_blk_normal ?_
     refine k_seq_normal ?_
     refine w_seq ?_
     refine w_region ?_
     refine l_cons rfl (p_assign ?_)
     refine l_nil ?_
     refine k_seq_normal ?_
     refine w_ret ?_
     first
     | exact ret1 rfl ev1 (by first | exact sub1 _ _ | exact kb.sub | exact (kb.push _).sub | exact Sub.refl _) ⟨by rw [null_eq, if_neg (by omega), if_neg (by omega), if_pos (by omega), rany_no (fun j hj h => hk2 j (by omega) h)], rfl⟩
     | exact ret1 rfl ev1 (by first | exact sub1 _ _ | exact kb.sub | exact (kb.push _).sub | exact Sub.refl _) ⟨by rw [null_eq, if_neg (by omega), if_neg (by omega), if_neg (by omega)], rfl⟩
theorem some_walk {w0 : World} : ∀ (B : Nat) (r : Rx) (es : List Ent), r.nodes ≤ B → B ≤ 1048576 → ACalls Tryd.prog w0 98 [.agg r.cells] es fun v es' => v = .bool r.some ∧ es' = es := by
 intro B
 induction B using Nat.strongRecOn with
 | _ B ih => ?_
 intro r es hB hB2
 rw [Rx.cells_eq r]
 have hne := r.nodes_eq
 have hal := Rx.len_le r.args
 refine calls1 (N := 43) Tryd.func98 rfl rfl (by decide) ?_
 refine w_seq ?_
 refine w_region ?_
 refine l_cons rfl (p_box fun s1 => ?_)
 refine l_cons rfl (p_assign ?_)
 refine l_nil ?_
 refine k_seq_normal ?_
 refine w_seq ?_
 refine w_seq ?_
 refine w_region ?_
 refine l_cons rfl (p_fap fa_29_0 ?_)
 refine l_cons rfl (p_loadp ty_3 ?_)
 refine l_nil ?_
 refine k_seq_normal ?_
 refine w_block ?_
 refine w_seq ?_
 refine w_seq ?_
 refine w_region ?_
 refine l_cons rfl (p_cmp ?_)
 refine l_cons rfl (p_assign ?_)
 refine l_nil ?_
 refine k_seq_normal ?_
 refine w_b (fun h1 => ?_) (fun h1 => ?_)
 ·skip
  have h1' := h1; (try simp only [bb] at h1')
  refine w_skip ?_
  refine k_seq_normal ?_
  refine w_t h1 ?_
  refine w_seq ?_
  refine w_region ?_
  refine l_cons rfl (p_assign ?_)
  refine l_nil ?_
  refine k_seq_normal ?_
  refine w_ret ?_
  refine k_blk_ret ?_
  refine k_seq_ret ?_
  exact ret1 rfl ev1 (by first | exact sub1 _ _ | exact kb.sub | exact (kb.push _).sub | exact Sub.refl _) ⟨by rw [some_eq, if_pos (by omega)], rfl⟩
 ·skip
  have h1' := h1; (try simp only [bb] at h1')
  refine w_region ?_
  refine l_cons rfl (p_cmp ?_)
  refine l_cons rfl (p_assign ?_)
  refine l_nil ?_
  refine k_seq_normal ?_
  refine w_b (fun h2 => ?_) (fun h2 => ?_)
  ·skip
   have h2' := h2; (try simp only [bb] at h2')
   refine w_seq ?_
   refine w_region ?_
   refine l_cons rfl (p_assign ?_)
   refine l_nil ?_
   refine k_seq_normal ?_
   refine w_ret ?_
   refine k_blk_ret ?_
   refine k_seq_ret ?_
   exact ret1 rfl ev1 (by first | exact sub1 _ _ | exact kb.sub | exact (kb.push _).sub | exact Sub.refl _) ⟨by rw [some_eq, if_pos (by omega)], rfl⟩
  ·skip
   have h2' := h2; (try simp only [bb] at h2')
   refine w_seq ?_
   refine w_region ?_
   refine l_cons rfl (p_cmp ?_)
   refine l_cons rfl (p_assign ?_)
   refine l_nil ?_
   refine k_seq_normal ?_
   refine w_b (fun h3 => ?_) (fun h3 => ?_)
   ·skip
    have h3' := h3; (try simp only [bb] at h3')
    refine w_seq ?_
    refine w_region ?_
    refine l_cons rfl (p_fap fa_29_1 ?_)
    refine l_cons rfl (p_loadp ty_26 (a := .agg r.set.row) ?_ (hl := Nat.le_of_ble_eq_true rfl) (ha := rfl))
    refine l_cons rfl (p_buildArr ze_26 ar_26 ?_)
    refine l_cons rfl (p_nea ai_26 ?_ (hb := neA r.set noSet))
    refine l_cons rfl (p_assign ?_)
    refine l_nil ?_
    refine k_seq_normal ?_
    refine w_ret ?_
    refine k_blk_ret ?_
    refine k_seq_ret ?_
    exact ret1 rfl ev1 (by first | exact sub1 _ _ | exact kb.sub | exact (kb.push _).sub | exact Sub.refl _) ⟨by rw [some_eq, if_neg (by omega), if_pos (by omega)], rfl⟩
   ·skip
    have h3' := h3; (try simp only [bb] at h3')
    refine w_seq ?_
    refine w_region ?_
    refine l_cons rfl (p_cmp ?_)
    refine l_cons rfl (p_assign ?_)
    refine l_nil ?_
    refine k_seq_normal ?_
    refine w_b (fun h4 => ?_) (fun h4 => ?_)
    ·skip
     have h4' := h4; (try simp only [bb] at h4')
     refine w_seq ?_
     refine w_seq ?_
     refine w_region ?_
     refine l_cons rfl (p_fap fa_29_2 ?_)
     refine l_cons rfl (p_loadp ty_27 ?_)
     first | refine l_cons rfl (p_lenl sl_27 ?_) | refine l_cons rfl (p_leno sl_27 ?_) | refine l_cons rfl (p_lenn sl_27 ?_)
     refine l_len 21 fun hl2 => ?_
     simp only [List.length_map, most] at hl2
     refine l_cons rfl (p_move ?_)
     refine l_nil ?_
     refine k_seq_normal ?_
     refine w_block ?_
     refine w_loop (fun m f es2 => ∃ k, m = r.args.length - k ∧ k ≤ r.args.length ∧ (∀ j (hj : j < k) (h : j < r.args.length), (r.args[j]).some = true) ∧ KB es es2 ∧ Knows f [(21, .list 6 (r.args.map Rx.cells)), (22, .int .i64 (r.args.length : Int)), (23, .int .i64 (k : Int))]) (r.args.length) (⟨0, rfl, Nat.zero_le _, fun j hj => absurd hj (Nat.not_lt_zero _), (KB.refl _).push _, by simp only [List.length_map, Knows, put, upd_apply, Nat.reduceEqDiff, ↓reduceIte, and_true, true_and, eq_self] <;> and_intros <;> rfl⟩) ?_
     rintro m f es2 ⟨k, rfl, hk1, hk2, kb, hk⟩
     refine w_pins _ (Sub.refl _) (hk) ?_
     simp only [pins]
     refine w_seq ?_
     refine w_region ?_
     refine l_cons rfl (p_cmp ?_)
     refine l_nil ?_
     refine k_seq_normal ?_
     refine w_seq ?_
     refine w_b (fun h5 => ?_) (fun h5 => ?_)
     ·skip
      have h5' := h5; (try simp only [bb] at h5')
      refine w_skip ?_
      refine k_seq_normal ?_
      refine w_seq ?_
      refine w_block ?_
      refine w_seq ?_
      refine w_region ?_
      refine l_cons rfl (p_ixl sl_27 (a := .fptr 6 (r.args.map Rx.cells) k 0) ?_ (h0 := by omega) (h1 := by simp only [List.length_map]; omega))
      refine l_cons rfl (p_loadf ty_29 (a := .agg (r.args[k]'(by omega)).cells) ?_ (hr := rxrow_at (l := r.args) (k := k) (by omega)) (hl := Nat.le_refl 6) (ha := rfl))
      refine l_cons rfl (p_alloc ze_29 fun s4 => ?_)
      refine l_cons rfl (p_store ty_29 ?_)
      refine l_nil ?_
      refine k_seq_normal ?_
      refine w_seq ?_
      refine w_region ?_
      refine l_cons rfl (p_loadp ty_29 ?_)
      refine l_cons rfl (p_callr en_98 (ih (B - 1) (by omega) (r.args[k]'(by omega)) _ (by have := r.nodes_arg (k := k) (by omega); omega) (by omega)) ?_)
      refine l_cons rfl (p_not ?_)
      refine l_nil ?_
      refine k_seq_normal ?_
      refine w_b (fun h6 => ?_) (fun h6 => ?_)
      ·skip
       have h6' := h6; (try simp only [bb] at h6')
       refine w_seq ?_
       refine w_region ?_
       refine l_cons rfl (p_assign ?_)
       refine l_nil ?_
       refine k_seq_normal ?_
       refine w_ret ?_
       refine k_blk_ret ?_
       refine k_seq_ret ?_
       refine k_seq_ret ?_
       refine k_blk_ret ?_
       refine k_seq_ret ?_
       refine k_blk_ret ?_
       refine k_seq_ret ?_
       exact ret1 rfl ev1 (by first | exact sub1 _ _ | exact kb.sub | exact (kb.push _).sub | exact Sub.refl _) ⟨by rw [some_eq, if_neg (by omega), if_neg (by omega), if_pos (by omega), rall_no (k := k) (by omega) (by assumption)], rfl⟩
      ·skip
       have h6' := h6; (try simp only [bb] at h6')
       refine w_skip ?_
       refine k_blk_normal ?_
       refine k_seq_normal ?_
       refine w_region ?_
       refine l_cons rfl (p_arith ?_)
       refine l_cons rfl (p_move ?_)
       refine l_nil ?_
       refine k_seq_normal ?_
       exact ⟨r.args.length - (k + 1), by omega, k + 1, rfl, by omega, next_true (p := Rx.some) (by omega) hk2 (by assumption), (kb.push _), kn⟩
     ·skip
      have h5' := h5; (try simp only [bb] at h5')
      refine w_exit ?_
      refine k_seq_exit ?_
      refine k_seq_exit ?_
      refine k_blk_here ?_
      refine k_seq_normal ?_
      refine w_seq ?_
      refine w_region ?_
      refine l_cons rfl (p_assign ?_)
      refine l_nil ?_
      refine k_seq_normal ?_
      refine w_ret ?_
      refine k_blk_ret ?_
      refine k_seq_ret ?_
      exact ret1 rfl ev1 (by first | exact sub1 _ _ | exact kb.sub | exact (kb.push _).sub | exact Sub.refl _) ⟨by rw [some_eq, if_neg (by omega), if_neg (by omega), if_pos (by omega), rall_yes (fun j hj h => hk2 j (by omega) h)], rfl⟩
    ·skip
     have h4' := h4; (try simp only [bb] at h4')
     refine w_seq ?_
     refine w_region ?_
     refine l_cons rfl (p_cmp ?_)
     refine l_cons rfl (p_assign ?_)
     refine l_nil ?_
     refine k_seq_normal ?_
     refine w_b (fun h7 => ?_) (fun h7 => ?_)
     ·skip
      have h7' := h7; (try simp only [bb] at h7')
      refine w_seq ?_
      refine w_region ?_
      refine l_cons rfl (p_fap fa_29_2 ?_)
      refine l_cons rfl (p_loadp ty_27 ?_)
      first | refine l_cons rfl (p_lenl sl_27 ?_) | refine l_cons rfl (p_leno sl_27 ?_) | refine l_cons rfl (p_lenn sl_27 ?_)
      refine l_len 34 fun hl2 => ?_
      simp only [List.length_map, most] at hl2
      refine l_cons rfl (p_move ?_)
      refine l_nil ?_
      refine k_seq_normal ?_
      refine w_block ?_
      refine w_loop (fun m f es2 => ∃ k, m = r.args.length - k ∧ k ≤ r.args.length ∧ (∀ j (hj : j < k) (h : j < r.args.length), (r.args[j]).some = false) ∧ KB es es2 ∧ Knows f [(34, .list 6 (r.args.map Rx.cells)), (35, .int .i64 (r.args.length : Int)), (36, .int .i64 (k : Int))]) (r.args.length) (⟨0, rfl, Nat.zero_le _, fun j hj => absurd hj (Nat.not_lt_zero _), (KB.refl _).push _, by simp only [List.length_map, Knows, put, upd_apply, Nat.reduceEqDiff, ↓reduceIte, and_true, true_and, eq_self] <;> and_intros <;> rfl⟩) ?_
      rintro m f es2 ⟨k, rfl, hk1, hk2, kb, hk⟩
      refine w_pins _ (Sub.refl _) (hk) ?_
      simp only [pins]
      refine w_seq ?_
      refine w_region ?_
      refine l_cons rfl (p_cmp ?_)
      refine l_nil ?_
      refine k_seq_normal ?_
      refine w_seq ?_
      refine w_b (fun h8 => ?_) (fun h8 => ?_)
      ·skip
       have h8' := h8; (try simp only [bb] at h8')
       refine w_skip ?_
       refine k_seq_normal ?_
       refine w_seq ?_
       refine w_block ?_
       refine w_seq ?_
       refine w_region ?_
       refine l_cons rfl (p_ixl sl_27 (a := .fptr 6 (r.args.map Rx.cells) k 0) ?_ (h0 := by omega) (h1 := by simp only [List.length_map]; omega))
       refine l_cons rfl (p_loadf ty_29 (a := .agg (r.args[k]'(by omega)).cells) ?_ (hr := rxrow_at (l := r.args) (k := k) (by omega)) (hl := Nat.le_refl 6) (ha := rfl))
       refine l_cons rfl (p_alloc ze_29 fun s6 => ?_)
       refine l_cons rfl (p_store ty_29 ?_)
       refine l_nil ?_
       refine k_seq_normal ?_
       refine w_seq ?_
       refine w_region ?_
       refine l_cons rfl (p_loadp ty_29 ?_)
       refine l_cons rfl (p_callr en_98 (ih (B - 1) (by omega) (r.args[k]'(by omega)) _ (by have := r.nodes_arg (k := k) (by omega); omega) (by omega)) ?_)
       refine l_nil ?_
       refine k_seq_normal ?_
       refine w_b (fun h9 => ?_) (fun h9 => ?_)
       ·skip
        have h9' := h9; (try simp only [bb] at h9')
        refine w_seq ?_
        refine w_region ?_
        refine l_cons rfl (p_assign ?_)
        refine l_nil ?_
        refine k_seq_normal ?_
        refine w_ret ?_
        refine k_blk_ret ?_
        refine k_seq_ret ?_
        refine k_seq_ret ?_
        refine k_blk_ret ?_
        refine k_blk_ret ?_
        refine k_seq_ret ?_
        exact ret1 rfl ev1 (by first | exact sub1 _ _ | exact kb.sub | exact (kb.push _).sub | exact Sub.refl _) ⟨by rw [some_eq, if_neg (by omega), if_neg (by omega), if_neg (by omega), if_pos (by omega), rany_yes (k := k) (by omega) (by assumption)], rfl⟩
       ·skip
        have h9' := h9; (try simp only [bb] at h9')
        refine w_skip ?_
        refine k_blk_normal ?_
        refine k_seq_normal ?_
        refine w_region ?_
        refine l_cons rfl (p_arith ?_)
        refine l_cons rfl (p_move ?_)
        refine l_nil ?_
        refine k_seq_normal ?_
        exact ⟨r.args.length - (k + 1), by omega, k + 1, rfl, by omega, next_true (p := Rx.some) (by omega) hk2 (by assumption), (kb.push _), kn⟩
      ·skip
       have h8' := h8; (try simp only [bb] at h8')
       refine w_exit ?_
       refine k_seq_exit ?_
       refine k_seq_exit ?_
       refine k_blk_here ?_
       refine k_blk_normal ?_
       refine k_seq_normal ?_
       refine w_seq ?_
       refine w_region ?_
       refine l_cons rfl (p_assign ?_)
       refine l_nil ?_
       refine k_seq_normal ?_
       refine w_ret ?_
       first
       | exact ret1 rfl ev1 (by first | exact sub1 _ _ | exact kb.sub | exact (kb.push _).sub | exact Sub.refl _) ⟨by rw [some_eq, if_neg (by omega), if_neg (by omega), if_neg (by omega), if_pos (by omega), rany_no (fun j hj h => hk2 j (by omega) h)], rfl⟩
       | exact ret1 rfl ev1 (by first | exact sub1 _ _ | exact kb.sub | exact (kb.push _).sub | exact Sub.refl _) ⟨by rw [some_eq, if_neg (by omega), if_neg (by omega), if_neg (by omega), if_neg (by omega)], rfl⟩
     ·skip
      have h7' := h7; (try simp only [bb] at h7')
      refine w_skip ?_
      refine k_blk_normal ?_
      refine k_seq_normal ?_
      refine w_seq ?_
      refine w_region ?_
      refine l_cons rfl (p_assign ?_)
      refine l_nil ?_
      refine k_seq_normal ?_
      refine w_ret ?_
      first
      | exact ret1 rfl ev1 (by first | exact sub1 _ _ | exact kb.sub | exact (kb.push _).sub | exact Sub.refl _) ⟨by rw [some_eq, if_neg (by omega), if_neg (by omega), if_neg (by omega), if_pos (by omega), rany_no (fun j hj h => hk2 j (by omega) h)], rfl⟩
      | exact ret1 rfl ev1 (by first | exact sub1 _ _ | exact kb.sub | exact (kb.push _).sub | exact Sub.refl _) ⟨by rw [some_eq, if_neg (by omega), if_neg (by omega), if_neg (by omega), if_neg (by omega)], rfl⟩
theorem refSome {w0 : World} : ∀ (B : Nat) (r : Rx) (es : List Ent), r.nodes ≤ B → B ≤ 1048576 → ACalls Tryd.prog w0 99 [.agg r.cells] es fun v es' => v = .bool r.some ∧ es' = es := by
 intro B
 induction B using Nat.strongRecOn with
 | _ B ih => ?_
 intro r es hB hB2
 rw [Rx.cells_eq r]
 have hne := r.nodes_eq
 have hal := Rx.len_le r.args
 refine calls1 (N := 47) Tryd.func99 rfl rfl (by decide) ?_
 refine w_seq ?_
 refine w_region ?_
 refine l_cons rfl (p_box fun s1 => ?_)
 refine l_cons rfl (p_assign ?_)
 refine l_nil ?_
 refine k_seq_normal ?_
 refine w_seq ?_
 refine w_seq ?_
 refine w_region ?_
 refine l_cons rfl (p_fap fa_29_0 ?_)
 refine l_cons rfl (p_loadp ty_3 ?_)
 refine l_nil ?_
 refine k_seq_normal ?_
 refine w_block ?_
 refine w_seq ?_
 refine w_seq ?_
 refine w_region ?_
 refine l_cons rfl (p_cmp ?_)
 refine l_cons rfl (p_assign ?_)
 refine l_nil ?_
 refine k_seq_normal ?_
 refine w_b (fun h1 => ?_) (fun h1 => ?_)
 ·skip
  have h1' := h1; (try simp only [bb] at h1')
  refine w_skip ?_
  refine k_seq_normal ?_
  refine w_t h1 ?_
  refine w_seq ?_
  refine w_region ?_
  refine l_cons rfl (p_assign ?_)
  refine l_nil ?_
  refine k_seq_normal ?_
  refine w_ret ?_
  refine k_blk_ret ?_
  refine k_seq_ret ?_
  exact ret1 rfl ev1 (by first | exact sub1 _ _ | exact kb.sub | exact (kb.push _).sub | exact Sub.refl _) ⟨by rw [some_eq, if_pos (by omega)], rfl⟩
 ·skip
  have h1' := h1; (try simp only [bb] at h1')
  refine w_region ?_
  refine l_cons rfl (p_cmp ?_)
  refine l_cons rfl (p_assign ?_)
  refine l_nil ?_
  refine k_seq_normal ?_
  refine w_b (fun h2 => ?_) (fun h2 => ?_)
  ·skip
   have h2' := h2; (try simp only [bb] at h2')
   refine w_seq ?_
   refine w_region ?_
   refine l_cons rfl (p_assign ?_)
   refine l_nil ?_
   refine k_seq_normal ?_
   refine w_ret ?_
   refine k_blk_ret ?_
   refine k_seq_ret ?_
   exact ret1 rfl ev1 (by first | exact sub1 _ _ | exact kb.sub | exact (kb.push _).sub | exact Sub.refl _) ⟨by rw [some_eq, if_pos (by omega)], rfl⟩
  ·skip
   have h2' := h2; (try simp only [bb] at h2')
   refine w_seq ?_
   refine w_region ?_
   refine l_cons rfl (p_cmp ?_)
   refine l_cons rfl (p_assign ?_)
   refine l_nil ?_
   refine k_seq_normal ?_
   refine w_b (fun h3 => ?_) (fun h3 => ?_)
   ·skip
    have h3' := h3; (try simp only [bb] at h3')
    refine w_seq ?_
    refine w_region ?_
    refine l_cons rfl (p_fap fa_29_1 ?_)
    refine l_cons rfl (p_loadp ty_26 (a := .agg r.set.row) ?_ (hl := Nat.le_of_ble_eq_true rfl) (ha := rfl))
    refine l_cons rfl (p_buildArr ze_26 ar_26 ?_)
    refine l_cons rfl (p_nea ai_26 ?_ (hb := neA r.set noSet))
    refine l_cons rfl (p_assign ?_)
    refine l_nil ?_
    refine k_seq_normal ?_
    refine w_ret ?_
    refine k_blk_ret ?_
    refine k_seq_ret ?_
    exact ret1 rfl ev1 (by first | exact sub1 _ _ | exact kb.sub | exact (kb.push _).sub | exact Sub.refl _) ⟨by rw [some_eq, if_neg (by omega), if_pos (by omega)], rfl⟩
   ·skip
    have h3' := h3; (try simp only [bb] at h3')
    refine w_seq ?_
    refine w_region ?_
    refine l_cons rfl (p_cmp ?_)
    refine l_cons rfl (p_assign ?_)
    refine l_nil ?_
    refine k_seq_normal ?_
    refine w_b (fun h4 => ?_) (fun h4 => ?_)
    ·skip
     have h4' := h4; (try simp only [bb] at h4')
     refine w_seq ?_
     refine w_seq ?_
     refine w_region ?_
     refine l_cons rfl (p_assign ?_)
     refine l_nil ?_
     refine k_seq_normal ?_
     refine w_block ?_
     refine w_loop (fun m f es2 => ∃ k, m = r.args.length - k ∧ k ≤ r.args.length ∧ (∀ j (hj : j < k) (h : j < r.args.length), (r.args[j]).some = true) ∧ es2 = .row s1 29 6 [[.int .i64 r.kind, .int .u64 r.set.w0, .int .u64 r.set.w1, .int .u64 r.set.w2, .int .u64 r.set.w3, .list 6 (r.args.map Rx.cells)]] :: es ∧ Knows f [(1, .ptr es.length s1 0 0), (3, .int .i64 (k : Int))]) (r.args.length) (⟨0, rfl, Nat.zero_le _, fun j hj => absurd hj (Nat.not_lt_zero _), rfl, kn⟩) ?_
     rintro m f es2 ⟨k, rfl, hk1, hk2, rfl, hk⟩
     refine w_pins _ (Sub.refl _) (hk) ?_
     simp only [pins]
     refine w_seq ?_
     refine w_seq ?_
     refine w_region ?_
     refine l_cons rfl (p_move ?_)
     refine l_cons rfl (p_fap fa_29_2 ?_)
     refine l_cons rfl (p_loadp ty_27 ?_)
     refine l_len 20 fun hl2 => ?_
     simp only [List.length_map, most] at hl2
     first | refine l_cons rfl (p_lenl sl_27 ?_) | refine l_cons rfl (p_leno sl_27 ?_) | refine l_cons rfl (p_lenn sl_27 ?_)
     refine l_cons rfl (p_cmp ?_)
     refine l_nil ?_
     refine k_seq_normal ?_
     refine w_b (fun h5 => ?_) (fun h5 => ?_)
     ·skip
      have h5' := h5; (try simp only [bb] at h5')
      refine w_skip ?_
      refine k_seq_normal ?_
      refine w_seq ?_
      refine w_block ?_
      refine w_seq ?_
      refine w_region ?_
      refine l_cons rfl (p_fap fa_29_2 ?_)
      refine l_cons rfl (p_loadp ty_27 ?_)
      refine l_cons rfl (p_move ?_)
      refine l_cons rfl (p_ixl sl_27 (a := .fptr 6 (r.args.map Rx.cells) k 0) ?_ (h0 := by omega) (h1 := by simp only [List.length_map]; omega))
      refine l_cons rfl (p_loadf ty_29 (a := .agg (r.args[k]'(by omega)).cells) ?_ (hr := rxrow_at (l := r.args) (k := k) (by omega)) (hl := Nat.le_refl 6) (ha := rfl))
      refine l_cons rfl (p_callr en_99 (ih (B - 1) (by omega) (r.args[k]'(by omega)) _ (by have := r.nodes_arg (k := k) (by omega); omega) (by omega)) ?_)
      refine l_cons rfl (p_not ?_)
      refine l_nil ?_
      refine k_seq_normal ?_
      refine w_b (fun h6 => ?_) (fun h6 => ?_)
      ·skip
       have h6' := h6; (try simp only [bb] at h6')
       refine w_seq ?_
       refine w_region ?_
       refine l_cons rfl (p_assign ?_)
       refine l_nil ?_
       refine k_seq_normal ?_
       refine w_ret ?_
       refine k_blk_ret ?_
       refine k_seq_ret ?_
       refine k_seq_ret ?_
       refine k_blk_ret ?_
       refine k_seq_ret ?_
       refine k_blk_ret ?_
       refine k_seq_ret ?_
       exact ret1 rfl ev1 (by first | exact sub1 _ _ | exact kb.sub | exact (kb.push _).sub | exact Sub.refl _) ⟨by rw [some_eq, if_neg (by omega), if_neg (by omega), if_pos (by omega), rall_no (k := k) (by omega) (by assumption)], rfl⟩
      ·skip
       have h6' := h6; (try simp only [bb] at h6')
       refine w_skip ?_
       refine k_blk_normal ?_
       refine k_seq_normal ?_
       refine w_region ?_
       refine l_cons rfl (p_move ?_)
       refine l_cons rfl (p_arith ?_)
       refine l_cons rfl (p_assign ?_)
       refine l_nil ?_
       refine k_seq_normal ?_
       exact ⟨r.args.length - (k + 1), by omega, k + 1, rfl, by omega, next_true (p := Rx.some) (by omega) hk2 (by assumption), rfl, kn⟩
     ·skip
      have h5' := h5; (try simp only [bb] at h5')
      refine w_exit ?_
      refine k_seq_exit ?_
      refine k_seq_exit ?_
      refine k_blk_here ?_
      refine k_seq_normal ?_
      refine w_seq ?_
      refine w_region ?_
      refine l_cons rfl (p_assign ?_)
      refine l_nil ?_
      refine k_seq_normal ?_
      refine w_ret ?_
      refine k_blk_ret ?_
      refine k_seq_ret ?_
      exact ret1 rfl ev1 (by first | exact sub1 _ _ | exact kb.sub | exact (kb.push _).sub | exact Sub.refl _) ⟨by rw [some_eq, if_neg (by omega), if_neg (by omega), if_pos (by omega), rall_yes (fun j hj h => hk2 j (by omega) h)], rfl⟩
    ·skip
     have h4' := h4; (try simp only [bb] at h4')
     refine w_seq ?_
     refine w_region ?_
     refine l_cons rfl (p_cmp ?_)
     refine l_cons rfl (p_assign ?_)
     refine l_nil ?_
     refine k_seq_normal ?_
     refine w_b (fun h7 => ?_) (fun h7 => ?_)
     ·skip
      have h7' := h7; (try simp only [bb] at h7')
      refine w_seq ?_
      refine w_region ?_
      refine l_cons rfl (p_assign ?_)
      refine l_nil ?_
      refine k_seq_normal ?_
      refine w_block ?_
      refine w_loop (fun m f es2 => ∃ k, m = r.args.length - k ∧ k ≤ r.args.length ∧ (∀ j (hj : j < k) (h : j < r.args.length), (r.args[j]).some = false) ∧ es2 = .row s1 29 6 [[.int .i64 r.kind, .int .u64 r.set.w0, .int .u64 r.set.w1, .int .u64 r.set.w2, .int .u64 r.set.w3, .list 6 (r.args.map Rx.cells)]] :: es ∧ Knows f [(1, .ptr es.length s1 0 0), (4, .int .i64 (k : Int))]) (r.args.length) (⟨0, rfl, Nat.zero_le _, fun j hj => absurd hj (Nat.not_lt_zero _), rfl, kn⟩) ?_
      rintro m f es2 ⟨k, rfl, hk1, hk2, rfl, hk⟩
      refine w_pins _ (Sub.refl _) (hk) ?_
      simp only [pins]
      refine w_seq ?_
      refine w_seq ?_
      refine w_region ?_
      refine l_cons rfl (p_move ?_)
      refine l_cons rfl (p_fap fa_29_2 ?_)
      refine l_cons rfl (p_loadp ty_27 ?_)
      refine l_len 36 fun hl2 => ?_
      simp only [List.length_map, most] at hl2
      first | refine l_cons rfl (p_lenl sl_27 ?_) | refine l_cons rfl (p_leno sl_27 ?_) | refine l_cons rfl (p_lenn sl_27 ?_)
      refine l_cons rfl (p_cmp ?_)
      refine l_nil ?_
      refine k_seq_normal ?_
      refine w_b (fun h8 => ?_) (fun h8 => ?_)
      ·skip
       have h8' := h8; (try simp only [bb] at h8')
       refine w_skip ?_
       refine k_seq_normal ?_
       refine w_seq ?_
       refine w_block ?_
       refine w_seq ?_
       refine w_region ?_
       refine l_cons rfl (p_fap fa_29_2 ?_)
       refine l_cons rfl (p_loadp ty_27 ?_)
       refine l_cons rfl (p_move ?_)
       refine l_cons rfl (p_ixl sl_27 (a := .fptr 6 (r.args.map Rx.cells) k 0) ?_ (h0 := by omega) (h1 := by simp only [List.length_map]; omega))
       refine l_cons rfl (p_loadf ty_29 (a := .agg (r.args[k]'(by omega)).cells) ?_ (hr := rxrow_at (l := r.args) (k := k) (by omega)) (hl := Nat.le_refl 6) (ha := rfl))
       refine l_cons rfl (p_callr en_99 (ih (B - 1) (by omega) (r.args[k]'(by omega)) _ (by have := r.nodes_arg (k := k) (by omega); omega) (by omega)) ?_)
       refine l_nil ?_
       refine k_seq_normal ?_
       refine w_b (fun h9 => ?_) (fun h9 => ?_)
       ·skip
        have h9' := h9; (try simp only [bb] at h9')
        refine w_seq ?_
        refine w_region ?_
        refine l_cons rfl (p_assign ?_)
        refine l_nil ?_
        refine k_seq_normal ?_
        refine w_ret ?_
        refine k_blk_ret ?_
        refine k_seq_ret ?_
        refine k_seq_ret ?_
        refine k_blk_ret ?_
        refine k_blk_ret ?_
        refine k_seq_ret ?_
        exact ret1 rfl ev1 (by first | exact sub1 _ _ | exact kb.sub | exact (kb.push _).sub | exact Sub.refl _) ⟨by rw [some_eq, if_neg (by omega), if_neg (by omega), if_neg (by omega), if_pos (by omega), rany_yes (k := k) (by omega) (by assumption)], rfl⟩
       ·skip
        have h9' := h9; (try simp only [bb] at h9')
        refine w_skip ?_
        refine k_blk_normal ?_
        refine k_seq_normal ?_
        refine w_region ?_
        refine l_cons rfl (p_move ?_)
        refine l_cons rfl (p_arith ?_)
        refine l_cons rfl (p_assign ?_)
        refine l_nil ?_
        refine k_seq_normal ?_
        exact ⟨r.args.length - (k + 1), by omega, k + 1, rfl, by omega, next_true (p := Rx.some) (by omega) hk2 (by assumption), rfl, kn⟩
      ·skip
       have h8' := h8; (try simp only [bb] at h8')
       refine w_exit ?_
       refine k_seq_exit ?_
       refine k_seq_exit ?_
       refine k_blk_here ?_
       refine k_blk_normal ?_
       refine k_seq_normal ?_
       refine w_seq ?_
       refine w_region ?_
       refine l_cons rfl (p_assign ?_)
       refine l_nil ?_
       refine k_seq_normal ?_
       refine w_ret ?_
       first
       | exact ret1 rfl ev1 (by first | exact sub1 _ _ | exact kb.sub | exact (kb.push _).sub | exact Sub.refl _) ⟨by rw [some_eq, if_neg (by omega), if_neg (by omega), if_neg (by omega), if_pos (by omega), rany_no (fun j hj h => hk2 j (by omega) h)], rfl⟩
       | exact ret1 rfl ev1 (by first | exact sub1 _ _ | exact kb.sub | exact (kb.push _).sub | exact Sub.refl _) ⟨by rw [some_eq, if_neg (by omega), if_neg (by omega), if_neg (by omega), if_neg (by omega)], rfl⟩
     ·skip
      have h7' := h7; (try simp only [bb] at h7')
      refine w_skip ?_
      refine k_blk_normal ?_
      refine k_seq_normal ?_
      refine w_seq ?_
      refine w_region ?_
      refine l_cons rfl (p_assign ?_)
      refine l_nil ?_
      refine k_seq_normal ?_
      refine w_ret ?_
      first
      | exact ret1 rfl ev1 (by first | exact sub1 _ _ | exact kb.sub | exact (kb.push _).sub | exact Sub.refl _) ⟨by rw [some_eq, if_neg (by omega), if_neg (by omega), if_neg (by omega), if_pos (by omega), rany_no (fun j hj h => hk2 j (by omega) h)], rfl⟩
      | exact ret1 rfl ev1 (by first | exact sub1 _ _ | exact kb.sub | exact (kb.push _).sub | exact Sub.refl _) ⟨by rw [some_eq, if_neg (by omega), if_neg (by omega), if_neg (by omega), if_neg (by omega)], rfl⟩
end
end Go.Proofs.YtfdgbghlanbddaaDoor.Av
