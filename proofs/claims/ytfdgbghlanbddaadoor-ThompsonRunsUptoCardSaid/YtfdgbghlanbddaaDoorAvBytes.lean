import Derived.Test.YtfdgbghlanbddaaDoorAvAid2
set_option linter.unusedVariables false
set_option linter.unusedSimpArgs false
namespace Go.Proofs.YtfdgbghlanbddaaDoor.Av
open Go.RowKit
section
variable {P : Program} {w0 : World} {N : Nat} {f : Frame} {es : List Ent} {K : Frame → List Ent → Prop}
variable {d : Nat} {ty : TypeId} {pos : String} {aft : Array Edge} {g : Option (Nat × Bool)} {x y z : Operand} {a : AV}
def markObj (n : Nat) : Obj → Obj
  | .cells cc el (lo, hi) => .cells cc el (if lo == hi then (n, n + 1) else (min lo n, max hi (n + 1)))
  | o => o
/-- A literal's bytes, turned to the type that they have: the row is marked, and a list from here on. -/
theorem o_convBytes {t e s ee : Nat} {T : List Ent} {r : List AV} {rows : List (List AV)} (hx : ev f x = .own T.length s) (ht : sliceB P t e 1 = true) (he : intB P e .u8 = true) (hc : (r :: rows).all cleans = true)
    (k : K (upd f d (.list 1 (r :: rows))) T) (hd : Nat.blt d N = true := by rfl) : AOp P w0 N ⟨some d, .convert t t x, ty, pos, aft, g⟩ f (.row s ee 1 (r :: rows) :: T) K := by
  refine op_run hd fun c A ok rf => ?_
  have hid : at_ (Ent.row s ee 1 (r :: rows) :: T) T.length = some (.row s ee 1 (r :: rows)) := at_hit _ _
  have hv := rep_own (hx ▸ rep_ev rf x) hid
  obtain ⟨h1, hm, hnf, xs, hr, ho⟩ := ok.ent _ _ hid
  rw [← hv] at ho
  obtain ⟨hxl, hor⟩ := ho
  rcases hor with ⟨_, h0⟩ | ⟨gb, cap, cur, hval, _, hheap, hcap, _, hcur, htake⟩
  · simp at h0
  have hphi : c.phi T.length = some (gb, cap) := by
    rw [hv] at hval
    cases hp : c.phi T.length with
    | none => rw [hp] at hval; simp [ownVal] at hval
    | some q =>
      obtain ⟨q1, q2⟩ := q
      rw [hp] at hval
      simp only [ownVal, Value.slice.injEq, Option.some.injEq, Addr.mk.injEq] at hval
      obtain ⟨⟨rfl, _⟩, _, rfl⟩ := hval
      rfl
  have hgf : ¬ c.fro gb := hnf gb cap hphi
  have hgl : gb < c.w.heap.size := (Array.getElem?_eq_some_iff.1 hheap).1
  let w2 : World := c.w.freeze ⟨gb, cur.size, none⟩ 1
  have hfz : w2.heap = c.w.heap.modify gb (markObj cur.size) := rfl
  have hblk : ∀ b, b ≠ gb → w2.heap[b]? = c.w.heap[b]? := by
    intro b hb
    rw [hfz, Array.getElem?_modify, if_neg (Ne.symm hb)]
  have hsize : w2.heap.size = c.w.heap.size := by rw [hfz, Array.size_modify]
  have hnew : w2.heap[gb]? = some (.cells cur ee (cur.size, cur.size + 1)) := by
    rw [hfz, Array.getElem?_modify, if_pos rfl, hheap]
    rfl
  let c2 : Core := { c with w := w2, fro := fun b => c.fro b ∨ b = gb }
  have xx : Ext c (Ent.row s ee 1 (r :: rows) :: T) c2 T := by
    refine ⟨Nat.le_refl _, fun b hb => ⟨.inl hb, hblk b (fun e => hgf (e ▸ hb))⟩, fun id s' e' sz' rows' h _ => ⟨rows', at_miss _ h, rfl, rfl⟩⟩
  have ok2 : Ok w0 c2 T := by
    refine ⟨⟨ok.below.os, ok.below.tape, ok.below.output, by rw [hsize]; exact ok.below.size, fun b hb => ?_⟩, fun b hb => .inl (ok.old b hb), fun b hb => ?_, fun id y hy => ?_, fun i j s e sz rows s' e' sz' rows' g cap cap' hi hj => ok.inj i j _ _ _ _ _ _ _ _ _ _ _ (at_miss _ hi) (at_miss _ hj)⟩
    · rw [show c2.w.heap[b]? = c.w.heap[b]? from hblk b (fun e => hgf (ok.old b hb |> fun h => e ▸ h))]
      exact ok.below.block b hb
    · show b < w2.heap.size
      rw [hsize]
      rcases hb with hb | rfl
      · exact ok.lt b hb
      · exact hgl
    · have hy2 := at_miss (Ent.row s ee 1 (r :: rows)) hy
      have hent := ok.ent id y hy2
      cases y with
      | dead => trivial
      | row s3 e3 sz3 rows3 =>
        have hne : ∀ g3 cap3, c.phi id = some (g3, cap3) → g3 ≠ gb := by
          rintro g3 cap3 hp rfl
          have := ok.inj id T.length _ _ _ _ _ _ _ _ _ _ _ hy2 hid hp hphi
          have := at_lt hy
          omega
        refine hent.ext xx rfl (fun g3 cap3 hp hf => ?_) (fun ys hown => ?_)
        · rcases hf with hf | hf
          · exact hent.2.2.1 g3 cap3 hp hf
          · exact hne g3 cap3 hp hf
        · obtain ⟨q1, q2⟩ := hown
          refine ⟨q1, ?_⟩
          rcases q2 with q2 | ⟨g3, cap3, cur3, e1, e2, e3', e4⟩
          · exact .inl q2
          · refine .inr ⟨g3, cap3, cur3, e1, e2, ?_, e4⟩
            have : g3 ≠ gb := by
              cases hp : c.phi id with
              | none => rw [hp] at e1; simp [ownVal] at e1
              | some q =>
                obtain ⟨q3, q4⟩ := q
                rw [hp] at e1
                simp only [ownVal, Value.slice.injEq, Option.some.injEq, Addr.mk.injEq] at e1
                have := hne q3 q4 hp
                rw [← e1.1.1]
                exact this
            rw [show c2.w.heap[g3]? = c.w.heap[g3]? from hblk g3 this]
            exact e3'
  have hrep : Rep c2 (some T) (.list 1 (r :: rows)) (.slice (some ⟨gb, 0, none⟩) (r :: rows).length cap) := by
    simp only [Rep]
    refine ⟨_, cap, xs, rfl, hcap, hm, RepRows.ext (es := none) (es' := none) _ (show ExtM c none c2 none from ⟨xx.now, xx.fro⟩) (hr.down _ hc), fun _ => ⟨gb, 0, rfl, .inr rfl, fun j hj => ?_⟩⟩
    rw [Nat.zero_add]
    show w2.cell? _ = _
    simp only [World.cell?, hnew, Option.isSome_none, Bool.false_eq_true, if_false]
    rw [← htake, List.getElem?_take, if_pos (by rw [← htake, List.length_take] at hj; omega), Array.getElem?_toList]
  refine ⟨.slice (some ⟨gb, 0, none⟩) (r :: rows).length cap, c2, T, .list 1 (r :: rows), ?_, xx, ok2, hrep, k⟩
  unfold sliceB at ht
  split at ht
  · rename_i e' ii hu hui
    simp only [Bool.and_eq_true, beq_iff_eq] at ht
    obtain ⟨he', _⟩ := ht
    subst he'
    unfold intB at he
    split at he
    · rename_i k2 hu2
      obtain rfl : k2 = .u8 := by simpa using he
      have hshape : c.w.shape? gb = some (ee, cur.size) := by simp [World.shape?, hheap]
      have hmark : (markStringish ⟨gb, 0, none⟩).run P c.w = .ok () w2 := by
        simp only [markStringish, Sem.run_bind, run_shape, Result.andThen_ok, hshape, run_freeze]
        rfl
      simp only [execOp, hval, convert, Sem.run_bind, run_underlying hu, run_underlying hu2, Result.andThen_ok, beq_self_eq_true, hmark, Sem.run_pure]
      rfl
    · cases he
  · cases ht
end
end Go.Proofs.YtfdgbghlanbddaaDoor.Av
namespace Go.Proofs.YtfdgbghlanbddaaDoor.Av
open Go.RowKit
section
variable {P : Program} {w0 : World} {N : Nat} {f : Frame} {K : Frame → List Ent → Prop}
variable {d : Nat} {ty : TypeId} {pos : String} {aft : Array Edge} {g : Option (Nat × Bool)} {x : Operand}
theorem p_convBytes {t e s ee : Nat} {T : List Ent} {r : List AV} {rows : List (List AV)} (ht : sliceB P t e 1 = true) (he : intB P e .u8 = true) (k : K (upd f d (.list 1 (r :: rows))) T)
    (hx : ev f x = .own T.length s := by simp only [ev_tmp, upd_apply, Nat.reduceEqDiff, ↓reduceIte] <;> exact rfl) (hc : (r :: rows).all cleans = true := by exact rfl) (hd : Nat.blt d N = true := by exact rfl) : AOp P w0 N ⟨some d, .convert t t x, ty, pos, aft, g⟩ f (.row s ee 1 (r :: rows) :: T) K := o_convBytes hx ht he hc k hd
end
theorem setAt2 {x : Ent} {T : List Ent} {a b c d : Ent} : setAt (setAt (x :: a :: b :: T) (T.length + 1) c) T.length d = x :: c :: d :: T := by
  simp [setAt] <;> omega
end Go.Proofs.YtfdgbghlanbddaaDoor.Av
