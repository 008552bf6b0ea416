import Derived.Test.YtfdgbghlanbddaaDoorAvPlain
import Derived.Test.YtfdgbghlanbddaaDoorAvFacts
set_option linter.unusedVariables false
set_option linter.unusedSimpArgs false
namespace Go.Proofs.YtfdgbghlanbddaaDoor.Av
open Go.RowKit
section
variable {P : Program} {w0 : World} {N : Nat} {f : Frame} {es : List Ent} {K : Exit → Frame → List Ent → Prop}
/-- No list is longer than most. -/
theorem w_len {code : Code} (t : Nat) {sz : Nat} {rows : List (List AV)} (h : rows.length ≤ most → AWp P w0 N code f es K) (ht : f t = .list sz rows := by simp only [upd_apply, Nat.reduceEqDiff, ↓reduceIte] <;> exact rfl) : AWp P w0 N code f es K := by
  intro c A Q ok rf hk
  have hr := rf.rep t
  rw [ht] at hr
  simp only [Rep] at hr
  obtain ⟨_, _, _, _, _, hm, _⟩ := hr
  exact h hm c A Q ok rf hk
theorem l_len {ops : Array Oper} {rest : List Oper} {K : Frame → List Ent → Prop} (t : Nat) {sz : Nat} {rows : List (List AV)} (h : rows.length ≤ most → AList P w0 N ops rest f es K) (ht : f t = .list sz rows := by simp only [upd_apply, Nat.reduceEqDiff, ↓reduceIte] <;> exact rfl) : AList P w0 N ops rest f es K := by
  intro c A Q ok rf hk
  have hr := rf.rep t
  rw [ht] at hr
  simp only [Rep] at hr
  obtain ⟨_, _, _, _, _, hm, _⟩ := hr
  exact h hm c A Q ok rf hk
/-- The nil slice is an empty list. -/
theorem w_nilList {code : Code} (t sz : Nat) (h : AWp P w0 N code (upd f t (.list sz [])) es K) (ht : f t = .nil := by simp only [upd_apply, Nat.reduceEqDiff, ↓reduceIte] <;> exact rfl) : AWp P w0 N code f es K := by
  intro c A Q ok rf hk
  refine h c A Q ok ⟨rf.size, fun u => ?_, rf.defers⟩ hk
  by_cases hu : u = t
  · subst hu
    rw [upd_same]
    have := rf.rep u
    rw [ht] at this
    simp only [Rep] at this ⊢
    exact ⟨none, 0, [], this, Nat.le_refl _, Nat.zero_le _, rfl, fun e => absurd rfl e⟩
  · rw [upd_ne _ _ hu]
    exact rf.rep u
theorem own_le {c : Core} (ok : Ok w0 c es) {id s e sz : Nat} {rows : List (List AV)} (h : at_ es id = some (.row s e sz rows)) : rows.length ≤ most := (ok.ent id _ h).2.1
/-- No row of one's own is longer than most. -/
theorem w_own {code : Code} {id s e sz : Nat} {rows : List (List AV)} (hid : at_ es id = some (.row s e sz rows)) (h : rows.length ≤ most → AWp P w0 N code f es K) : AWp P w0 N code f es K :=
  fun c A Q ok rf hk => h (own_le ok hid) c A Q ok rf hk
theorem ext_retell {c : Core} {id s e sz : Nat} {rows rows' : List (List AV)} (hid : at_ es id = some (.row s e sz rows)) (hl : rows.length = rows'.length) : Ext c es c (setAt es id (.row s e sz rows')) := by
  refine ⟨Nat.le_refl _, fun _ hb => ⟨hb, rfl⟩, fun j s2 e2 sz2 r2 hr hs => ?_⟩
  by_cases hj : j = id
  · subst hj
    rw [at_setAt_same _ hid] at hr
    injection hr with hr
    injection hr with h1 h2 h3 h4
    subst h1; subst h2; subst h3; subst h4
    exact ⟨rows, hid, hl, rfl⟩
  · rw [at_setAt_ne _ hj] at hr
    exact ⟨r2, hr, rfl, rfl⟩
theorem ok_retell {c : Core} (ok : Ok w0 c es) {id s e sz : Nat} {rows rows' : List (List AV)} (hid : at_ es id = some (.row s e sz rows)) (hl : rows.length = rows'.length)
    (hr : ∀ xs, RepRows c (some es) sz rows xs → RepRows c (some es) sz rows' xs) : Ok w0 c (setAt es id (.row s e sz rows')) := by
  have x := ext_retell (c := c) hid hl
  refine ⟨ok.below, ok.old, ok.lt, fun j y hy => ?_, ?_⟩
  · by_cases hj : j = id
    · subst hj
      rw [at_setAt_same _ hid] at hy
      injection hy with hy
      subst hy
      obtain ⟨h1, h2, h3, xs, h4, h5⟩ := ok.ent j _ hid
      refine ⟨h1, hl ▸ h2, h3, xs, RepRows.ext (es := some es) (es' := some _) _ x (hr xs h4), ?_⟩
      rw [← hl]
      exact h5
    · rw [at_setAt_ne _ hj] at hy
      have he := ok.ent j y hy
      cases y with
      | dead => trivial
      | row s2 e2 sz2 r2 => exact he.ext x rfl (fun g cap hg => he.2.2.1 g cap hg) (fun xs ho => ho)
  · have old : ∀ k s3 e3 sz3 rows3, at_ (setAt es id (.row s e sz rows')) k = some (.row s3 e3 sz3 rows3) → ∃ r, at_ es k = some (.row s3 e3 sz3 r) := by
      intro k s3 e3 sz3 rows3 h3
      by_cases hk : k = id
      · subst hk
        rw [at_setAt_same _ hid] at h3
        injection h3 with h3
        injection h3 with h1 h2 h3 h4
        subst h1; subst h2; subst h3
        exact ⟨rows, hid⟩
      · rw [at_setAt_ne _ hk] at h3
        exact ⟨_, h3⟩
    intro i j s e sz rows s' e' sz' rows' g cap cap' hi hj pi pj
    obtain ⟨r1, h1⟩ := old i _ _ _ _ hi
    obtain ⟨r2, h2⟩ := old j _ _ _ _ hj
    exact ok.inj i j _ _ _ _ _ _ _ _ _ _ _ h1 h2 pi pj
/-- A variable that holds the nil slice: from here on an empty row of one's own. -/
theorem w_adoptVar {code : Code} {T : List Ent} {s e : Nat} (e' sz' : Nat) (h : ∀ s', AWp P w0 N code f (.row s' e' sz' [] :: .row s e 1 [[.own (T.length + 1) s']] :: T) K) : AWp P w0 N code f (.row s e 1 [[.nil]] :: T) K := by
  intro c A Q ok rf hk
  have x1 := ext_adopt (w0 := w0) (c := c) (es := .row s e 1 [[.nil]] :: T) e' sz'
  have ok1 := ok_adopt ok e' sz'
  have hid : at_ (Ent.row c.now e' sz' [] :: .row s e 1 [[.nil]] :: T) T.length = some (.row s e 1 [[.nil]]) := at_miss _ (at_hit _ _)
  have hown : ∀ xs, RepRows (c.adopt (.row s e 1 [[.nil]] :: T)) (some (Ent.row c.now e' sz' [] :: .row s e 1 [[.nil]] :: T)) 1 [[.nil]] xs → RepRows (c.adopt (.row s e 1 [[.nil]] :: T)) (some (Ent.row c.now e' sz' [] :: .row s e 1 [[.nil]] :: T)) 1 [[.own (T.length + 1) c.now]] xs := by
    intro xs h
    simp only [RepRows, Reps, Rep] at h ⊢
    obtain ⟨v1, v2, rfl, h1, ⟨v, vs', rfl, hv, rfl⟩, h3, rfl⟩ := h
    refine ⟨_, _, rfl, rfl, ⟨v, [], rfl, ⟨_, rfl, ⟨_, _, _, hv⟩, Nat.lt_succ_self _, fun e2 sz2 rows2 hr => ?_⟩, rfl⟩, h3, rfl⟩
    rw [show T.length + 1 = (Ent.row s e 1 [[.nil]] :: T).length from rfl, at_hit] at hr
    injection hr with hr
    injection hr with _ _ _ hr
    subst hr
    simp [Core.adopt, ownVal, hv]
  have x2 := ext_retell (c := c.adopt (.row s e 1 [[.nil]] :: T)) (rows' := [[.own (T.length + 1) c.now]]) hid rfl
  have ok2 := ok_retell ok1 (rows' := [[.own (T.length + 1) c.now]]) hid rfl hown
  rw [setAt_miss _ _ (by simp), setAt_hit] at x2 ok2
  have x := x1.trans x2
  exact h c.now (c.adopt _) A Q ok2 (rf.ext x) fun e c' es' f' A' x' ok' rf' k => hk e c' es' f' A' (x.trans x') ok' rf' k
end
end Go.Proofs.YtfdgbghlanbddaaDoor.Av
namespace Go.Proofs.YtfdgbghlanbddaaDoor.Av
open Go.RowKit
section
variable {P : Program} {w0 : World} {N : Nat} {f : Frame} {es es2 : List Ent}
theorem ret0 {fn : Func} {R : AV → List Ent → Prop} (hr : fn.results = #[]) (hs : Sub es2 es) (h : R (.tup []) es2) : kret P w0 N fn R .ret f es := ⟨.tup [], es2, res_none hr, hs, h⟩
theorem retn0 {fn : Func} {R : AV → List Ent → Prop} (hr : fn.results = #[]) (hs : Sub es2 es) (h : R (.tup []) es2) : kret P w0 N fn R .normal f es := ⟨.tup [], es2, res_none hr, hs, h⟩
end
/-- The rows of Closed: the wait list, its variable, the marks' variable, the marks. -/
def clE (T : List Ent) (sS s5 s6 sW : Nat) (bs : List Bool) (ws : List Int) : List Ent :=
  .row sW 3 1 (ws.map fun n => [.int .i64 n]) :: .row s6 48 1 [[.own (T.length + 3) sW]] :: .row s5 60 1 [[.own T.length sS]] :: .row sS 4 1 (bs.map fun b => [.bool b]) :: T
end Go.Proofs.YtfdgbghlanbddaaDoor.Av
namespace Go.Proofs.YtfdgbghlanbddaaDoor.Av
open Go.RowKit
theorem sub5 (a b c d e : Ent) (es : List Ent) : Sub es (a :: b :: c :: d :: e :: es) := (sub4 b c d e es).trans (Sub.tail a _)
section
variable {P : Program} {w0 : World} {N : Nat} {f : Frame} {T : List Ent} {K : Exit → Frame → List Ent → Prop}
/-- The topmost row is written no more: it is a list from here on. -/
theorem w_freezeTop {code : Code} (t : Nat) {id s e sz : Nat} {rows : List (List AV)} (h : AWp P w0 N code (upd f t (.list sz rows)) T K) (ht : f t = .own id s := by simp only [upd_apply, Nat.reduceEqDiff, ↓reduceIte] <;> exact rfl) (hid : id = T.length := by exact rfl) (hclean : rows.all cleans = true := by first | exact rfl | simp [cleans, clean]) : AWp P w0 N code f (.row s e sz rows :: T) K := by
  subst hid
  refine w_freeze t ht (at_hit _ _) hclean ?_
  rw [setAt_hit]
  exact w_less (fun _ => .inl rfl) (Sub.tail _ _) h
end
end Go.Proofs.YtfdgbghlanbddaaDoor.Av
