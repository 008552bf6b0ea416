import Derived.Test.YtfdgbghlanbddaaDoorAvK0
import Derived.Test.YtfdgbghlanbddaaDoorAvK1
import Derived.Lib.TrailingZeros
import Derived.Laws.Bits64b
set_option linter.unusedVariables false
set_option linter.unusedSimpArgs false
namespace Go.Proofs.YtfdgbghlanbddaaDoor.Av
open Go.RowKit
section
variable {P : Program} {w0 : World} {N : Nat} {f : Frame} {es : List Ent} {K : Frame → List Ent → Prop}
variable {d : Nat} {ty : TypeId} {pos : String} {aft : Array Edge} {g : Option (Nat × Bool)} {x y z : Operand} {a : AV}
def markObj (n : Nat) : Obj → Obj
  | .cells cc el (lo, hi) => .cells cc el (if lo == hi then (n, n + 1) else (min lo n, max hi (n + 1)))
  | o => o
/-- A literal's bytes, turned to the type that they have: the row is marked, and a list from here on. -/
theorem o_convBytes {t e s ee : Nat} {T : List Ent} {r : List AV} {rows : List (List AV)} (hx : ev f x = .own T.length s) (ht : sliceB P t e 1 = true) (he : intB P e .u8 = true) (hc : (r :: rows).all cleans = true)
    (k : K (upd f d (.list 1 (r :: rows))) T) (hd : Nat.blt d N = true := by rfl) : AOp P w0 N ⟨some d, .convert t t x, ty, pos, aft, g⟩ f (.row s ee 1 (r :: rows) :: T) K := by
  refine op_run hd fun c A ok rf => ?_
  have hid : at_ (Ent.row s ee 1 (r :: rows) :: T) T.length = some (.row s ee 1 (r :: rows)) := at_hit _ _
  have hv := rep_own (hx ▸ rep_ev rf x) hid
  obtain ⟨h1, hm, hnf, xs, hr, ho⟩ := ok.ent _ _ hid
  rw [← hv] at ho
  obtain ⟨hxl, hor⟩ := ho
  rcases hor with ⟨_, h0⟩ | ⟨gb, cap, cur, hval, _, hheap, hcap, _, hcur, htake⟩
  · simp at h0
  have hphi : c.phi T.length = some (gb, cap) := by
    rw [hv] at hval
    cases hp : c.phi T.length with
    | none => rw [hp] at hval; simp [ownVal] at hval
    | some q =>
      obtain ⟨q1, q2⟩ := q
      rw [hp] at hval
      simp only [ownVal, Value.slice.injEq, Option.some.injEq, Addr.mk.injEq] at hval
      obtain ⟨⟨rfl, _⟩, _, rfl⟩ := hval
      rfl
  have hgf : ¬ c.fro gb := hnf gb cap hphi
  have hgl : gb < c.w.heap.size := (Array.getElem?_eq_some_iff.1 hheap).1
  let w2 : World := c.w.freeze ⟨gb, cur.size, none⟩ 1
  have hfz : w2.heap = c.w.heap.modify gb (markObj cur.size) := rfl
  have hblk : ∀ b, b ≠ gb → w2.heap[b]? = c.w.heap[b]? := by
    intro b hb
    rw [hfz, Array.getElem?_modify, if_neg (Ne.symm hb)]
  have hsize : w2.heap.size = c.w.heap.size := by rw [hfz, Array.size_modify]
  have hnew : w2.heap[gb]? = some (.cells cur ee (cur.size, cur.size + 1)) := by
    rw [hfz, Array.getElem?_modify, if_pos rfl, hheap]
    rfl
  let c2 : Core := { c with w := w2, fro := fun b => c.fro b ∨ b = gb }
  have xx : Ext c (Ent.row s ee 1 (r :: rows) :: T) c2 T := by
    refine ⟨Nat.le_refl _, fun b hb => ⟨.inl hb, hblk b (fun e => hgf (e ▸ hb))⟩, fun id s' e' sz' rows' h _ => ⟨rows', at_miss _ h, rfl, rfl⟩⟩
  have ok2 : Ok w0 c2 T := by
    refine ⟨⟨ok.below.os, ok.below.tape, ok.below.output, by rw [hsize]; exact ok.below.size, fun b hb => ?_⟩, fun b hb => .inl (ok.old b hb), fun b hb => ?_, fun id y hy => ?_, fun i j s e sz rows s' e' sz' rows' g cap cap' hi hj => ok.inj i j _ _ _ _ _ _ _ _ _ _ _ (at_miss _ hi) (at_miss _ hj)⟩
    · rw [show c2.w.heap[b]? = c.w.heap[b]? from hblk b (fun e => hgf (ok.old b hb |> fun h => e ▸ h))]
      exact ok.below.block b hb
    · show b < w2.heap.size
      rw [hsize]
      rcases hb with hb | rfl
      · exact ok.lt b hb
      · exact hgl
    · have hy2 := at_miss (Ent.row s ee 1 (r :: rows)) hy
      have hent := ok.ent id y hy2
      cases y with
      | dead => trivial
      | row s3 e3 sz3 rows3 =>
        have hne : ∀ g3 cap3, c.phi id = some (g3, cap3) → g3 ≠ gb := by
          rintro g3 cap3 hp rfl
          have := ok.inj id T.length _ _ _ _ _ _ _ _ _ _ _ hy2 hid hp hphi
          have := at_lt hy
          omega
        refine hent.ext xx rfl (fun g3 cap3 hp hf => ?_) (fun ys hown => ?_)
        · rcases hf with hf | hf
          · exact hent.2.2.1 g3 cap3 hp hf
          · exact hne g3 cap3 hp hf
        · obtain ⟨q1, q2⟩ := hown
          refine ⟨q1, ?_⟩
          rcases q2 with q2 | ⟨g3, cap3, cur3, e1, e2, e3', e4⟩
          · exact .inl q2
          · refine .inr ⟨g3, cap3, cur3, e1, e2, ?_, e4⟩
            have : g3 ≠ gb := by
              cases hp : c.phi id with
              | none => rw [hp] at e1; simp [ownVal] at e1
              | some q =>
                obtain ⟨q3, q4⟩ := q
                rw [hp] at e1
                simp only [ownVal, Value.slice.injEq, Option.some.injEq, Addr.mk.injEq] at e1
                have := hne q3 q4 hp
                rw [← e1.1.1]
                exact this
            rw [show c2.w.heap[g3]? = c.w.heap[g3]? from hblk g3 this]
            exact e3'
  have hrep : Rep c2 (some T) (.list 1 (r :: rows)) (.slice (some ⟨gb, 0, none⟩) (r :: rows).length cap) := by
    simp only [Rep]
    refine ⟨_, cap, xs, rfl, hcap, hm, RepRows.ext (es := none) (es' := none) _ (show ExtM c none c2 none from ⟨xx.now, xx.fro⟩) (hr.down _ hc), fun _ => ⟨gb, 0, rfl, .inr rfl, fun j hj => ?_⟩⟩
    rw [Nat.zero_add]
    show w2.cell? _ = _
    simp only [World.cell?, hnew, Option.isSome_none, Bool.false_eq_true, if_false]
    rw [← htake, List.getElem?_take, if_pos (by rw [← htake, List.length_take] at hj; omega), Array.getElem?_toList]
  refine ⟨.slice (some ⟨gb, 0, none⟩) (r :: rows).length cap, c2, T, .list 1 (r :: rows), ?_, xx, ok2, hrep, k⟩
  unfold sliceB at ht
  split at ht
  · rename_i e' ii hu hui
    simp only [Bool.and_eq_true, beq_iff_eq] at ht
    obtain ⟨he', _⟩ := ht
    subst he'
    unfold intB at he
    split at he
    · rename_i k2 hu2
      obtain rfl : k2 = .u8 := by simpa using he
      have hshape : c.w.shape? gb = some (ee, cur.size) := by simp [World.shape?, hheap]
      have hmark : (markStringish ⟨gb, 0, none⟩).run P c.w = .ok () w2 := by
        simp only [markStringish, Sem.run_bind, run_shape, Result.andThen_ok, hshape, run_freeze]
        rfl
      simp only [execOp, hval, convert, Sem.run_bind, run_underlying hu, run_underlying hu2, Result.andThen_ok, beq_self_eq_true, hmark, Sem.run_pure]
      rfl
    · cases he
  · cases ht
end
end Go.Proofs.YtfdgbghlanbddaaDoor.Av
namespace Go.Proofs.YtfdgbghlanbddaaDoor.Av
open Go.RowKit
section
variable {P : Program} {w0 : World} {N : Nat} {f : Frame} {K : Frame → List Ent → Prop}
variable {d : Nat} {ty : TypeId} {pos : String} {aft : Array Edge} {g : Option (Nat × Bool)} {x : Operand}
theorem p_convBytes {t e s ee : Nat} {T : List Ent} {r : List AV} {rows : List (List AV)} (ht : sliceB P t e 1 = true) (he : intB P e .u8 = true) (k : K (upd f d (.list 1 (r :: rows))) T)
    (hx : ev f x = .own T.length s := by simp only [ev_tmp, upd_apply, Nat.reduceEqDiff, ↓reduceIte] <;> exact rfl) (hc : (r :: rows).all cleans = true := by exact rfl) (hd : Nat.blt d N = true := by exact rfl) : AOp P w0 N ⟨some d, .convert t t x, ty, pos, aft, g⟩ f (.row s ee 1 (r :: rows) :: T) K := o_convBytes hx ht he hc k hd
end
theorem setAt2 {x : Ent} {T : List Ent} {a b c d : Ent} : setAt (setAt (x :: a :: b :: T) (T.length + 1) c) T.length d = x :: c :: d :: T := by
  simp [setAt] <;> omega
end Go.Proofs.YtfdgbghlanbddaaDoor.Av
namespace Go.Proofs.YtfdgbghlanbddaaDoor.Av
theorem Reach.lt {n : Nf} {l : List Int} {i : Nat} (h : Reach n l i) : i < n.st.length := by cases h <;> assumption
theorem Reach.mono {n : Nf} {l l' : List Int} (h : ∀ x ∈ l, x ∈ l') {i : Nat} (hr : Reach n l i) : Reach n l' i := by
  induction hr with
  | base hi hm => exact .base hi (h _ hm)
  | step hi _ hm hj ih => exact .step hi ih hm hj
theorem closed_mem {n : Nf} {l : List Int} {x : Int} : x ∈ closed n l ↔ ∃ i : Nat, x = i ∧ Reach n l i := by
  unfold closed
  simp only [List.mem_map, List.mem_filter, List.mem_range, decide_eq_true_eq]
  constructor
  · rintro ⟨i, ⟨_, h⟩, rfl⟩; exact ⟨i, rfl, h⟩
  · rintro ⟨i, rfl, h⟩; exact ⟨i, ⟨h.lt, h⟩, rfl⟩
theorem closed_mono {n : Nf} {l l' : List Int} (h : ∀ x ∈ l, x ∈ l') {x : Int} (hx : x ∈ closed n l) : x ∈ closed n l' := by
  obtain ⟨i, rfl, hr⟩ := closed_mem.1 hx
  exact closed_mem.2 ⟨i, rfl, hr.mono h⟩
theorem closed_sorted (n : Nf) (l : List Int) : (closed n l).Pairwise (· < ·) := by
  unfold closed
  rw [List.pairwise_map]
  exact (List.pairwise_lt_range.filter _).imp fun h => Int.ofNat_lt.2 h
theorem closed_closed (n : Nf) (l : List Int) : closed n (closed n l) = closed n l := by
  have : ∀ i, Reach n (closed n l) i ↔ Reach n l i := by
    intro i
    constructor
    · intro h
      induction h with
      | base hi hm =>
        obtain ⟨j, e, hr⟩ := closed_mem.1 hm
        have : j = _ := (Int.ofNat_inj.1 e).symm
        exact this ▸ hr
      | step hi _ hm hj ih => exact .step hi ih hm hj
    · exact fun h => .base h.lt (closed_mem.2 ⟨i, rfl, h⟩)
  have key : ∀ l' : List Int, (∀ i, Reach n l' i ↔ Reach n l i) → closed n l' = closed n l := by
    intro l' h
    unfold closed
    congr 1
    refine List.filter_congr fun i _ => ?_
    rw [Bool.eq_iff_iff]
    simp [h]
  exact key _ this
theorem closeN_any (n : Nf) (l m : List Int) {i : Nat} (hi : i < (closeN n l).length) : (closeN n (l ++ m)).any (fun z => decide ((closeN n l)[i] = z)) = true := by
  rw [List.any_eq_true]
  refine ⟨(closeN n l)[i], ?_, by simp⟩
  have hm := List.getElem_mem hi
  generalize (closeN n l)[i] = x at hm
  unfold closeN at hm ⊢
  split at hm
  · rename_i h
    rw [if_pos h]
    exact closed_mono (fun x hx => List.mem_append_left _ hx) hm
  · cases hm
theorem closeN_lt (n : Nf) (l : List Int) {i j : Nat} (hij : i < j) (hj : j < (closeN n l).length) : (closeN n l)[i] < (closeN n l)[j] := by
  have : (closeN n l).Pairwise (· < ·) := by
    unfold closeN
    split
    · exact closed_sorted n l
    · exact List.Pairwise.nil
  exact List.pairwise_iff_getElem.1 this i j (by omega) hj hij
theorem closeN_closeN (n : Nf) (l : List Int) : closeN n (closeN n l) = closeN n l := by
  unfold closeN
  split
  · exact closed_closed n l
  · rfl
theorem closeN_len (n : Nf) (l : List Int) : (closeN n l).length ≤ 2000 := by
  unfold closeN
  split
  · rename_i h
    exact Nat.le_trans (closed_len n l) (may_le h)
  · simp
theorem any_take {α : Type} {p : α → Bool} {l : List α} {k : Nat} (hk : k < l.length) : (l.take (k + 1)).any p = ((l.take k).any p || p l[k]) := by
  rw [List.take_add_one, List.getElem?_eq_getElem hk, List.any_append]
  simp
end Go.Proofs.YtfdgbghlanbddaaDoor.Av
namespace Go.Proofs.YtfdgbghlanbddaaDoor.Av
theorem closed_congr {n : Nf} {l l' : List Int} (h : ∀ i : Nat, i < n.st.length → ((i : Int) ∈ l ↔ (i : Int) ∈ l')) : closed n l = closed n l' := by
  have key : ∀ a b : List Int, (∀ i : Nat, i < n.st.length → ((i : Int) ∈ a → (i : Int) ∈ b)) → ∀ i, Reach n a i → Reach n b i := by
    intro a b hab i hr
    induction hr with
    | base hi hm => exact .base hi (hab _ hi hm)
    | step hi _ hm hj ih => exact .step hi ih hm hj
  unfold closed
  congr 1
  refine List.filter_congr fun i _ => ?_
  rw [Bool.eq_iff_iff]
  simp only [decide_eq_true_eq]
  exact ⟨key l l' (fun i hi => (h i hi).1) i, key l' l (fun i hi => (h i hi).2) i⟩
theorem goes_start {n : Nf} (hm : mayN n = true) (hs : n.st.length ≤ 40) : closeN n [n.start, -1, (n.st.length : Int), 1099511627776] = closed n [n.start] := by
  unfold closeN
  rw [if_pos hm]
  refine closed_congr fun i hi => ?_
  simp only [List.mem_cons, List.not_mem_nil, or_false]
  omega
theorem goes_step {n : Nf} (hm : mayN n = true) (l : List Int) (b : Int) : stepN n ([-5, (n.st.length : Int) + 9] ++ l) b = stepped n l b := by
  unfold stepN stepped
  rw [if_pos hm]
  congr 1
  unfold stepTo
  rw [List.filterMap_append]
  have h1 : List.filterMap (stepOne n b) [-5, (n.st.length : Int) + 9] = [] := by
    have a1 : stepOne n b (-5) = none := stepOne_no (.inl (by omega))
    have a2 : stepOne n b ((n.st.length : Int) + 9) = none := stepOne_no (.inr (.inl (by omega)))
    simp [a1, a2]
  show List.filterMap (stepOne n b) [-5, (n.st.length : Int) + 9] ++ _ = _
  rw [h1]
  rfl
theorem fold_mem {n : Nf} {w : List Int} {x : Int} (hx : x ∈ w.foldl (stepped n) (closed n [n.start])) : 0 ≤ x ∧ x < n.st.length := by
  have key : ∀ l, x ∈ closed n l → 0 ≤ x ∧ x < n.st.length := by
    intro l h
    obtain ⟨i, rfl, hr⟩ := closed_mem.1 h
    have := hr.lt
    omega
  rcases List.eq_nil_or_concat w with rfl | ⟨t, b, rfl⟩
  · exact key _ hx
  · rw [List.concat_eq_append, List.foldl_append] at hx
    exact key _ hx
theorem run_any {n : Nf} (hm : mayN n = true) (w : List Int) : runN n w = (w.foldl (stepped n) (closed n [n.start])).any fun z => decide (z = n.stop) := by
  unfold runN
  rw [hm, Bool.true_and, contains_any]
  congr 1
  funext z
  rw [Bool.eq_iff_iff]
  simp only [decide_eq_true_eq]
  exact eq_comm
end Go.Proofs.YtfdgbghlanbddaaDoor.Av
set_option linter.unusedVariables false
set_option linter.unusedSimpArgs false
set_option maxRecDepth 8000
namespace Go.Proofs.YtfdgbghlanbddaaDoor.Av
open Go.RowKit Go.Proofs
theorem may_is {w0 : World} {es : List Ent} {id s : Nat} {n : Nf} {k : Int} (hb : at_ es id = some (.row s 36 3 [n.cells])) : ACalls Tryd.prog w0 75 [.int .i64 k, .ptr id s 0 0] es fun v es' => v = .bool (inN n k) ∧ es' = es := by
  unfold Nf.cells at hb
  refine calls2 (N := 13) Tryd.func75 rfl rfl (by decide) ?_
  refine w_seq ?_
  refine w_region ?_
  refine l_cons rfl (p_assign ?_)
  refine l_nil ?_
  refine k_seq_normal ?_
  refine w_seq ?_
  refine w_region ?_
  refine l_cons rfl (p_move ?_)
  refine l_cons rfl (p_cmp ?_)
  refine l_cons rfl (p_move ?_)
  refine g_b rfl (fun h1 => ?_) (fun h1 => ?_)
  · skip
    have h1' := h1; (try simp only [decide_eq_true_eq, decide_eq_false_iff_not, Bool.not_eq_true', Bool.not_false, Bool.not_true, Bool.not_eq_false'] at h1')
    refine (p_move ?_)
    refine g_y rfl h1 (p_fap fa_36_0 ?_)
    refine g_y rfl h1 (p_loadp ty_34 ?_)
    first | refine g_y rfl h1 (p_lenl sl_34 ?_) | refine g_y rfl h1 (p_leno sl_34 ?_) | refine g_y rfl h1 (p_lenn sl_34 ?_)
    refine g_y rfl h1 (p_cmp ?_)
    refine l_cons rfl (p_pickt h1 ?_)
    refine l_cons rfl (p_assign ?_)
    refine l_nil ?_
    refine k_seq_normal ?_
    refine w_ret ?_
    exact ret1 rfl (by simp only [ev_tmp, ev_const, ev_func, ofConst_int, ofConst_bool, ofConst_str, ofConst_nil, upd_apply, Nat.reduceEqDiff, ↓reduceIte] <;> exact rfl) (by first | exact Sub.refl _ | exact sub1 _ _ | exact sub2 _ _ _ | exact sub3 _ _ _ _ | exact sub4 _ _ _ _ _ | exact sub5 _ _ _ _ _ _) ⟨by first | (simp_all [inN]; done) | (simp_all [inN]; omega), rfl⟩
  · skip
    have h1' := h1; (try simp only [decide_eq_true_eq, decide_eq_false_iff_not, Bool.not_eq_true', Bool.not_false, Bool.not_true, Bool.not_eq_false'] at h1')
    refine g_n rfl h1 ?_
    refine g_n rfl h1 ?_
    refine g_n rfl h1 ?_
    refine g_n rfl h1 ?_
    refine l_cons rfl (p_pickf h1 ?_)
    refine l_cons rfl (p_assign ?_)
    refine l_nil ?_
    refine k_seq_normal ?_
    refine w_ret ?_
    exact ret1 rfl (by simp only [ev_tmp, ev_const, ev_func, ofConst_int, ofConst_bool, ofConst_str, ofConst_nil, upd_apply, Nat.reduceEqDiff, ↓reduceIte] <;> exact rfl) (by first | exact Sub.refl _ | exact sub1 _ _ | exact sub2 _ _ _ | exact sub3 _ _ _ _ | exact sub4 _ _ _ _ _ | exact sub5 _ _ _ _ _ _) ⟨by first | (simp_all [inN]; done) | (simp_all [inN]; omega), rfl⟩
theorem indexFunc {w0 : World} {es : List Ent} {l : List Int} {g : Nat} {l1 l2 : List AV} (p : Int → Bool) (hg : enterB Tryd.prog g = true) (hp : ∀ k, ACalls Tryd.prog w0 g (l1 ++ [.int .i64 k] ++ l2) es fun v es' => v = .bool (p k) ∧ es' = es) :
    ACalls Tryd.prog w0 115 [ints l, .fn (.func g) l1 l2] es fun v es' => v = .int .i64 (firstIdx p l) ∧ es' = es := by
  unfold ints
  refine calls2 (N := 19) Tryd.func115 rfl rfl (by decide) ?_
  refine w_seq ?_
  refine w_region ?_
  refine l_cons rfl (p_assign ?_)
  refine l_nil ?_
  refine k_seq_normal ?_
  refine w_seq ?_
  refine w_seq ?_
  refine w_len 0 fun hl => ?_
  rw [List.length_map] at hl
  simp only [most] at hl
  refine w_region ?_
  refine l_cons rfl (p_move ?_)
  refine l_cons rfl (p_lenl sl_48 ?_)
  refine l_cons rfl (p_move ?_)
  refine l_nil ?_
  refine k_seq_normal ?_
  refine w_block ?_
  refine w_loop (fun n f es' => ∃ k, n = l.length - k ∧ k ≤ l.length ∧ (∀ j (hj : j < k) (hjl : j < l.length), p l[j] = false) ∧ es' = es ∧ Knows f [(0, .list 1 (l.map fun n => [.int .i64 n])), (1, .fn (.func g) l1 l2), (7, .int .i64 l.length), (8, .int .i64 k)]) (l.length) (⟨0, rfl, Nat.zero_le _, fun j hj => absurd hj (Nat.not_lt_zero _), rfl, by simp only [Knows, upd_apply, Nat.reduceEqDiff, ↓reduceIte, and_true, true_and, eq_self] <;> first | exact rfl | exact ⟨rfl, rfl⟩ | exact ⟨rfl, rfl, rfl⟩ | exact ⟨rfl, rfl, rfl, rfl⟩ | exact ⟨rfl, rfl, rfl, rfl, rfl⟩ | exact ⟨rfl, rfl, rfl, rfl, rfl, rfl⟩⟩) ?_
  rintro n f es' ⟨k, rfl, hk1, hk2, rfl, hk⟩
  refine w_pins _ (Sub.refl _) (hk) ?_
  simp only [pins]
  refine w_seq ?_
  refine w_region ?_
  refine l_cons rfl (p_cmp ?_)
  refine l_nil ?_
  refine k_seq_normal ?_
  refine w_seq ?_
  refine w_b (fun h1 => ?_) (fun h1 => ?_)
  · skip
    have h1' := h1; (try simp only [decide_eq_true_eq, decide_eq_false_iff_not, Bool.not_eq_true', Bool.not_false, Bool.not_true, Bool.not_eq_false'] at h1')
    refine w_skip ?_
    refine k_seq_normal ?_
    refine w_seq ?_
    refine w_block ?_
    refine w_seq ?_
    refine w_region ?_
    refine l_cons rfl (p_move ?_)
    refine l_cons rfl (p_assign ?_)
    refine l_nil ?_
    refine k_seq_normal ?_
    refine w_seq ?_
    refine w_region ?_
    refine l_cons rfl (p_move ?_)
    refine l_cons rfl (p_move ?_)
    refine l_cons rfl (p_move ?_)
    refine l_cons rfl (p_ixl sl_48 ?_)
    refine l_cons rfl (p_loadf ty_3 ?_)
    refine l_cons rfl (p_callr hg (hp _) ?_)
    refine l_nil ?_
    refine k_seq_normal ?_
    refine w_b (fun h2 => ?_) (fun h2 => ?_)
    · skip
      have h2' := h2; (try simp only [decide_eq_true_eq, decide_eq_false_iff_not, Bool.not_eq_true', Bool.not_false, Bool.not_true, Bool.not_eq_false'] at h2')
      refine w_seq ?_
      refine w_region ?_
      refine l_cons rfl (p_move ?_)
      refine l_cons rfl (p_assign ?_)
      refine l_nil ?_
      refine k_seq_normal ?_
      refine w_ret ?_
      refine k_blk_ret ?_
      refine k_seq_ret ?_
      refine k_seq_ret ?_
      refine k_blk_ret ?_
      refine k_seq_ret ?_
      exact ret1 rfl (by simp only [ev_tmp, ev_const, ev_func, ofConst_int, ofConst_bool, ofConst_str, ofConst_nil, upd_apply, Nat.reduceEqDiff, ↓reduceIte] <;> exact rfl) (Sub.refl _) ⟨by rw [firstIdx_at (p := p) (l := l) (k := k) (by omega) (fun j hj => hk2 j hj (by omega)) (by assumption)], rfl⟩
    · skip
      have h2' := h2; (try simp only [decide_eq_true_eq, decide_eq_false_iff_not, Bool.not_eq_true', Bool.not_false, Bool.not_true, Bool.not_eq_false'] at h2')
      refine w_skip ?_
      refine k_blk_normal ?_
      refine k_seq_normal ?_
      refine w_region ?_
      refine l_cons rfl (p_arith ?_)
      refine l_cons rfl (p_move ?_)
      refine l_nil ?_
      refine k_seq_normal ?_
      exact ⟨l.length - (k + 1), by omega, k + 1, rfl, by omega, fun j hj hjl => by
        rcases Nat.lt_or_eq_of_le (Nat.le_of_lt_succ hj) with h9 | h9
        · exact hk2 j h9 hjl
        · subst h9; assumption, rfl, by simp only [Knows, upd_apply, Nat.reduceEqDiff, ↓reduceIte, and_true, true_and, eq_self] <;> first | exact rfl | exact ⟨rfl, rfl⟩ | exact ⟨rfl, rfl, rfl⟩ | exact ⟨rfl, rfl, rfl, rfl⟩ | exact ⟨rfl, rfl, rfl, rfl, rfl⟩ | exact ⟨rfl, rfl, rfl, rfl, rfl, rfl⟩⟩
  · skip
    have h1' := h1; (try simp only [decide_eq_true_eq, decide_eq_false_iff_not, Bool.not_eq_true', Bool.not_false, Bool.not_true, Bool.not_eq_false'] at h1')
    refine w_exit ?_
    refine k_seq_exit ?_
    refine k_seq_exit ?_
    refine k_blk_here ?_
    refine k_seq_normal ?_
    refine w_seq ?_
    refine w_region ?_
    refine l_cons rfl (p_assign ?_)
    refine l_nil ?_
    refine k_seq_normal ?_
    refine w_ret ?_
    exact ret1 rfl (by simp only [ev_tmp, ev_const, ev_func, ofConst_int, ofConst_bool, ofConst_str, ofConst_nil, upd_apply, Nat.reduceEqDiff, ↓reduceIte] <;> exact rfl) (Sub.refl _) ⟨by rw [firstIdx_no (p := p) (l := l) (fun j hj => hk2 j (by omega) hj)], rfl⟩
end Go.Proofs.YtfdgbghlanbddaaDoor.Av
set_option linter.unusedVariables false
set_option linter.unusedSimpArgs false
set_option maxRecDepth 8000
namespace Go.Proofs.YtfdgbghlanbddaaDoor.Av
open Go.RowKit Go.Proofs
theorem containsFunc {w0 : World} {es : List Ent} {l : List Int} {g : Nat} {l1 l2 : List AV} (p : Int → Bool) (hg : enterB Tryd.prog g = true) (hp : ∀ k, ACalls Tryd.prog w0 g (l1 ++ [.int .i64 k] ++ l2) es fun v es' => v = .bool (p k) ∧ es' = es) :
    ACalls Tryd.prog w0 76 [ints l, .fn (.func g) l1 l2] es fun v es' => v = .bool (l.any p) ∧ es' = es := by
  refine calls2 (N := 9) Tryd.func76 rfl rfl (by decide) ?_
  refine w_seq ?_
  refine w_region ?_
  refine l_cons rfl (p_assign ?_)
  refine l_nil ?_
  refine k_seq_normal ?_
  refine w_seq ?_
  refine w_region ?_
  refine l_cons rfl (p_move ?_)
  refine l_cons rfl (p_move ?_)
  refine l_cons rfl (p_callr en_115 (indexFunc p hg hp) ?_)
  refine l_cons rfl (p_cmp ?_)
  refine l_cons rfl (p_assign ?_)
  refine l_nil ?_
  refine k_seq_normal ?_
  refine w_ret ?_
  exact ret1 rfl (by simp only [ev_tmp, ev_const, ev_func, ofConst_int, ofConst_bool, ofConst_str, ofConst_nil, upd_apply, Nat.reduceEqDiff, ↓reduceIte] <;> exact rfl) (by first | exact Sub.refl _ | exact sub1 _ _ | exact sub2 _ _ _ | exact sub3 _ _ _ _ | exact sub4 _ _ _ _ _ | exact sub5 _ _ _ _ _ _) ⟨by rw [← firstIdx_ge], rfl⟩
theorem may_isnt {w0 : World} {es : List Ent} {id s id2 s2 : Nat} {n : Nf} {k : Int} (hv : at_ es id2 = some (.row s2 97 1 [[.fn (.func 75) [] [.ptr id s 0 0]]])) (hb : at_ es id = some (.row s 36 3 [n.cells])) :
    ACalls Tryd.prog w0 77 [.int .i64 k, .ptr id2 s2 0 0] es fun v es' => v = .bool (!inN n k) ∧ es' = es := by
  refine calls2 (N := 8) Tryd.func77 rfl rfl (by decide) ?_
  refine w_seq ?_
  refine w_region ?_
  refine l_cons rfl (p_assign ?_)
  refine l_nil ?_
  refine k_seq_normal ?_
  refine w_seq ?_
  refine w_region ?_
  refine l_cons rfl (p_loadp ty_97 ?_)
  refine l_cons rfl (p_move ?_)
  refine l_cons rfl (p_callr en_75 (may_is hb) ?_)
  refine l_cons rfl (p_not ?_)
  refine l_cons rfl (p_assign ?_)
  refine l_nil ?_
  refine k_seq_normal ?_
  refine w_ret ?_
  exact ret1 rfl (by simp only [ev_tmp, ev_const, ev_func, ofConst_int, ofConst_bool, ofConst_str, ofConst_nil, upd_apply, Nat.reduceEqDiff, ↓reduceIte] <;> exact rfl) (by first | exact Sub.refl _ | exact sub1 _ _ | exact sub2 _ _ _ | exact sub3 _ _ _ _ | exact sub4 _ _ _ _ _ | exact sub5 _ _ _ _ _ _) ⟨rfl, rfl⟩
theorem may {w0 : World} {es : List Ent} (n : Nf) : ACalls Tryd.prog w0 30 [n.av] es fun v es' => v = .bool (mayN n) ∧ es' = es := by
  unfold Nf.av
  refine calls1 (N := 51) Tryd.func30 rfl rfl (by decide) ?_
  refine w_seq ?_
  refine w_region ?_
  refine l_cons rfl (p_box fun s1 => ?_)
  refine l_cons rfl (p_assign ?_)
  refine l_nil ?_
  refine k_seq_normal ?_
  refine w_seq ?_
  refine w_region ?_
  refine l_cons rfl (p_mkfn ?_)
  refine l_cons rfl (p_alloc ze_97 fun s3 => ?_)
  refine l_cons rfl (p_store ty_97 ?_)
  refine l_nil ?_
  refine k_seq_normal ?_
  refine w_seq ?_
  refine w_seq ?_
  refine w_region ?_
  refine l_cons rfl (p_fap fa_36_0 ?_)
  refine l_cons rfl (p_loadp ty_34 ?_)
  first | refine l_cons rfl (p_lenl sl_34 ?_) | refine l_cons rfl (p_leno sl_34 ?_) | refine l_cons rfl (p_lenn sl_34 ?_)
  refine l_cons rfl (p_cmp ?_)
  refine l_cons rfl (p_move ?_)
  refine g_b rfl (fun h1 => ?_) (fun h1 => ?_)
  · skip
    have h1' := h1; (try simp only [decide_eq_true_eq, decide_eq_false_iff_not, Bool.not_eq_true', Bool.not_false, Bool.not_true, Bool.not_eq_false'] at h1')
    refine (p_loadp ty_97 ?_)
    refine g_y rfl h1 (p_fap fa_36_1 ?_)
    refine g_y rfl h1 (p_loadp ty_3 ?_)
    refine g_y rfl h1 (p_callr en_75 (may_is (at_miss _ (at_hit _ _))) ?_)
    refine g_y rfl h1 (p_not ?_)
    refine l_cons rfl (p_pickf h1 ?_)
    refine l_cons rfl (p_move ?_)
    refine g_b rfl (fun h2 => ?_) (fun h2 => ?_)
    · skip
      have h2' := h2; (try simp only [decide_eq_true_eq, decide_eq_false_iff_not, Bool.not_eq_true', Bool.not_false, Bool.not_true, Bool.not_eq_false'] at h2')
      refine (p_loadp ty_97 ?_)
      refine g_y rfl h2 (p_fap fa_36_2 ?_)
      refine g_y rfl h2 (p_loadp ty_3 ?_)
      refine g_y rfl h2 (p_callr en_75 (may_is (at_miss _ (at_hit _ _))) ?_)
      refine g_y rfl h2 (p_not ?_)
      refine l_cons rfl (p_pickf h2 ?_)
      refine l_nil ?_
      refine k_seq_normal ?_
      refine w_b (fun h3 => ?_) (fun h3 => ?_)
      · skip
        have h3' := h3; (try simp only [decide_eq_true_eq, decide_eq_false_iff_not, Bool.not_eq_true', Bool.not_false, Bool.not_true, Bool.not_eq_false'] at h3')
        refine w_seq ?_
        refine w_region ?_
        refine l_cons rfl (p_assign ?_)
        refine l_nil ?_
        refine k_seq_normal ?_
        refine w_ret ?_
        refine k_seq_ret ?_
        exact ret1 rfl (by simp only [ev_tmp, ev_const, ev_func, ofConst_int, ofConst_bool, ofConst_str, ofConst_nil, upd_apply, Nat.reduceEqDiff, ↓reduceIte] <;> exact rfl) (by first | exact Sub.refl _ | exact sub1 _ _ | exact sub2 _ _ _ | exact sub3 _ _ _ _ | exact sub4 _ _ _ _ _ | exact sub5 _ _ _ _ _ _) ⟨by rw [may_no1 (by first | (left; omega) | (right; simp_all; done))], rfl⟩
      · skip
        have h3' := h3; (try simp only [decide_eq_true_eq, decide_eq_false_iff_not, Bool.not_eq_true', Bool.not_false, Bool.not_true, Bool.not_eq_false'] at h3')
        refine w_skip ?_
        refine k_seq_normal ?_
        refine w_seq ?_
        refine w_seq ?_
        have hst : n.st.length ≤ 2000 := by omega
        refine w_region ?_
        refine l_cons rfl (p_fap fa_36_0 ?_)
        refine l_cons rfl (p_loadp ty_34 ?_)
        refine l_len 26 fun hlen => ?_
        first | refine l_cons rfl (p_lenl sl_34 ?_) | refine l_cons rfl (p_leno sl_34 ?_) | refine l_cons rfl (p_lenn sl_34 ?_)
        refine l_cons rfl (p_move ?_)
        refine l_nil ?_
        refine k_seq_normal ?_
        refine w_block ?_
        refine w_loop (fun m f es' => ∃ k, m = n.st.length - k ∧ k ≤ n.st.length ∧ (n.st.take k).all (okS n) = true ∧ Sub (.row s3 97 1 [[.fn (.func 75) [] [.ptr es.length s1 0 0]]] :: .row s1 36 3 [n.cells] :: es) es' ∧ Knows f [(1, .ptr es.length s1 0 0), (3, .ptr (es.length + 1) s3 0 0), (26, .list 6 (n.st.map St.row)), (27, .int .i64 n.st.length), (28, .int .i64 k)]) (n.st.length) (⟨0, rfl, Nat.zero_le _, rfl, Sub.refl _, by simp only [Knows, upd_apply, Nat.reduceEqDiff, ↓reduceIte, and_true, true_and, eq_self] <;> first | exact rfl | exact ⟨rfl, rfl⟩ | exact ⟨rfl, rfl, rfl⟩ | exact ⟨rfl, rfl, rfl, rfl⟩ | exact ⟨rfl, rfl, rfl, rfl, rfl⟩ | exact ⟨rfl, rfl, rfl, rfl, rfl, rfl⟩⟩) ?_
        rintro m f es' ⟨k, rfl, hk1, hk2, hsub, hk⟩
        refine w_pins _ hsub (hk) ?_
        simp only [pins]
        refine w_seq ?_
        refine w_region ?_
        refine l_cons rfl (p_cmp ?_)
        refine l_nil ?_
        refine k_seq_normal ?_
        refine w_seq ?_
        refine w_b (fun h4 => ?_) (fun h4 => ?_)
        · skip
          have h4' := h4; (try simp only [decide_eq_true_eq, decide_eq_false_iff_not, Bool.not_eq_true', Bool.not_false, Bool.not_true, Bool.not_eq_false'] at h4')
          refine w_skip ?_
          refine k_seq_normal ?_
          refine w_seq ?_
          refine w_block ?_
          refine w_seq ?_
          refine w_region ?_
          refine l_cons rfl (p_ixl sl_34 ?_)
          refine l_cons rfl (p_loadf ty_75 ?_)
          refine l_cons rfl (p_alloc ze_75 fun s5 => ?_)
          refine l_cons rfl (p_store ty_75 ?_)
          refine l_nil ?_
          refine k_seq_normal ?_
          refine w_seq ?_
          refine w_region ?_
          refine l_cons rfl (p_fap fa_75_2 ?_)
          refine l_cons rfl (p_loadp ty_48 ?_)
          first | refine l_cons rfl (p_lenl sl_48 ?_) | refine l_cons rfl (p_leno sl_48 ?_) | refine l_cons rfl (p_lenn sl_48 ?_)
          refine l_cons rfl (p_cmp ?_)
          refine l_cons rfl (p_move ?_)
          refine g_b rfl (fun h5 => ?_) (fun h5 => ?_)
          · skip
            have h5' := h5; (try simp only [decide_eq_true_eq, decide_eq_false_iff_not, Bool.not_eq_true', Bool.not_false, Bool.not_true, Bool.not_eq_false'] at h5')
            refine (p_fap fa_75_1 ?_)
            refine g_y rfl h5 (p_loadp ty_3 ?_)
            refine g_y rfl h5 (p_fap fa_36_0 ?_)
            refine g_y rfl h5 (p_loadp ty_34 ?_)
            first | refine g_y rfl h5 (p_lenl sl_34 ?_) | refine g_y rfl h5 (p_leno sl_34 ?_) | refine g_y rfl h5 (p_lenn sl_34 ?_)
            refine g_y rfl h5 (p_cmp ?_)
            refine l_cons rfl (p_pickf h5 ?_)
            refine l_cons rfl (p_move ?_)
            refine g_b rfl (fun h6 => ?_) (fun h6 => ?_)
            · skip
              have h6' := h6; (try simp only [decide_eq_true_eq, decide_eq_false_iff_not, Bool.not_eq_true', Bool.not_false, Bool.not_true, Bool.not_eq_false'] at h6')
              refine (p_fap fa_75_2 ?_)
              refine g_y rfl h6 (p_loadp ty_48 ?_)
              refine g_y rfl h6 (p_mkfn ?_)
              refine g_y rfl h6 (p_callr en_76 (containsFunc (fun k => !inN n k) en_77 (fun k => may_isnt (n := n) (at_miss _ (at_hit _ _)) (at_miss _ (at_miss _ (at_hit _ _))))) ?_)
              refine l_cons rfl (p_pickf h6 ?_)
              refine l_nil ?_
              refine k_seq_normal ?_
              refine w_b (fun h7 => ?_) (fun h7 => ?_)
              · skip
                have h7' := h7; (try simp only [decide_eq_true_eq, decide_eq_false_iff_not, Bool.not_eq_true', Bool.not_false, Bool.not_true, Bool.not_eq_false'] at h7')
                refine w_seq ?_
                refine w_region ?_
                refine l_cons rfl (p_assign ?_)
                refine l_nil ?_
                refine k_seq_normal ?_
                refine w_ret ?_
                refine k_blk_ret ?_
                refine k_seq_ret ?_
                refine k_seq_ret ?_
                refine k_blk_ret ?_
                refine k_seq_ret ?_
                exact ret1 rfl (by simp only [ev_tmp, ev_const, ev_func, ofConst_int, ofConst_bool, ofConst_str, ofConst_nil, upd_apply, Nat.reduceEqDiff, ↓reduceIte] <;> exact rfl) (by first | exact Sub.refl _ | exact sub1 _ _ | exact sub2 _ _ _ | exact sub3 _ _ _ _ | exact sub4 _ _ _ _ _ | exact sub5 _ _ _ _ _ _) ⟨by rw [may_no2 (k := k) (by omega) (by unfold okS; first | (simp_all; done) | (simp_all; omega))], rfl⟩
              · skip
                have h7' := h7; (try simp only [decide_eq_true_eq, decide_eq_false_iff_not, Bool.not_eq_true', Bool.not_false, Bool.not_true, Bool.not_eq_false'] at h7')
                refine w_skip ?_
                refine k_blk_normal ?_
                refine k_seq_normal ?_
                refine w_region ?_
                refine l_cons rfl (p_arith ?_)
                refine l_cons rfl (p_move ?_)
                refine l_nil ?_
                refine k_seq_normal ?_
                exact ⟨n.st.length - (k + 1), by omega, k + 1, rfl, by omega, take_all (by omega) hk2 (by unfold okS; first | (simp_all; done) | (simp_all; omega)), (by first | exact Sub.refl _ | exact sub1 _ _), by simp only [Knows, upd_apply, Nat.reduceEqDiff, ↓reduceIte, and_true, true_and, eq_self] <;> first | exact rfl | exact ⟨rfl, rfl⟩ | exact ⟨rfl, rfl, rfl⟩ | exact ⟨rfl, rfl, rfl, rfl⟩ | exact ⟨rfl, rfl, rfl, rfl, rfl⟩ | exact ⟨rfl, rfl, rfl, rfl, rfl, rfl⟩⟩
            · skip
              have h6' := h6; (try simp only [decide_eq_true_eq, decide_eq_false_iff_not, Bool.not_eq_true', Bool.not_false, Bool.not_true, Bool.not_eq_false'] at h6')
              refine g_n rfl h6 ?_
              refine g_n rfl h6 ?_
              refine g_n rfl h6 ?_
              refine l_cons rfl (p_pickt h6 ?_)
              refine l_nil ?_
              refine k_seq_normal ?_
              refine w_t rfl ?_
              refine w_seq ?_
              refine w_region ?_
              refine l_cons rfl (p_assign ?_)
              refine l_nil ?_
              refine k_seq_normal ?_
              refine w_ret ?_
              refine k_blk_ret ?_
              refine k_seq_ret ?_
              refine k_seq_ret ?_
              refine k_blk_ret ?_
              refine k_seq_ret ?_
              exact ret1 rfl (by simp only [ev_tmp, ev_const, ev_func, ofConst_int, ofConst_bool, ofConst_str, ofConst_nil, upd_apply, Nat.reduceEqDiff, ↓reduceIte] <;> exact rfl) (by first | exact Sub.refl _ | exact sub1 _ _ | exact sub2 _ _ _ | exact sub3 _ _ _ _ | exact sub4 _ _ _ _ _ | exact sub5 _ _ _ _ _ _) ⟨by rw [may_no2 (k := k) (by omega) (by unfold okS; first | (simp_all; done) | (simp_all; omega))], rfl⟩
          · skip
            have h5' := h5; (try simp only [decide_eq_true_eq, decide_eq_false_iff_not, Bool.not_eq_true', Bool.not_false, Bool.not_true, Bool.not_eq_false'] at h5')
            refine g_n rfl h5 ?_
            refine g_n rfl h5 ?_
            refine g_n rfl h5 ?_
            refine g_n rfl h5 ?_
            refine g_n rfl h5 ?_
            refine l_cons rfl (p_pickt h5 ?_)
            refine l_cons rfl (p_move ?_)
            refine g_n rfl rfl ?_
            refine g_n rfl rfl ?_
            refine g_n rfl rfl ?_
            refine g_n rfl rfl ?_
            refine l_cons rfl (p_pickt rfl ?_)
            refine l_nil ?_
            refine k_seq_normal ?_
            refine w_t rfl ?_
            refine w_seq ?_
            refine w_region ?_
            refine l_cons rfl (p_assign ?_)
            refine l_nil ?_
            refine k_seq_normal ?_
            refine w_ret ?_
            refine k_blk_ret ?_
            refine k_seq_ret ?_
            refine k_seq_ret ?_
            refine k_blk_ret ?_
            refine k_seq_ret ?_
            exact ret1 rfl (by simp only [ev_tmp, ev_const, ev_func, ofConst_int, ofConst_bool, ofConst_str, ofConst_nil, upd_apply, Nat.reduceEqDiff, ↓reduceIte] <;> exact rfl) (by first | exact Sub.refl _ | exact sub1 _ _ | exact sub2 _ _ _ | exact sub3 _ _ _ _ | exact sub4 _ _ _ _ _ | exact sub5 _ _ _ _ _ _) ⟨by rw [may_no2 (k := k) (by omega) (by unfold okS; first | (simp_all; done) | (simp_all; omega))], rfl⟩
        · skip
          have h4' := h4; (try simp only [decide_eq_true_eq, decide_eq_false_iff_not, Bool.not_eq_true', Bool.not_false, Bool.not_true, Bool.not_eq_false'] at h4')
          refine w_exit ?_
          refine k_seq_exit ?_
          refine k_seq_exit ?_
          refine k_blk_here ?_
          refine k_seq_normal ?_
          refine w_seq ?_
          refine w_region ?_
          refine l_cons rfl (p_assign ?_)
          refine l_nil ?_
          refine k_seq_normal ?_
          refine w_ret ?_
          exact ret1 rfl (by simp only [ev_tmp, ev_const, ev_func, ofConst_int, ofConst_bool, ofConst_str, ofConst_nil, upd_apply, Nat.reduceEqDiff, ↓reduceIte] <;> exact rfl) (by first | exact Sub.refl _ | exact sub1 _ _ | exact sub2 _ _ _ | exact sub3 _ _ _ _ | exact sub4 _ _ _ _ _ | exact sub5 _ _ _ _ _ _) ⟨by rw [may_yes (by omega) (by simp_all) (by simp_all) (by rw [← hk2, List.take_of_length_le (by omega)])], rfl⟩
    · skip
      have h2' := h2; (try simp only [decide_eq_true_eq, decide_eq_false_iff_not, Bool.not_eq_true', Bool.not_false, Bool.not_true, Bool.not_eq_false'] at h2')
      refine g_n rfl h2 ?_
      refine g_n rfl h2 ?_
      refine g_n rfl h2 ?_
      refine g_n rfl h2 ?_
      refine l_cons rfl (p_pickt h2 ?_)
      refine l_nil ?_
      refine k_seq_normal ?_
      refine w_t rfl ?_
      refine w_seq ?_
      refine w_region ?_
      refine l_cons rfl (p_assign ?_)
      refine l_nil ?_
      refine k_seq_normal ?_
      refine w_ret ?_
      refine k_seq_ret ?_
      exact ret1 rfl (by simp only [ev_tmp, ev_const, ev_func, ofConst_int, ofConst_bool, ofConst_str, ofConst_nil, upd_apply, Nat.reduceEqDiff, ↓reduceIte] <;> exact rfl) (by first | exact Sub.refl _ | exact sub1 _ _ | exact sub2 _ _ _ | exact sub3 _ _ _ _ | exact sub4 _ _ _ _ _ | exact sub5 _ _ _ _ _ _) ⟨by rw [may_no1 (by first | (left; omega) | (right; simp_all; done))], rfl⟩
  · skip
    have h1' := h1; (try simp only [decide_eq_true_eq, decide_eq_false_iff_not, Bool.not_eq_true', Bool.not_false, Bool.not_true, Bool.not_eq_false'] at h1')
    refine g_n rfl h1 ?_
    refine g_n rfl h1 ?_
    refine g_n rfl h1 ?_
    refine g_n rfl h1 ?_
    refine l_cons rfl (p_pickt h1 ?_)
    refine l_cons rfl (p_move ?_)
    refine g_n rfl rfl ?_
    refine g_n rfl rfl ?_
    refine g_n rfl rfl ?_
    refine g_n rfl rfl ?_
    refine g_n rfl rfl ?_
    refine l_cons rfl (p_pickt rfl ?_)
    refine l_nil ?_
    refine k_seq_normal ?_
    refine w_t rfl ?_
    refine w_seq ?_
    refine w_region ?_
    refine l_cons rfl (p_assign ?_)
    refine l_nil ?_
    refine k_seq_normal ?_
    refine w_ret ?_
    refine k_seq_ret ?_
    exact ret1 rfl (by simp only [ev_tmp, ev_const, ev_func, ofConst_int, ofConst_bool, ofConst_str, ofConst_nil, upd_apply, Nat.reduceEqDiff, ↓reduceIte] <;> exact rfl) (by first | exact Sub.refl _ | exact sub1 _ _ | exact sub2 _ _ _ | exact sub3 _ _ _ _ | exact sub4 _ _ _ _ _ | exact sub5 _ _ _ _ _ _) ⟨by rw [may_no1 (by first | (left; omega) | (right; simp_all; done))], rfl⟩
end Go.Proofs.YtfdgbghlanbddaaDoor.Av
set_option linter.unusedVariables false
set_option linter.unusedSimpArgs false
set_option maxRecDepth 8000
namespace Go.Proofs.YtfdgbghlanbddaaDoor.Av
open Go.RowKit Go.Proofs
theorem meet_walk {w0 : World} {T : List Ent} {sS s5 s6 sW : Nat} {bs : List Bool} {ws : List Int} (k : Int) (hbs : bs.length ≤ 2000) (hws : ws.length ≤ 2000) :
    ACalls Tryd.prog w0 116 [.int .i64 k, .ptr (T.length + 1) s5 0 0, .ptr (T.length + 2) s6 0 0] (clE T sS s5 s6 sW bs ws) fun _ es' => ∃ sW', es' = clE T sS s5 s6 sW' (meetS bs k) (meetW bs ws k) := by
  unfold clE
  refine calls3 (N := 26) Tryd.func116 rfl rfl (by decide) ?_
  refine w_seq ?_
  refine w_region ?_
  refine l_cons rfl (p_move ?_)
  refine l_cons rfl (p_cmp ?_)
  refine l_cons rfl (p_move ?_)
  refine g_b rfl (fun h1 => ?_) (fun h1 => ?_)
  · skip
    have h1' := h1; (try simp only [decide_eq_true_eq, decide_eq_false_iff_not, Bool.not_eq_true', Bool.not_false, Bool.not_true, Bool.not_eq_false'] at h1')
    refine (p_move ?_)
    refine g_y rfl h1 (p_loadp ty_60 ?_)
    first | refine g_y rfl h1 (p_lenl sl_60 ?_) | refine g_y rfl h1 (p_leno sl_60 ?_) | refine g_y rfl h1 (p_lenn sl_60 ?_)
    refine g_y rfl h1 (p_cmp ?_)
    refine l_cons rfl (p_pickt h1 ?_)
    refine l_cons rfl (p_move ?_)
    refine g_b rfl (fun h2 => ?_) (fun h2 => ?_)
    · skip
      have h2' := h2; (try simp only [decide_eq_true_eq, decide_eq_false_iff_not, Bool.not_eq_true', Bool.not_false, Bool.not_true, Bool.not_eq_false'] at h2')
      refine (p_loadp ty_60 ?_)
      refine g_y rfl h2 (p_move ?_)
      first | refine g_y rfl h2 (p_ixl sl_60 ?_) | refine g_y rfl h2 (p_ixo sl_60 ?_)
      first | refine g_y rfl h2 (p_loadf ty_4 ?_) | refine g_y rfl h2 (p_loadp ty_4 ?_)
      refine g_y rfl h2 (p_not ?_)
      refine l_cons rfl (p_pickt h2 ?_)
      refine l_nil ?_
      refine k_seq_normal ?_
      refine w_b (fun h3 => ?_) (fun h3 => ?_)
      · skip
        have h3' := h3; (try simp only [decide_eq_true_eq, decide_eq_false_iff_not, Bool.not_eq_true', Bool.not_false, Bool.not_true, Bool.not_eq_false'] at h3')
        refine w_seq ?_
        refine w_region ?_
        refine l_cons rfl (p_loadp ty_60 ?_)
        refine l_cons rfl (p_move ?_)
        first | refine l_cons rfl (p_ixl sl_60 ?_) | refine l_cons rfl (p_ixo sl_60 ?_)
        refine l_cons rfl (p_store ty_4 ?_)
        refine l_nil ?_
        refine k_seq_normal ?_
        refine w_region ?_
        refine l_cons rfl (p_loadp ty_48 ?_)
        refine l_cons rfl (p_move ?_)
        refine l_cons rfl (p_buildList sl_48 ze_3 ?_)
        refine l_cons rfl (p_append sl_48 by_3 ze_3 (fun s25 => ?_))
        refine l_cons rfl (p_store ty_48 ?_)
        refine l_nil ?_
        first
        | exact retn0 rfl (Sub.refl _) ⟨_, by
            have hm : meetB bs k = true := meet_yes (by omega) (by omega) (by assumption)
            rw [meetS, meetW, if_pos hm, if_pos hm, List.map_append, List.map_set]
            rfl⟩
        | exact retn0 rfl (Sub.refl _) ⟨sW, by
            have hm : meetB bs k = false := meet_no (by first | exact .inl (by omega) | exact .inr (.inl (by omega)) | exact .inr (.inr ⟨by omega, by assumption⟩))
            rw [meetS, meetW, hm]
            rfl⟩
      · skip
        have h3' := h3; (try simp only [decide_eq_true_eq, decide_eq_false_iff_not, Bool.not_eq_true', Bool.not_false, Bool.not_true, Bool.not_eq_false'] at h3')
        refine w_skip ?_
        first
        | exact retn0 rfl (Sub.refl _) ⟨_, by
            have hm : meetB bs k = true := meet_yes (by omega) (by omega) (by assumption)
            rw [meetS, meetW, if_pos hm, if_pos hm, List.map_append, List.map_set]
            rfl⟩
        | exact retn0 rfl (Sub.refl _) ⟨sW, by
            have hm : meetB bs k = false := meet_no (by first | exact .inl (by omega) | exact .inr (.inl (by omega)) | exact .inr (.inr ⟨by omega, by assumption⟩))
            rw [meetS, meetW, hm]
            rfl⟩
    · skip
      have h2' := h2; (try simp only [decide_eq_true_eq, decide_eq_false_iff_not, Bool.not_eq_true', Bool.not_false, Bool.not_true, Bool.not_eq_false'] at h2')
      refine g_n rfl h2 ?_
      refine g_n rfl h2 ?_
      refine g_n rfl h2 ?_
      refine g_n rfl h2 ?_
      refine l_cons rfl (p_pickf h2 ?_)
      refine l_nil ?_
      refine k_seq_normal ?_
      refine w_f rfl ?_
      refine w_skip ?_
      first
      | exact retn0 rfl (Sub.refl _) ⟨_, by
          have hm : meetB bs k = true := meet_yes (by omega) (by omega) (by assumption)
          rw [meetS, meetW, if_pos hm, if_pos hm, List.map_append, List.map_set]
          rfl⟩
      | exact retn0 rfl (Sub.refl _) ⟨sW, by
          have hm : meetB bs k = false := meet_no (by first | exact .inl (by omega) | exact .inr (.inl (by omega)) | exact .inr (.inr ⟨by omega, by assumption⟩))
          rw [meetS, meetW, hm]
          rfl⟩
  · skip
    have h1' := h1; (try simp only [decide_eq_true_eq, decide_eq_false_iff_not, Bool.not_eq_true', Bool.not_false, Bool.not_true, Bool.not_eq_false'] at h1')
    refine g_n rfl h1 ?_
    refine g_n rfl h1 ?_
    refine g_n rfl h1 ?_
    refine l_cons rfl (p_pickf h1 ?_)
    refine l_cons rfl (p_move ?_)
    refine g_n rfl rfl ?_
    refine g_n rfl rfl ?_
    refine g_n rfl rfl ?_
    refine g_n rfl rfl ?_
    refine g_n rfl rfl ?_
    refine l_cons rfl (p_pickf rfl ?_)
    refine l_nil ?_
    refine k_seq_normal ?_
    refine w_f rfl ?_
    refine w_skip ?_
    first
    | exact retn0 rfl (Sub.refl _) ⟨_, by
        have hm : meetB bs k = true := meet_yes (by omega) (by omega) (by assumption)
        rw [meetS, meetW, if_pos hm, if_pos hm, List.map_append, List.map_set]
        rfl⟩
    | exact retn0 rfl (Sub.refl _) ⟨sW, by
        have hm : meetB bs k = false := meet_no (by first | exact .inl (by omega) | exact .inr (.inl (by omega)) | exact .inr (.inr ⟨by omega, by assumption⟩))
        rw [meetS, meetW, hm]
        rfl⟩
theorem closed_walk {w0 : World} {es : List Ent} (n : Nf) (l : List Int) (hn : n.st.length ≤ 2000) :
    ACalls Tryd.prog w0 78 [n.av, ints l] es fun v es' => v = ints (closed n l) ∧ es' = es := by
  unfold Nf.av ints
  refine calls2 (N := 74) Tryd.func78 rfl rfl (by decide) ?_
  refine w_seq ?_
  refine w_region ?_
  refine l_cons rfl (p_box fun s2 => ?_)
  refine l_cons rfl (p_assign ?_)
  refine l_nil ?_
  refine k_seq_normal ?_
  refine w_seq ?_
  refine w_len 1 fun hl => ?_
  rw [List.length_map] at hl
  simp only [most] at hl
  refine w_region ?_
  refine l_cons rfl (p_fap fa_36_0 ?_)
  refine l_cons rfl (p_loadp ty_34 ?_)
  first | refine l_cons rfl (p_lenl sl_34 ?_) | refine l_cons rfl (p_leno sl_34 ?_) | refine l_cons rfl (p_lenn sl_34 ?_)
  refine l_cons rfl (p_makeSlice sl_60 by_4 ze_4  fun s19 => ?_)
  refine l_cons rfl (p_alloc ze_60 fun s5 => ?_)
  refine l_cons rfl (p_store ty_60 ?_)
  refine l_nil ?_
  refine k_seq_normal ?_
  refine w_seq ?_
  refine w_region ?_
  refine l_cons rfl (p_alloc ze_48 fun s6 => ?_)
  refine l_nil ?_
  refine k_seq_normal ?_
  refine w_seq ?_
  refine w_adoptVar 3 1 fun sW => ?_
  refine w_region ?_
  refine l_cons rfl (p_mkfn ?_)
  refine l_cons rfl (p_assign ?_)
  refine l_nil ?_
  refine k_seq_normal ?_
  refine w_seq ?_
  refine w_seq ?_
  refine w_region ?_
  refine l_cons rfl (p_move ?_)
  refine l_cons rfl (p_lenl sl_48 ?_)
  refine l_cons rfl (p_move ?_)
  refine l_nil ?_
  refine k_seq_normal ?_
  refine w_block ?_
  refine w_loop (fun m f es' => ∃ k bs ws sW, m = l.length - k ∧ k ≤ l.length ∧ CI n l bs ws (l.take k) none ∧ es' = clE (.row s2 36 3 [n.cells] :: es) s19 s5 s6 sW bs ws ∧ Knows f [(2, .ptr es.length s2 0 0), (5, .ptr (es.length + 2) s5 0 0), (6, .ptr (es.length + 3) s6 0 0), (7, .fn (.func 116) [] [.ptr (es.length + 2) s5 0 0, .ptr (es.length + 3) s6 0 0]), (21, .list 1 (l.map fun n => [.int .i64 n])), (22, .int .i64 l.length), (23, .int .i64 k)]) (l.length) (⟨0, _, [], sW, rfl, Nat.zero_le _, CI.start n l, by simp [clE, List.map_replicate, Nf.cells], by simp only [Knows, upd_apply, Nat.reduceEqDiff, ↓reduceIte, and_true, true_and, eq_self] <;> first | exact rfl | exact ⟨rfl, rfl⟩ | exact ⟨rfl, rfl, rfl⟩ | exact ⟨rfl, rfl, rfl, rfl⟩ | exact ⟨rfl, rfl, rfl, rfl, rfl⟩ | exact ⟨rfl, rfl, rfl, rfl, rfl, rfl⟩⟩) ?_
  rintro m f es' ⟨k, bs, ws, sW, rfl, hk1, hci, rfl, hk⟩
  refine w_pins _ (Sub.refl _) (hk) ?_
  simp only [pins]
  refine w_seq ?_
  refine w_region ?_
  refine l_cons rfl (p_cmp ?_)
  refine l_nil ?_
  refine k_seq_normal ?_
  refine w_seq ?_
  refine w_b (fun h1 => ?_) (fun h1 => ?_)
  · skip
    have h1' := h1; (try simp only [decide_eq_true_eq, decide_eq_false_iff_not, Bool.not_eq_true', Bool.not_false, Bool.not_true, Bool.not_eq_false'] at h1')
    refine w_skip ?_
    refine k_seq_normal ?_
    refine w_seq ?_
    refine w_block ?_
    refine w_seq ?_
    refine w_region ?_
    refine l_cons rfl (p_ixl sl_48 ?_)
    refine l_cons rfl (p_loadf ty_3 ?_)
    refine l_cons rfl (p_assign ?_)
    refine l_nil ?_
    refine k_seq_normal ?_
    refine w_region ?_
    refine l_cons rfl (p_move ?_)
    refine l_cons rfl (p_move ?_)
    refine l_cons rfl (p_call en_116 ((meet_walk _ (by have := hci.len; omega) (by have := hci.short; omega)).mono ?_))
    rintro _ _ ⟨sW', rfl⟩
    refine l_nil ?_
    refine k_blk_normal ?_
    refine k_seq_normal ?_
    refine w_region ?_
    refine l_cons rfl (p_arith ?_)
    refine l_cons rfl (p_move ?_)
    refine l_nil ?_
    refine k_seq_normal ?_
    exact ⟨l.length - (k + 1), by omega, k + 1, _, _, sW', rfl, by omega, CI.root (by omega) hci, rfl, by simp only [Knows, upd_apply, Nat.reduceEqDiff, ↓reduceIte, and_true, true_and, eq_self] <;> first | exact rfl | exact ⟨rfl, rfl⟩ | exact ⟨rfl, rfl, rfl⟩ | exact ⟨rfl, rfl, rfl, rfl⟩ | exact ⟨rfl, rfl, rfl, rfl, rfl⟩ | exact ⟨rfl, rfl, rfl, rfl, rfl, rfl⟩⟩
  · skip
    have h1' := h1; (try simp only [decide_eq_true_eq, decide_eq_false_iff_not, Bool.not_eq_true', Bool.not_false, Bool.not_true, Bool.not_eq_false'] at h1')
    refine w_exit ?_
    refine k_seq_exit ?_
    refine k_seq_exit ?_
    refine k_blk_here ?_
    refine k_seq_normal ?_
    refine w_seq ?_
    refine w_block ?_
    refine w_loop (fun m f es' => ∃ bs ws sW, m = bs.count false + ws.length ∧ CI n l bs ws l none ∧ es' = clE (.row s2 36 3 [n.cells] :: es) s19 s5 s6 sW bs ws ∧ Knows f [(2, .ptr es.length s2 0 0), (5, .ptr (es.length + 2) s5 0 0), (6, .ptr (es.length + 3) s6 0 0), (7, .fn (.func 116) [] [.ptr (es.length + 2) s5 0 0, .ptr (es.length + 3) s6 0 0])]) (_) (⟨bs, ws, sW, rfl, by simpa [show k = l.length by omega] using hci, rfl, by simp only [Knows, upd_apply, Nat.reduceEqDiff, ↓reduceIte, and_true, true_and, eq_self] <;> first | exact rfl | exact ⟨rfl, rfl⟩ | exact ⟨rfl, rfl, rfl⟩ | exact ⟨rfl, rfl, rfl, rfl⟩ | exact ⟨rfl, rfl, rfl, rfl, rfl⟩ | exact ⟨rfl, rfl, rfl, rfl, rfl, rfl⟩⟩) ?_
    rintro m f es' ⟨bs, ws, sW, rfl, hci, rfl, hk⟩
    have hsh := hci.short
    have hcl := hci.len
    refine w_pins _ (Sub.refl _) (hk) ?_
    simp only [pins]
    refine w_seq ?_
    refine w_seq ?_
    refine w_region ?_
    refine l_cons rfl (p_loadp ty_48 ?_)
    first | refine l_cons rfl (p_lenl sl_48 ?_) | refine l_cons rfl (p_leno sl_48 ?_) | refine l_cons rfl (p_lenn sl_48 ?_)
    refine l_cons rfl (p_cmp ?_)
    refine l_nil ?_
    refine k_seq_normal ?_
    refine w_b (fun h2 => ?_) (fun h2 => ?_)
    · skip
      have h2' := h2; (try simp only [decide_eq_true_eq, decide_eq_false_iff_not, Bool.not_eq_true', Bool.not_false, Bool.not_true, Bool.not_eq_false'] at h2')
      refine w_skip ?_
      refine k_seq_normal ?_
      refine w_block ?_
      refine w_seq ?_
      have hpos : ws.length - 1 < ws.length := by omega
      have hlast := hci.wait (ws[ws.length - 1]'hpos) (List.getElem_mem _)
      have hc := on_lt hlast.2
      rw [hci.len] at hc
      refine w_region ?_
      refine l_cons rfl (p_loadp ty_48 ?_)
      refine l_cons rfl (p_loadp ty_48 ?_)
      first | refine l_cons rfl (p_lenl sl_48 ?_) | refine l_cons rfl (p_leno sl_48 ?_) | refine l_cons rfl (p_lenn sl_48 ?_)
      refine l_cons rfl (p_arith ?_)
      refine l_cons rfl (p_ixo sl_48 (a := .ptr (es.length + 4) sW (ws.length - 1) 0) ?_ (ho := congrArg (fun i => AV.ptr (es.length + 4) sW i 0) (by omega)))
      refine l_cons rfl (p_loadp ty_3 ?_)
      refine l_cons rfl (p_assign ?_)
      refine l_nil ?_
      refine k_seq_normal ?_
      refine w_seq ?_
      refine w_region ?_
      refine l_cons rfl (p_loadp ty_48 ?_)
      refine l_cons rfl (p_loadp ty_48 ?_)
      first | refine l_cons rfl (p_lenl sl_48 ?_) | refine l_cons rfl (p_leno sl_48 ?_) | refine l_cons rfl (p_lenn sl_48 ?_)
      refine l_cons rfl (p_arith ?_)
      refine l_cons rfl (p_sliceo (h := ws.length - 1) sl_48 fun s44 => ?_)
      refine l_cons rfl (p_store ty_48 ?_)
      refine l_nil ?_
      refine k_seq_normal ?_
      refine w_seq ?_
      refine w_region ?_
      refine l_cons rfl (p_fap fa_36_0 ?_)
      refine l_cons rfl (p_loadp ty_34 ?_)
      refine l_cons rfl (p_move ?_)
      first | refine l_cons rfl (p_ixl sl_34 ?_) | refine l_cons rfl (p_ixo sl_34 ?_)
      first | refine l_cons rfl (p_fap fa_75_2 ?_) | refine l_cons rfl (p_faf fa_75_2 ?_)
      first | refine l_cons rfl (p_loadf ty_48 ?_) | refine l_cons rfl (p_loadp ty_48 ?_)
      refine l_len 50 fun hfl => ?_
      simp only [List.length_map, most] at hfl
      first | refine l_cons rfl (p_lenl sl_48 ?_) | refine l_cons rfl (p_leno sl_48 ?_) | refine l_cons rfl (p_lenn sl_48 ?_)
      refine l_cons rfl (p_move ?_)
      refine l_nil ?_
      refine k_seq_normal ?_
      refine w_block ?_
      refine w_loop (fun m f es' => ∃ j bs' ws' sW', m = ((n.st[(ws[ws.length - 1]'hpos).toNat]'hc).free).length - j ∧ j ≤ ((n.st[(ws[ws.length - 1]'hpos).toNat]'hc).free).length ∧ bs'.count false + ws'.length + 1 = bs.count false + ws.length ∧ CI n l bs' ws' l (some ((ws[ws.length - 1]'hpos).toNat, j)) ∧ es' = clE (.row s2 36 3 [n.cells] :: es) s19 s5 s6 sW' bs' ws' ∧ Knows f [(2, .ptr es.length s2 0 0), (5, .ptr (es.length + 2) s5 0 0), (6, .ptr (es.length + 3) s6 0 0), (7, .fn (.func 116) [] [.ptr (es.length + 2) s5 0 0, .ptr (es.length + 3) s6 0 0]), (50, .list 1 ((n.st[(ws[ws.length - 1]'hpos).toNat]'hc).free.map fun n => [.int .i64 n])), (51, .int .i64 ((n.st[(ws[ws.length - 1]'hpos).toNat]'hc).free).length), (52, .int .i64 j)]) (((n.st[(ws[ws.length - 1]'hpos).toNat]'hc).free).length) (⟨0, bs, ws.take (ws.length - 1), s44, rfl, Nat.zero_le _, by rw [List.length_take]; omega, CI.pop (by omega) hci, by simp [clE, List.map_take], by simp only [Knows, upd_apply, Nat.reduceEqDiff, ↓reduceIte, and_true, true_and, eq_self] <;> first | exact rfl | exact ⟨rfl, rfl⟩ | exact ⟨rfl, rfl, rfl⟩ | exact ⟨rfl, rfl, rfl, rfl⟩ | exact ⟨rfl, rfl, rfl, rfl, rfl⟩ | exact ⟨rfl, rfl, rfl, rfl, rfl, rfl⟩⟩) ?_
      rintro m f es' ⟨j, bs', ws', sW', rfl, hk1, hms, hci, rfl, hk⟩
      have hcl := hci.len
      refine w_pins _ (Sub.refl _) (hk) ?_
      simp only [pins]
      refine w_seq ?_
      refine w_region ?_
      refine l_cons rfl (p_cmp ?_)
      refine l_nil ?_
      refine k_seq_normal ?_
      refine w_seq ?_
      refine w_b (fun h3 => ?_) (fun h3 => ?_)
      · skip
        have h3' := h3; (try simp only [decide_eq_true_eq, decide_eq_false_iff_not, Bool.not_eq_true', Bool.not_false, Bool.not_true, Bool.not_eq_false'] at h3')
        refine w_skip ?_
        refine k_seq_normal ?_
        refine w_seq ?_
        refine w_block ?_
        refine w_seq ?_
        refine w_region ?_
        refine l_cons rfl (p_ixl sl_48 ?_)
        refine l_cons rfl (p_loadf ty_3 ?_)
        refine l_cons rfl (p_assign ?_)
        refine l_nil ?_
        refine k_seq_normal ?_
        refine w_region ?_
        refine l_cons rfl (p_move ?_)
        refine l_cons rfl (p_move ?_)
        refine l_cons rfl (p_call en_116 ((meet_walk _ (by have := hci.len; omega) (by have := hci.short; omega)).mono ?_))
        rintro _ _ ⟨sW2, rfl⟩
        refine l_nil ?_
        refine k_blk_normal ?_
        refine k_seq_normal ?_
        refine w_region ?_
        refine l_cons rfl (p_arith ?_)
        refine l_cons rfl (p_move ?_)
        refine l_nil ?_
        refine k_seq_normal ?_
        exact ⟨((n.st[(ws[ws.length - 1]'hpos).toNat]'hc).free).length - (j + 1), by omega, j + 1, _, _, sW2, rfl, by omega, by have := meet_measure bs' ws' (((n.st[(ws[ws.length - 1]'hpos).toNat]'hc).free)[j]'(by omega)); omega, CI.way hc (by omega) hci, rfl, by simp only [Knows, upd_apply, Nat.reduceEqDiff, ↓reduceIte, and_true, true_and, eq_self] <;> first | exact rfl | exact ⟨rfl, rfl⟩ | exact ⟨rfl, rfl, rfl⟩ | exact ⟨rfl, rfl, rfl, rfl⟩ | exact ⟨rfl, rfl, rfl, rfl, rfl⟩ | exact ⟨rfl, rfl, rfl, rfl, rfl, rfl⟩⟩
      · skip
        have h3' := h3; (try simp only [decide_eq_true_eq, decide_eq_false_iff_not, Bool.not_eq_true', Bool.not_false, Bool.not_true, Bool.not_eq_false'] at h3')
        refine w_exit ?_
        refine k_seq_exit ?_
        refine k_seq_exit ?_
        refine k_blk_here ?_
        refine k_blk_normal ?_
        refine k_seq_normal ?_
        have hj : j = ((n.st[(ws[ws.length - 1]'hpos).toNat]'hc).free).length := by omega
        subst hj
        exact ⟨bs'.count false + ws'.length, by omega, bs', ws', sW', rfl, CI.full hc hci, rfl, by simp only [Knows, upd_apply, Nat.reduceEqDiff, ↓reduceIte, and_true, true_and, eq_self] <;> first | exact rfl | exact ⟨rfl, rfl⟩ | exact ⟨rfl, rfl, rfl⟩ | exact ⟨rfl, rfl, rfl, rfl⟩ | exact ⟨rfl, rfl, rfl, rfl, rfl⟩ | exact ⟨rfl, rfl, rfl, rfl, rfl, rfl⟩⟩
    · skip
      have h2' := h2; (try simp only [decide_eq_true_eq, decide_eq_false_iff_not, Bool.not_eq_true', Bool.not_false, Bool.not_true, Bool.not_eq_false'] at h2')
      refine w_exit ?_
      refine k_seq_exit ?_
      refine k_seq_exit ?_
      refine k_blk_here ?_
      have hws : ws = [] := List.length_eq_zero_iff.1 (by omega)
      subst hws
      refine k_seq_normal ?_
      refine w_seq ?_
      refine w_region ?_
      refine l_cons rfl (p_assign ?_)
      refine l_nil ?_
      refine k_seq_normal ?_
      refine w_seq ?_
      refine w_seq ?_
      refine w_adopt 13 3 1 rfl fun s13 => ?_
      simp only [upd_upd]
      refine w_region ?_
      refine l_cons rfl (p_loadp ty_60 ?_)
      first | refine l_cons rfl (p_lenl sl_60 ?_) | refine l_cons rfl (p_leno sl_60 ?_) | refine l_cons rfl (p_lenn sl_60 ?_)
      refine l_cons rfl (p_move ?_)
      refine l_nil ?_
      refine k_seq_normal ?_
      refine w_block ?_
      refine w_loop (fun m f es' => ∃ k s13, m = bs.length - k ∧ k ≤ bs.length ∧ Sub (.row s13 3 1 ((marks bs k).map fun n => [.int .i64 n]) :: clE (.row s2 36 3 [n.cells] :: es) s19 s5 s6 sW bs []) es' ∧ Knows f [(13, .own (es.length + 5) s13), (60, .own (es.length + 1) s19), (61, .int .i64 bs.length), (62, .int .i64 k)]) (bs.length) (⟨0, s13, rfl, Nat.zero_le _, Sub.refl _, by simp only [Knows, upd_apply, Nat.reduceEqDiff, ↓reduceIte, and_true, true_and, eq_self] <;> first | exact rfl | exact ⟨rfl, rfl⟩ | exact ⟨rfl, rfl, rfl⟩ | exact ⟨rfl, rfl, rfl, rfl⟩ | exact ⟨rfl, rfl, rfl, rfl, rfl⟩ | exact ⟨rfl, rfl, rfl, rfl, rfl, rfl⟩⟩) ?_
      rintro m f es' ⟨k, s13, rfl, hk1, hsub, hk⟩
      have hml := marks_len bs k
      have hcl := hci.len
      refine w_pins _ hsub (hk) ?_
      simp only [pins]
      refine w_seq ?_
      refine w_region ?_
      refine l_cons rfl (p_cmp ?_)
      refine l_nil ?_
      refine k_seq_normal ?_
      refine w_seq ?_
      refine w_b (fun h4 => ?_) (fun h4 => ?_)
      · skip
        have h4' := h4; (try simp only [decide_eq_true_eq, decide_eq_false_iff_not, Bool.not_eq_true', Bool.not_false, Bool.not_true, Bool.not_eq_false'] at h4')
        refine w_skip ?_
        refine k_seq_normal ?_
        refine w_seq ?_
        refine w_block ?_
        refine w_seq ?_
        refine w_region ?_
        refine l_cons rfl (p_move ?_)
        refine l_cons rfl (p_ixo sl_60 ?_)
        refine l_cons rfl (p_loadp ty_4 ?_)
        refine l_cons rfl (p_assign ?_)
        refine l_cons rfl (p_assign ?_)
        refine l_nil ?_
        refine k_seq_normal ?_
        refine w_seq ?_
        refine w_region ?_
        refine l_cons rfl (p_move ?_)
        refine l_nil ?_
        refine k_seq_normal ?_
        refine w_b (fun h5 => ?_) (fun h5 => ?_)
        · skip
          have h5' := h5; (try simp only [decide_eq_true_eq, decide_eq_false_iff_not, Bool.not_eq_true', Bool.not_false, Bool.not_true, Bool.not_eq_false'] at h5')
          refine w_region ?_
          refine l_cons rfl (p_move ?_)
          refine l_cons rfl (p_move ?_)
          refine l_cons rfl (p_buildList sl_48 ze_3 ?_)
          refine l_cons rfl (p_append sl_48 by_3 ze_3 (fun s71 => ?_))
          refine l_cons rfl (p_assign ?_)
          refine l_nil ?_
          refine k_blk_normal ?_
          refine k_seq_normal ?_
          refine w_region ?_
          refine l_cons rfl (p_arith ?_)
          refine l_cons rfl (p_move ?_)
          refine l_nil ?_
          refine k_seq_normal ?_
          first
          | exact ⟨bs.length - (k + 1), by omega, k + 1, s71, rfl, by omega, (by rw [marks_succ bs k (by omega), if_pos (by assumption), List.map_append]; exact Sub.refl _), by simp only [Knows, upd_apply, Nat.reduceEqDiff, ↓reduceIte, and_true, true_and, eq_self] <;> first | exact rfl | exact ⟨rfl, rfl⟩ | exact ⟨rfl, rfl, rfl⟩ | exact ⟨rfl, rfl, rfl, rfl⟩ | exact ⟨rfl, rfl, rfl, rfl, rfl⟩ | exact ⟨rfl, rfl, rfl, rfl, rfl, rfl⟩⟩
          | exact ⟨bs.length - (k + 1), by omega, k + 1, s13, rfl, by omega, (by rw [marks_succ bs k (by omega), if_neg (by simp_all)]; exact Sub.refl _), by simp only [Knows, upd_apply, Nat.reduceEqDiff, ↓reduceIte, and_true, true_and, eq_self] <;> first | exact rfl | exact ⟨rfl, rfl⟩ | exact ⟨rfl, rfl, rfl⟩ | exact ⟨rfl, rfl, rfl, rfl⟩ | exact ⟨rfl, rfl, rfl, rfl, rfl⟩ | exact ⟨rfl, rfl, rfl, rfl, rfl, rfl⟩⟩
        · skip
          have h5' := h5; (try simp only [decide_eq_true_eq, decide_eq_false_iff_not, Bool.not_eq_true', Bool.not_false, Bool.not_true, Bool.not_eq_false'] at h5')
          refine w_skip ?_
          refine k_blk_normal ?_
          refine k_seq_normal ?_
          refine w_region ?_
          refine l_cons rfl (p_arith ?_)
          refine l_cons rfl (p_move ?_)
          refine l_nil ?_
          refine k_seq_normal ?_
          first
          | exact ⟨bs.length - (k + 1), by omega, k + 1, s71, rfl, by omega, (by rw [marks_succ bs k (by omega), if_pos (by assumption), List.map_append]; exact Sub.refl _), by simp only [Knows, upd_apply, Nat.reduceEqDiff, ↓reduceIte, and_true, true_and, eq_self] <;> first | exact rfl | exact ⟨rfl, rfl⟩ | exact ⟨rfl, rfl, rfl⟩ | exact ⟨rfl, rfl, rfl, rfl⟩ | exact ⟨rfl, rfl, rfl, rfl, rfl⟩ | exact ⟨rfl, rfl, rfl, rfl, rfl, rfl⟩⟩
          | exact ⟨bs.length - (k + 1), by omega, k + 1, s13, rfl, by omega, (by rw [marks_succ bs k (by omega), if_neg (by simp_all)]; exact Sub.refl _), by simp only [Knows, upd_apply, Nat.reduceEqDiff, ↓reduceIte, and_true, true_and, eq_self] <;> first | exact rfl | exact ⟨rfl, rfl⟩ | exact ⟨rfl, rfl, rfl⟩ | exact ⟨rfl, rfl, rfl, rfl⟩ | exact ⟨rfl, rfl, rfl, rfl, rfl⟩ | exact ⟨rfl, rfl, rfl, rfl, rfl, rfl⟩⟩
      · skip
        have h4' := h4; (try simp only [decide_eq_true_eq, decide_eq_false_iff_not, Bool.not_eq_true', Bool.not_false, Bool.not_true, Bool.not_eq_false'] at h4')
        refine w_exit ?_
        refine k_seq_exit ?_
        refine k_seq_exit ?_
        refine k_blk_here ?_
        refine k_seq_normal ?_
        refine w_seq ?_
        refine w_freezeTop 13 ?_
        refine w_region ?_
        refine l_cons rfl (p_move ?_)
        refine l_cons rfl (p_assign ?_)
        refine l_nil ?_
        refine k_seq_normal ?_
        refine w_ret ?_
        exact ret1 rfl (by simp only [ev_tmp, ev_const, ev_func, ofConst_int, ofConst_bool, ofConst_str, ofConst_nil, upd_apply, Nat.reduceEqDiff, ↓reduceIte] <;> exact rfl) (by first | exact Sub.refl _ | exact sub1 _ _ | exact sub2 _ _ _ | exact sub3 _ _ _ _ | exact sub4 _ _ _ _ _ | exact sub5 _ _ _ _ _ _) ⟨by rw [show k = bs.length by omega, marks_closed hci], rfl⟩
end Go.Proofs.YtfdgbghlanbddaaDoor.Av
set_option linter.unusedVariables false
set_option linter.unusedSimpArgs false
set_option maxRecDepth 8000
namespace Go.Proofs.YtfdgbghlanbddaaDoor.Av
open Go.RowKit Go.Proofs
theorem close_walk {w0 : World} {es : List Ent} (n : Nf) (l : List Int) : ACalls Tryd.prog w0 37 [n.av, ints l] es fun v es' => v = ints (closeN n l) ∧ es' = es := by
  unfold Nf.av ints
  refine calls2 (N := 11) Tryd.func37 rfl rfl (by decide) ?_
  refine w_seq ?_
  refine w_region ?_
  refine l_cons rfl (p_box fun s2 => ?_)
  refine l_cons rfl (p_assign ?_)
  refine l_nil ?_
  refine k_seq_normal ?_
  refine w_seq ?_
  refine w_seq ?_
  refine w_region ?_
  refine l_cons rfl (p_loadp ty_36 ?_)
  refine l_cons rfl (p_callr en_30 (may n) ?_)
  refine l_cons rfl (p_not ?_)
  refine l_nil ?_
  refine k_seq_normal ?_
  refine w_b (fun h1 => ?_) (fun h1 => ?_)
  · skip
    have h1' := h1; (try simp only [decide_eq_true_eq, decide_eq_false_iff_not, Bool.not_eq_true', Bool.not_false, Bool.not_true, Bool.not_eq_false'] at h1')
    refine w_seq ?_
    refine w_region ?_
    refine l_cons rfl (p_assign ?_)
    refine l_nil ?_
    refine k_seq_normal ?_
    refine w_nilList 4 1 ?_
    refine w_ret ?_
    refine k_seq_ret ?_
    exact ret1 rfl (by simp only [ev_tmp, ev_const, ev_func, ofConst_int, ofConst_bool, ofConst_str, ofConst_nil, upd_apply, Nat.reduceEqDiff, ↓reduceIte] <;> exact rfl) (by first | exact Sub.refl _ | exact sub1 _ _ | exact sub2 _ _ _ | exact sub3 _ _ _ _ | exact sub4 _ _ _ _ _ | exact sub5 _ _ _ _ _ _) ⟨by unfold closeN; rw [h1']; rfl, rfl⟩
  · skip
    have h1' := h1; (try simp only [decide_eq_true_eq, decide_eq_false_iff_not, Bool.not_eq_true', Bool.not_false, Bool.not_true, Bool.not_eq_false'] at h1')
    refine w_skip ?_
    refine k_seq_normal ?_
    refine w_seq ?_
    refine w_region ?_
    refine l_cons rfl (p_loadp ty_36 ?_)
    refine l_cons rfl (p_move ?_)
    refine l_cons rfl (p_callr en_78 (closed_walk n l (may_le h1')) ?_)
    refine l_cons rfl (p_assign ?_)
    refine l_nil ?_
    refine k_seq_normal ?_
    refine w_ret ?_
    exact ret1 rfl (by simp only [ev_tmp, ev_const, ev_func, ofConst_int, ofConst_bool, ofConst_str, ofConst_nil, upd_apply, Nat.reduceEqDiff, ↓reduceIte] <;> exact rfl) (by first | exact Sub.refl _ | exact sub1 _ _ | exact sub2 _ _ _ | exact sub3 _ _ _ _ | exact sub4 _ _ _ _ _ | exact sub5 _ _ _ _ _ _) ⟨by unfold closeN; rw [h1']; rfl, rfl⟩
theorem light_walk {w0 : World} {es : List Ent} (n : Nf) (k : Int) : ACalls Tryd.prog w0 36 [n.av, .int .i64 k] es fun v es' => v = .bool (lightN n k) ∧ es' = es := by
  unfold Nf.av
  refine calls2 (N := 26) Tryd.func36 rfl rfl (by decide) ?_
  refine w_seq ?_
  refine w_region ?_
  refine l_cons rfl (p_box fun s2 => ?_)
  refine l_cons rfl (p_assign ?_)
  refine l_nil ?_
  refine k_seq_normal ?_
  refine w_seq ?_
  refine w_seq ?_
  refine w_region ?_
  refine l_cons rfl (p_fap fa_36_0 ?_)
  refine l_cons rfl (p_loadp ty_34 ?_)
  refine l_len 7 fun hlen => ?_
  simp only [List.length_map, most] at hlen
  first | refine l_cons rfl (p_lenl sl_34 ?_) | refine l_cons rfl (p_leno sl_34 ?_) | refine l_cons rfl (p_lenn sl_34 ?_)
  refine l_cons rfl (p_move ?_)
  refine l_cons rfl (p_cmp ?_)
  refine l_nil ?_
  refine k_seq_normal ?_
  refine w_b (fun h1 => ?_) (fun h1 => ?_)
  · skip
    have h1' := h1; (try simp only [decide_eq_true_eq, decide_eq_false_iff_not, Bool.not_eq_true', Bool.not_false, Bool.not_true, Bool.not_eq_false'] at h1')
    refine w_seq ?_
    refine w_region ?_
    refine l_cons rfl (p_assign ?_)
    refine l_nil ?_
    refine k_seq_normal ?_
    refine w_ret ?_
    refine k_seq_ret ?_
    exact ret1 rfl (by simp only [ev_tmp, ev_const, ev_func, ofConst_int, ofConst_bool, ofConst_str, ofConst_nil, upd_apply, Nat.reduceEqDiff, ↓reduceIte] <;> exact rfl) (by first | exact Sub.refl _ | exact sub1 _ _ | exact sub2 _ _ _ | exact sub3 _ _ _ _ | exact sub4 _ _ _ _ _ | exact sub5 _ _ _ _ _ _) ⟨by rw [light_no (j := 0) (.inl (by omega))], rfl⟩
  · skip
    have h1' := h1; (try simp only [decide_eq_true_eq, decide_eq_false_iff_not, Bool.not_eq_true', Bool.not_false, Bool.not_true, Bool.not_eq_false'] at h1')
    refine w_skip ?_
    refine k_seq_normal ?_
    refine w_seq ?_
    refine w_seq ?_
    refine w_region ?_
    refine l_cons rfl (p_assign ?_)
    refine l_nil ?_
    refine k_seq_normal ?_
    refine w_block ?_
    refine w_loop (fun m f es' => ∃ j, m = n.st.length - j ∧ j ≤ n.st.length ∧ (n.st.take j).all (fun s => decide (s.free.length ≤ 20)) = true ∧ es' = .row s2 36 3 [n.cells] :: es ∧ Knows f [(2, .ptr es.length s2 0 0), (5, .int .i64 j)]) (n.st.length) (⟨0, rfl, Nat.zero_le _, rfl, rfl, by simp only [Knows, upd_apply, Nat.reduceEqDiff, ↓reduceIte, and_true, true_and, eq_self] <;> first | exact rfl | exact ⟨rfl, rfl⟩ | exact ⟨rfl, rfl, rfl⟩ | exact ⟨rfl, rfl, rfl, rfl⟩ | exact ⟨rfl, rfl, rfl, rfl, rfl⟩ | exact ⟨rfl, rfl, rfl, rfl, rfl, rfl⟩⟩) ?_
    rintro m f es' ⟨j, rfl, hj1, hj2, rfl, hk⟩
    refine w_pins _ (Sub.refl _) (hk) ?_
    simp only [pins]
    refine w_seq ?_
    refine w_seq ?_
    refine w_region ?_
    refine l_cons rfl (p_move ?_)
    refine l_cons rfl (p_fap fa_36_0 ?_)
    refine l_cons rfl (p_loadp ty_34 ?_)
    first | refine l_cons rfl (p_lenl sl_34 ?_) | refine l_cons rfl (p_leno sl_34 ?_) | refine l_cons rfl (p_lenn sl_34 ?_)
    refine l_cons rfl (p_cmp ?_)
    refine l_nil ?_
    refine k_seq_normal ?_
    refine w_b (fun h2 => ?_) (fun h2 => ?_)
    · skip
      have h2' := h2; (try simp only [decide_eq_true_eq, decide_eq_false_iff_not, Bool.not_eq_true', Bool.not_false, Bool.not_true, Bool.not_eq_false'] at h2')
      refine w_skip ?_
      refine k_seq_normal ?_
      refine w_seq ?_
      refine w_block ?_
      refine w_seq ?_
      refine w_region ?_
      refine l_cons rfl (p_fap fa_36_0 ?_)
      refine l_cons rfl (p_loadp ty_34 ?_)
      refine l_cons rfl (p_move ?_)
      first | refine l_cons rfl (p_ixl sl_34 ?_) | refine l_cons rfl (p_ixo sl_34 ?_)
      first | refine l_cons rfl (p_fap fa_75_2 ?_) | refine l_cons rfl (p_faf fa_75_2 ?_)
      first | refine l_cons rfl (p_loadf ty_48 ?_) | refine l_cons rfl (p_loadp ty_48 ?_)
      first | refine l_cons rfl (p_lenl sl_48 ?_) | refine l_cons rfl (p_leno sl_48 ?_) | refine l_cons rfl (p_lenn sl_48 ?_)
      refine l_cons rfl (p_cmp ?_)
      refine l_nil ?_
      refine k_seq_normal ?_
      refine w_b (fun h3 => ?_) (fun h3 => ?_)
      · skip
        have h3' := h3; (try simp only [decide_eq_true_eq, decide_eq_false_iff_not, Bool.not_eq_true', Bool.not_false, Bool.not_true, Bool.not_eq_false'] at h3')
        refine w_seq ?_
        refine w_region ?_
        refine l_cons rfl (p_assign ?_)
        refine l_nil ?_
        refine k_seq_normal ?_
        refine w_ret ?_
        refine k_blk_ret ?_
        refine k_seq_ret ?_
        refine k_seq_ret ?_
        refine k_blk_ret ?_
        refine k_seq_ret ?_
        exact ret1 rfl (by simp only [ev_tmp, ev_const, ev_func, ofConst_int, ofConst_bool, ofConst_str, ofConst_nil, upd_apply, Nat.reduceEqDiff, ↓reduceIte] <;> exact rfl) (by first | exact Sub.refl _ | exact sub1 _ _ | exact sub2 _ _ _ | exact sub3 _ _ _ _ | exact sub4 _ _ _ _ _ | exact sub5 _ _ _ _ _ _) ⟨by rw [light_no (j := j) (.inr ⟨by omega, by omega⟩)], rfl⟩
      · skip
        have h3' := h3; (try simp only [decide_eq_true_eq, decide_eq_false_iff_not, Bool.not_eq_true', Bool.not_false, Bool.not_true, Bool.not_eq_false'] at h3')
        refine w_skip ?_
        refine k_blk_normal ?_
        refine k_seq_normal ?_
        refine w_region ?_
        refine l_cons rfl (p_move ?_)
        refine l_cons rfl (p_arith ?_)
        refine l_cons rfl (p_assign ?_)
        refine l_nil ?_
        refine k_seq_normal ?_
        exact ⟨n.st.length - (j + 1), by omega, j + 1, rfl, by omega, take_all (by omega) hj2 (by simp only [decide_eq_true_eq]; omega), rfl, by simp only [Knows, upd_apply, Nat.reduceEqDiff, ↓reduceIte, and_true, true_and, eq_self] <;> first | exact rfl | exact ⟨rfl, rfl⟩ | exact ⟨rfl, rfl, rfl⟩ | exact ⟨rfl, rfl, rfl, rfl⟩ | exact ⟨rfl, rfl, rfl, rfl, rfl⟩ | exact ⟨rfl, rfl, rfl, rfl, rfl, rfl⟩⟩
    · skip
      have h2' := h2; (try simp only [decide_eq_true_eq, decide_eq_false_iff_not, Bool.not_eq_true', Bool.not_false, Bool.not_true, Bool.not_eq_false'] at h2')
      refine w_exit ?_
      refine k_seq_exit ?_
      refine k_seq_exit ?_
      refine k_blk_here ?_
      refine k_seq_normal ?_
      refine w_seq ?_
      refine w_region ?_
      refine l_cons rfl (p_assign ?_)
      refine l_nil ?_
      refine k_seq_normal ?_
      refine w_ret ?_
      exact ret1 rfl (by simp only [ev_tmp, ev_const, ev_func, ofConst_int, ofConst_bool, ofConst_str, ofConst_nil, upd_apply, Nat.reduceEqDiff, ↓reduceIte] <;> exact rfl) (by first | exact Sub.refl _ | exact sub1 _ _ | exact sub2 _ _ _ | exact sub3 _ _ _ _ | exact sub4 _ _ _ _ _ | exact sub5 _ _ _ _ _ _) ⟨by rw [light_yes (by omega) (by rw [← hj2, List.take_of_length_le (by omega)])], rfl⟩
theorem same_walk {w0 : World} {es : List Ent} (a b : List Int) : ACalls Tryd.prog w0 38 [ints a, ints b] es fun v es' => v = .bool (decide (a = b)) ∧ es' = es := by
  unfold ints
  refine calls2 (N := 26) Tryd.func38 rfl rfl (by decide) ?_
  refine w_seq ?_
  refine w_region ?_
  refine l_cons rfl (p_assign ?_)
  refine l_nil ?_
  refine k_seq_normal ?_
  refine w_seq ?_
  refine w_seq ?_
  refine w_len 0 fun hl => ?_
  rw [List.length_map] at hl
  simp only [most] at hl
  refine w_region ?_
  refine l_cons rfl (p_move ?_)
  refine l_cons rfl (p_lenl sl_48 ?_)
  refine l_cons rfl (p_move ?_)
  refine l_cons rfl (p_lenl sl_48 ?_)
  refine l_cons rfl (p_cmp ?_)
  refine l_nil ?_
  refine k_seq_normal ?_
  refine w_b (fun h1 => ?_) (fun h1 => ?_)
  · skip
    have h1' := h1; (try simp only [decide_eq_true_eq, decide_eq_false_iff_not, Bool.not_eq_true', Bool.not_false, Bool.not_true, Bool.not_eq_false'] at h1')
    refine w_seq ?_
    refine w_region ?_
    refine l_cons rfl (p_assign ?_)
    refine l_nil ?_
    refine k_seq_normal ?_
    refine w_ret ?_
    refine k_seq_ret ?_
    exact ret1 rfl (by simp only [ev_tmp, ev_const, ev_func, ofConst_int, ofConst_bool, ofConst_str, ofConst_nil, upd_apply, Nat.reduceEqDiff, ↓reduceIte] <;> exact rfl) (by first | exact Sub.refl _ | exact sub1 _ _ | exact sub2 _ _ _ | exact sub3 _ _ _ _ | exact sub4 _ _ _ _ _ | exact sub5 _ _ _ _ _ _) ⟨by rw [show decide (a = b) = false from decide_eq_false (by rintro rfl; simp_all)], rfl⟩
  · skip
    have h1' := h1; (try simp only [decide_eq_true_eq, decide_eq_false_iff_not, Bool.not_eq_true', Bool.not_false, Bool.not_true, Bool.not_eq_false'] at h1')
    refine w_skip ?_
    refine k_seq_normal ?_
    refine w_seq ?_
    refine w_seq ?_
    refine w_region ?_
    refine l_cons rfl (p_assign ?_)
    refine l_nil ?_
    refine k_seq_normal ?_
    refine w_block ?_
    refine w_loop (fun m f es' => ∃ k, m = a.length - k ∧ k ≤ a.length ∧ (∀ j (_ : j < k) (h1 : j < a.length) (h2 : j < b.length), a[j] = b[j]) ∧ es' = es ∧ Knows f [(0, .list 1 (a.map fun n => [.int .i64 n])), (1, .list 1 (b.map fun n => [.int .i64 n])), (5, .int .i64 k)]) (a.length) (⟨0, rfl, Nat.zero_le _, fun j hj => absurd hj (Nat.not_lt_zero _), rfl, by simp only [Knows, upd_apply, Nat.reduceEqDiff, ↓reduceIte, and_true, true_and, eq_self] <;> first | exact rfl | exact ⟨rfl, rfl⟩ | exact ⟨rfl, rfl, rfl⟩ | exact ⟨rfl, rfl, rfl, rfl⟩ | exact ⟨rfl, rfl, rfl, rfl, rfl⟩ | exact ⟨rfl, rfl, rfl, rfl, rfl, rfl⟩⟩) ?_
    rintro m f es' ⟨k, rfl, hk1, hk2, rfl, hk⟩
    have hab : a.length = b.length := by simp_all; omega
    refine w_pins _ (Sub.refl _) (hk) ?_
    simp only [pins]
    refine w_seq ?_
    refine w_seq ?_
    refine w_region ?_
    refine l_cons rfl (p_move ?_)
    refine l_cons rfl (p_move ?_)
    refine l_cons rfl (p_lenl sl_48 ?_)
    refine l_cons rfl (p_cmp ?_)
    refine l_nil ?_
    refine k_seq_normal ?_
    refine w_b (fun h2 => ?_) (fun h2 => ?_)
    · skip
      have h2' := h2; (try simp only [decide_eq_true_eq, decide_eq_false_iff_not, Bool.not_eq_true', Bool.not_false, Bool.not_true, Bool.not_eq_false'] at h2')
      refine w_skip ?_
      refine k_seq_normal ?_
      refine w_seq ?_
      refine w_block ?_
      refine w_seq ?_
      refine w_drawn 8 [] (fun e => e = _) mixed (by kernel_rfl) rfl ?_
      refine q1 0 (hg := rfl) (hu := rfl) (h := by rintro f _ rfl; exact p_move ⟨rfl, rfl⟩) (k := ?_)
      refine q1 5 (hg := rfl) (hu := rfl) (h := by rintro f _ rfl; exact p_move ⟨rfl, rfl⟩) (k := ?_)
      refine q2 17 18 (hg := rfl) (hu := rfl) (h := by rintro f _ rfl; exact p_ixl sl_48 ⟨rfl, rfl⟩) (k := ?_)
      refine q1 19 (hg := rfl) (hu := rfl) (h := by rintro f _ rfl; exact p_loadf ty_3 ⟨rfl, rfl⟩) (k := ?_)
      refine q1 1 (hg := rfl) (hu := rfl) (h := by rintro f _ rfl; exact p_move ⟨rfl, rfl⟩) (k := ?_)
      refine q1 5 (hg := rfl) (hu := rfl) (h := by rintro f _ rfl; exact p_move ⟨rfl, rfl⟩) (k := ?_)
      refine q2 21 22 (hg := rfl) (hu := rfl) (h := by rintro f _ rfl; exact p_ixl sl_48 ⟨rfl, rfl⟩) (k := ?_)
      refine q1 23 (hg := rfl) (hu := rfl) (h := by rintro f _ rfl; exact p_loadf ty_3 ⟨rfl, rfl⟩) (k := ?_)
      refine q_end ?_
      refine m_end ?_
      refine l_cons rfl (p_cmp ?_)
      refine l_nil ?_
      refine k_seq_normal ?_
      refine w_b (fun h3 => ?_) (fun h3 => ?_)
      · skip
        have h3' := h3; (try simp only [decide_eq_true_eq, decide_eq_false_iff_not, Bool.not_eq_true', Bool.not_false, Bool.not_true, Bool.not_eq_false'] at h3')
        refine w_seq ?_
        refine w_region ?_
        refine l_cons rfl (p_assign ?_)
        refine l_nil ?_
        refine k_seq_normal ?_
        refine w_ret ?_
        refine k_blk_ret ?_
        refine k_seq_ret ?_
        refine k_seq_ret ?_
        refine k_blk_ret ?_
        refine k_seq_ret ?_
        exact ret1 rfl (by simp only [ev_tmp, ev_const, ev_func, ofConst_int, ofConst_bool, ofConst_str, ofConst_nil, upd_apply, Nat.reduceEqDiff, ↓reduceIte] <;> exact rfl) (by first | exact Sub.refl _ | exact sub1 _ _ | exact sub2 _ _ _ | exact sub3 _ _ _ _ | exact sub4 _ _ _ _ _ | exact sub5 _ _ _ _ _ _) ⟨by rw [same_no (k := k) (by omega) (by omega) (by simp_all)], rfl⟩
      · skip
        have h3' := h3; (try simp only [decide_eq_true_eq, decide_eq_false_iff_not, Bool.not_eq_true', Bool.not_false, Bool.not_true, Bool.not_eq_false'] at h3')
        refine w_skip ?_
        refine k_blk_normal ?_
        refine k_seq_normal ?_
        refine w_region ?_
        refine l_cons rfl (p_move ?_)
        refine l_cons rfl (p_arith ?_)
        refine l_cons rfl (p_assign ?_)
        refine l_nil ?_
        refine k_seq_normal ?_
        exact ⟨a.length - (k + 1), by omega, k + 1, rfl, by omega, fun j hj h1 h2 => by
          rcases Nat.lt_or_eq_of_le (Nat.le_of_lt_succ hj) with h9 | h9
          · exact hk2 j h9 h1 h2
          · subst h9; simp_all, rfl, by simp only [Knows, upd_apply, Nat.reduceEqDiff, ↓reduceIte, and_true, true_and, eq_self] <;> first | exact rfl | exact ⟨rfl, rfl⟩ | exact ⟨rfl, rfl, rfl⟩ | exact ⟨rfl, rfl, rfl, rfl⟩ | exact ⟨rfl, rfl, rfl, rfl, rfl⟩ | exact ⟨rfl, rfl, rfl, rfl, rfl, rfl⟩⟩
    · skip
      have h2' := h2; (try simp only [decide_eq_true_eq, decide_eq_false_iff_not, Bool.not_eq_true', Bool.not_false, Bool.not_true, Bool.not_eq_false'] at h2')
      refine w_exit ?_
      refine k_seq_exit ?_
      refine k_seq_exit ?_
      refine k_blk_here ?_
      refine k_seq_normal ?_
      refine w_seq ?_
      refine w_region ?_
      refine l_cons rfl (p_assign ?_)
      refine l_nil ?_
      refine k_seq_normal ?_
      refine w_ret ?_
      exact ret1 rfl (by simp only [ev_tmp, ev_const, ev_func, ofConst_int, ofConst_bool, ofConst_str, ofConst_nil, upd_apply, Nat.reduceEqDiff, ↓reduceIte] <;> exact rfl) (by first | exact Sub.refl _ | exact sub1 _ _ | exact sub2 _ _ _ | exact sub3 _ _ _ _ | exact sub4 _ _ _ _ _ | exact sub5 _ _ _ _ _ _) ⟨by rw [same_yes hab (fun j h1 h2 => hk2 j (by omega) h1 h2)], rfl⟩
theorem bytesetHas {w0 : World} {es : List Ent} (c0 c1 c2 c3 b : Int) (hb0 : 0 ≤ b) (hb1 : b < 256) : ACalls Tryd.prog w0 100 [.agg [.int .u64 c0, .int .u64 c1, .int .u64 c2, .int .u64 c3], .int .u8 b] es fun v es' => v = .bool (hasW c0 c1 c2 c3 b) ∧ es' = es := by
  obtain ⟨q, hq4, hq, hw⟩ := word_at c0 c1 c2 c3 hb0 hb1
  refine calls2 (N := 14) Tryd.func100 rfl rfl (by decide) ?_
  refine w_seq ?_
  refine w_region ?_
  refine l_cons rfl (p_box fun s2 => ?_)
  refine l_cons rfl (p_assign ?_)
  refine l_nil ?_
  refine k_seq_normal ?_
  refine w_seq ?_
  refine w_region ?_
  refine l_cons rfl (p_move ?_)
  refine l_cons rfl (p_arith ?_ (hb := quo64 hb0 hb1))
  refine l_cons rfl (p_ixa ar_26 (a := .ptr es.length s2 0 q) ?_ (h0 := by omega) (h1 := by omega) (ho := by rw [hq]; simp))
  refine l_cons rfl (p_loadp ty_24 (a := .int .u64 (word c0 c1 c2 c3 b)) ?_ (hl := by simp only [List.length_cons, List.length_nil]; omega) (ha := hw))
  refine l_cons rfl (p_move ?_)
  refine l_cons rfl (p_arith ?_ (hb := rem64 hb0))
  refine l_cons rfl (p_shr ?_)
  refine l_cons rfl (p_arith ?_ (hb := and1 _))
  refine l_cons rfl (p_cmp ?_)
  refine l_cons rfl (p_assign ?_)
  refine l_nil ?_
  refine k_seq_normal ?_
  refine w_ret ?_
  exact ret1 rfl (by simp only [ev_tmp, ev_const, ev_func, ofConst_int, ofConst_bool, ofConst_str, ofConst_nil, upd_apply, Nat.reduceEqDiff, ↓reduceIte] <;> exact rfl) (by first | exact Sub.refl _ | exact sub1 _ _ | exact sub2 _ _ _ | exact sub3 _ _ _ _ | exact sub4 _ _ _ _ _ | exact sub5 _ _ _ _ _ _) ⟨rfl, rfl⟩
theorem ref1Has {w0 : World} {es : List Ent} (c0 c1 c2 c3 b : Int) (hb0 : 0 ≤ b) (hb1 : b < 256) (hc0 : 0 ≤ c0) (hc1 : 0 ≤ c1) (hc2 : 0 ≤ c2) (hc3 : 0 ≤ c3) : ACalls Tryd.prog w0 55 [.agg [.int .u64 c0, .int .u64 c1, .int .u64 c2, .int .u64 c3], .int .u8 b] es fun v es' => v = .bool (hasW c0 c1 c2 c3 b) ∧ es' = es := by
  obtain ⟨q, hq4, hq, hw⟩ := word_at c0 c1 c2 c3 hb0 hb1
  refine calls2 (N := 14) Tryd.func55 rfl rfl (by decide) ?_
  refine w_seq ?_
  refine w_region ?_
  refine l_cons rfl (p_box fun s2 => ?_)
  refine l_cons rfl (p_assign ?_)
  refine l_nil ?_
  refine k_seq_normal ?_
  refine w_seq ?_
  refine w_region ?_
  refine l_cons rfl (p_move ?_)
  refine l_cons rfl (p_arith ?_ (hb := quo64 hb0 hb1))
  refine l_cons rfl (p_ixa ar_26 (a := .ptr es.length s2 0 q) ?_ (h0 := by omega) (h1 := by omega) (ho := by rw [hq]; simp))
  refine l_cons rfl (p_loadp ty_24 (a := .int .u64 (word c0 c1 c2 c3 b)) ?_ (hl := by simp only [List.length_cons, List.length_nil]; omega) (ha := hw))
  refine l_cons rfl (p_move ?_)
  refine l_cons rfl (p_arith ?_ (hb := rem64 hb0))
  refine l_cons rfl (p_shr ?_)
  refine l_cons rfl (p_arith ?_ (hb := rem2 (shr_nonneg (word_nonneg hc0 hc1 hc2 hc3 b) _)))
  refine l_cons rfl (p_cmp ?_)
  refine l_cons rfl (p_assign ?_)
  refine l_nil ?_
  refine k_seq_normal ?_
  refine w_ret ?_
  exact ret1 rfl (by simp only [ev_tmp, ev_const, ev_func, ofConst_int, ofConst_bool, ofConst_str, ofConst_nil, upd_apply, Nat.reduceEqDiff, ↓reduceIte] <;> exact rfl) (by first | exact Sub.refl _ | exact sub1 _ _ | exact sub2 _ _ _ | exact sub3 _ _ _ _ | exact sub4 _ _ _ _ _ | exact sub5 _ _ _ _ _ _) ⟨rfl, rfl⟩
theorem index_walk {w0 : World} {es : List Ent} (l : List Int) (x : Int) : ACalls Tryd.prog w0 117 [ints l, .int .i64 x] es fun v es' => v = .int .i64 (firstIdx (fun y => decide (x = y)) l) ∧ es' = es := by
  unfold ints
  refine calls2 (N := 19) Tryd.func117 rfl rfl (by decide) ?_
  refine w_seq ?_
  refine w_region ?_
  refine l_cons rfl (p_assign ?_)
  refine l_nil ?_
  refine k_seq_normal ?_
  refine w_seq ?_
  refine w_seq ?_
  refine w_len 0 fun hl => ?_
  rw [List.length_map] at hl
  simp only [most] at hl
  refine w_region ?_
  refine l_cons rfl (p_move ?_)
  refine l_cons rfl (p_lenl sl_48 ?_)
  refine l_cons rfl (p_move ?_)
  refine l_nil ?_
  refine k_seq_normal ?_
  refine w_block ?_
  refine w_loop (fun n f es' => ∃ k, n = l.length - k ∧ k ≤ l.length ∧ (∀ j (hj : j < k) (hjl : j < l.length), decide (x = l[j]) = false) ∧ es' = es ∧ Knows f [(0, .list 1 (l.map fun n => [.int .i64 n])), (1, .int .i64 x), (7, .int .i64 l.length), (8, .int .i64 k)]) (l.length) (⟨0, rfl, Nat.zero_le _, fun j hj => absurd hj (Nat.not_lt_zero _), rfl, by simp only [Knows, upd_apply, Nat.reduceEqDiff, ↓reduceIte, and_true, true_and, eq_self] <;> first | exact rfl | exact ⟨rfl, rfl⟩ | exact ⟨rfl, rfl, rfl⟩ | exact ⟨rfl, rfl, rfl, rfl⟩ | exact ⟨rfl, rfl, rfl, rfl, rfl⟩ | exact ⟨rfl, rfl, rfl, rfl, rfl, rfl⟩⟩) ?_
  rintro n f es' ⟨k, rfl, hk1, hk2, rfl, hk⟩
  refine w_pins _ (Sub.refl _) (hk) ?_
  simp only [pins]
  refine w_seq ?_
  refine w_region ?_
  refine l_cons rfl (p_cmp ?_)
  refine l_nil ?_
  refine k_seq_normal ?_
  refine w_seq ?_
  refine w_b (fun h1 => ?_) (fun h1 => ?_)
  · skip
    have h1' := h1; (try simp only [decide_eq_true_eq, decide_eq_false_iff_not, Bool.not_eq_true', Bool.not_false, Bool.not_true, Bool.not_eq_false'] at h1')
    refine w_skip ?_
    refine k_seq_normal ?_
    refine w_seq ?_
    refine w_block ?_
    refine w_seq ?_
    refine w_region ?_
    refine l_cons rfl (p_move ?_)
    refine l_cons rfl (p_assign ?_)
    refine l_nil ?_
    refine k_seq_normal ?_
    refine w_seq ?_
    refine w_region ?_
    refine l_cons rfl (p_move ?_)
    refine l_cons rfl (p_move ?_)
    refine l_cons rfl (p_move ?_)
    refine l_cons rfl (p_ixl sl_48 ?_)
    refine l_cons rfl (p_loadf ty_3 ?_)
    refine l_cons rfl (p_cmp ?_)
    refine l_nil ?_
    refine k_seq_normal ?_
    refine w_b (fun h2 => ?_) (fun h2 => ?_)
    · skip
      have h2' := h2; (try simp only [decide_eq_true_eq, decide_eq_false_iff_not, Bool.not_eq_true', Bool.not_false, Bool.not_true, Bool.not_eq_false'] at h2')
      refine w_seq ?_
      refine w_region ?_
      refine l_cons rfl (p_move ?_)
      refine l_cons rfl (p_assign ?_)
      refine l_nil ?_
      refine k_seq_normal ?_
      refine w_ret ?_
      refine k_blk_ret ?_
      refine k_seq_ret ?_
      refine k_seq_ret ?_
      refine k_blk_ret ?_
      refine k_seq_ret ?_
      exact ret1 rfl (by simp only [ev_tmp, ev_const, ev_func, ofConst_int, ofConst_bool, ofConst_str, ofConst_nil, upd_apply, Nat.reduceEqDiff, ↓reduceIte] <;> exact rfl) (Sub.refl _) ⟨by rw [firstIdx_at (l := l) (k := k) (by omega) (fun j hj => hk2 j hj (by omega)) (by assumption)], rfl⟩
    · skip
      have h2' := h2; (try simp only [decide_eq_true_eq, decide_eq_false_iff_not, Bool.not_eq_true', Bool.not_false, Bool.not_true, Bool.not_eq_false'] at h2')
      refine w_skip ?_
      refine k_blk_normal ?_
      refine k_seq_normal ?_
      refine w_region ?_
      refine l_cons rfl (p_arith ?_)
      refine l_cons rfl (p_move ?_)
      refine l_nil ?_
      refine k_seq_normal ?_
      exact ⟨l.length - (k + 1), by omega, k + 1, rfl, by omega, fun j hj hjl => by
        rcases Nat.lt_or_eq_of_le (Nat.le_of_lt_succ hj) with h9 | h9
        · exact hk2 j h9 hjl
        · subst h9; assumption, rfl, by simp only [Knows, upd_apply, Nat.reduceEqDiff, ↓reduceIte, and_true, true_and, eq_self] <;> first | exact rfl | exact ⟨rfl, rfl⟩ | exact ⟨rfl, rfl, rfl⟩ | exact ⟨rfl, rfl, rfl, rfl⟩ | exact ⟨rfl, rfl, rfl, rfl, rfl⟩ | exact ⟨rfl, rfl, rfl, rfl, rfl, rfl⟩⟩
  · skip
    have h1' := h1; (try simp only [decide_eq_true_eq, decide_eq_false_iff_not, Bool.not_eq_true', Bool.not_false, Bool.not_true, Bool.not_eq_false'] at h1')
    refine w_exit ?_
    refine k_seq_exit ?_
    refine k_seq_exit ?_
    refine k_blk_here ?_
    refine k_seq_normal ?_
    refine w_seq ?_
    refine w_region ?_
    refine l_cons rfl (p_assign ?_)
    refine l_nil ?_
    refine k_seq_normal ?_
    refine w_ret ?_
    exact ret1 rfl (by simp only [ev_tmp, ev_const, ev_func, ofConst_int, ofConst_bool, ofConst_str, ofConst_nil, upd_apply, Nat.reduceEqDiff, ↓reduceIte] <;> exact rfl) (Sub.refl _) ⟨by rw [firstIdx_no (l := l) (fun j hj => hk2 j (by omega) hj)], rfl⟩
theorem contains_walk {w0 : World} {es : List Ent} (l : List Int) (x : Int) : ACalls Tryd.prog w0 80 [ints l, .int .i64 x] es fun v es' => v = .bool (l.contains x) ∧ es' = es := by
  refine calls2 (N := 9) Tryd.func80 rfl rfl (by decide) ?_
  refine w_seq ?_
  refine w_region ?_
  refine l_cons rfl (p_assign ?_)
  refine l_nil ?_
  refine k_seq_normal ?_
  refine w_seq ?_
  refine w_region ?_
  refine l_cons rfl (p_move ?_)
  refine l_cons rfl (p_move ?_)
  refine l_cons rfl (p_callr en_117 (index_walk l x) ?_)
  refine l_cons rfl (p_cmp ?_)
  refine l_cons rfl (p_assign ?_)
  refine l_nil ?_
  refine k_seq_normal ?_
  refine w_ret ?_
  exact ret1 rfl (by simp only [ev_tmp, ev_const, ev_func, ofConst_int, ofConst_bool, ofConst_str, ofConst_nil, upd_apply, Nat.reduceEqDiff, ↓reduceIte] <;> exact rfl) (by first | exact Sub.refl _ | exact sub1 _ _ | exact sub2 _ _ _ | exact sub3 _ _ _ _ | exact sub4 _ _ _ _ _ | exact sub5 _ _ _ _ _ _) ⟨by rw [contains_any, ← firstIdx_ge], rfl⟩
theorem stepped_walk {w0 : World} {es : List Ent} (n : Nf) (l : List Int) (b : Int) (hn : n.st.length ≤ 2000) (hl : l.length ≤ 1099511627776) (hb0 : 0 ≤ b) (hb1 : b < 256) :
    ACalls Tryd.prog w0 79 [n.av, ints l, .int .u8 b] es fun v es' => v = ints (stepped n l b) ∧ es' = es := by
  unfold Nf.av ints
  refine calls3 (N := 57) Tryd.func79 rfl rfl (by decide) ?_
  refine w_seq ?_
  refine w_region ?_
  refine l_cons rfl (p_box fun s3 => ?_)
  refine l_cons rfl (p_assign ?_)
  refine l_nil ?_
  refine k_seq_normal ?_
  refine w_seq ?_
  refine w_region ?_
  refine l_cons rfl (p_assign ?_)
  refine l_nil ?_
  refine k_seq_normal ?_
  refine w_seq ?_
  refine w_seq ?_
  refine w_adopt 7 3 1 rfl fun s7 => ?_
  simp only [upd_upd]
  refine w_region ?_
  refine l_cons rfl (p_move ?_)
  refine l_cons rfl (p_lenl sl_48 ?_)
  refine l_cons rfl (p_move ?_)
  refine l_nil ?_
  refine k_seq_normal ?_
  refine w_block ?_
  refine w_loop (fun m f es' => ∃ k s7, m = l.length - k ∧ k ≤ l.length ∧ es' = .row s7 3 1 ((stepTo n (l.take k) b).map fun n => [.int .i64 n]) :: .row s3 36 3 [n.cells] :: es ∧ Knows f [(2, .int .u8 b), (3, .ptr es.length s3 0 0), (7, .own (es.length + 1) s7), (10, .list 1 (l.map fun n => [.int .i64 n])), (11, .int .i64 l.length), (12, .int .i64 k)]) (l.length) (⟨0, s7, rfl, Nat.zero_le _, rfl, by simp only [Knows, upd_apply, Nat.reduceEqDiff, ↓reduceIte, and_true, true_and, eq_self] <;> first | exact rfl | exact ⟨rfl, rfl⟩ | exact ⟨rfl, rfl, rfl⟩ | exact ⟨rfl, rfl, rfl, rfl⟩ | exact ⟨rfl, rfl, rfl, rfl, rfl⟩ | exact ⟨rfl, rfl, rfl, rfl, rfl, rfl⟩⟩) ?_
  rintro m f es' ⟨k, s7, rfl, hk1, rfl, hk⟩
  have hle := stepTo_le n (l.take k) b
  rw [List.length_take] at hle
  refine w_pins _ (Sub.refl _) (hk) ?_
  simp only [pins]
  refine w_seq ?_
  refine w_region ?_
  refine l_cons rfl (p_cmp ?_)
  refine l_nil ?_
  refine k_seq_normal ?_
  refine w_seq ?_
  refine w_b (fun h1 => ?_) (fun h1 => ?_)
  · skip
    have h1' := h1; (try simp only [decide_eq_true_eq, decide_eq_false_iff_not, Bool.not_eq_true', Bool.not_false, Bool.not_true, Bool.not_eq_false'] at h1')
    refine w_skip ?_
    refine k_seq_normal ?_
    refine w_seq ?_
    refine w_block ?_
    refine w_seq ?_
    refine w_region ?_
    refine l_cons rfl (p_ixl sl_48 ?_)
    refine l_cons rfl (p_loadf ty_3 ?_)
    refine l_cons rfl (p_assign ?_)
    refine l_nil ?_
    refine k_seq_normal ?_
    refine w_seq ?_
    refine w_region ?_
    refine l_cons rfl (p_move ?_)
    refine l_cons rfl (p_cmp ?_)
    refine l_cons rfl (p_move ?_)
    refine g_b rfl (fun h2 => ?_) (fun h2 => ?_)
    · skip
      have h2' := h2; (try simp only [decide_eq_true_eq, decide_eq_false_iff_not, Bool.not_eq_true', Bool.not_false, Bool.not_true, Bool.not_eq_false'] at h2')
      refine (p_move ?_)
      refine g_y rfl h2 (p_fap fa_36_0 ?_)
      refine g_y rfl h2 (p_loadp ty_34 ?_)
      first | refine g_y rfl h2 (p_lenl sl_34 ?_) | refine g_y rfl h2 (p_leno sl_34 ?_) | refine g_y rfl h2 (p_lenn sl_34 ?_)
      refine g_y rfl h2 (p_cmp ?_)
      refine l_cons rfl (p_pickt h2 ?_)
      refine l_cons rfl (p_move ?_)
      refine g_b rfl (fun h3 => ?_) (fun h3 => ?_)
      · skip
        have h3' := h3; (try simp only [decide_eq_true_eq, decide_eq_false_iff_not, Bool.not_eq_true', Bool.not_false, Bool.not_true, Bool.not_eq_false'] at h3')
        refine (p_fap fa_36_0 ?_)
        refine g_y rfl h3 (p_loadp ty_34 ?_)
        refine g_y rfl h3 (p_move ?_)
        first | refine g_y rfl h3 (p_ixl sl_34 ?_) | refine g_y rfl h3 (p_ixo sl_34 ?_)
        first | refine g_y rfl h3 (p_fap fa_75_1 ?_) | refine g_y rfl h3 (p_faf fa_75_1 ?_)
        first | refine g_y rfl h3 (p_loadf ty_3 ?_) | refine g_y rfl h3 (p_loadp ty_3 ?_)
        refine g_y rfl h3 (p_cmp ?_)
        refine l_cons rfl (p_pickt h3 ?_)
        refine l_cons rfl (p_move ?_)
        refine g_b rfl (fun h4 => ?_) (fun h4 => ?_)
        · skip
          have h4' := h4; (try simp only [decide_eq_true_eq, decide_eq_false_iff_not, Bool.not_eq_true', Bool.not_false, Bool.not_true, Bool.not_eq_false'] at h4')
          refine (p_fap fa_36_0 ?_)
          refine g_y rfl h4 (p_loadp ty_34 ?_)
          refine g_y rfl h4 (p_move ?_)
          first | refine g_y rfl h4 (p_ixl sl_34 ?_) | refine g_y rfl h4 (p_ixo sl_34 ?_)
          first | refine g_y rfl h4 (p_fap fa_75_0 ?_) | refine g_y rfl h4 (p_faf fa_75_0 ?_)
          first | refine g_y rfl h4 (p_loadf ty_26 ?_) | refine g_y rfl h4 (p_loadp ty_26 ?_)
          refine g_y rfl h4 (p_move ?_)
          refine g_y rfl h4 (p_callr en_100 (bytesetHas _ _ _ _ _ hb0 hb1) ?_)
          refine l_cons rfl (p_pickt h4 ?_)
          refine l_nil ?_
          refine k_seq_normal ?_
          refine w_b (fun h5 => ?_) (fun h5 => ?_)
          · skip
            have h5' := h5; (try simp only [decide_eq_true_eq, decide_eq_false_iff_not, Bool.not_eq_true', Bool.not_false, Bool.not_true, Bool.not_eq_false'] at h5')
            refine w_region ?_
            refine l_cons rfl (p_move ?_)
            refine l_cons rfl (p_fap fa_36_0 ?_)
            refine l_cons rfl (p_loadp ty_34 ?_)
            refine l_cons rfl (p_move ?_)
            first | refine l_cons rfl (p_ixl sl_34 ?_) | refine l_cons rfl (p_ixo sl_34 ?_)
            first | refine l_cons rfl (p_fap fa_75_1 ?_) | refine l_cons rfl (p_faf fa_75_1 ?_)
            first | refine l_cons rfl (p_loadf ty_3 ?_) | refine l_cons rfl (p_loadp ty_3 ?_)
            refine l_cons rfl (p_buildList sl_48 ze_3 ?_)
            refine l_cons rfl (p_append sl_48 by_3 ze_3 (fun s52 => ?_))
            refine l_cons rfl (p_assign ?_)
            refine l_nil ?_
            refine k_blk_normal ?_
            refine k_seq_normal ?_
            refine w_region ?_
            refine l_cons rfl (p_arith ?_)
            refine l_cons rfl (p_move ?_)
            refine l_nil ?_
            refine k_seq_normal ?_
            first
            | exact ⟨l.length - (k + 1), by omega, k + 1, s52, rfl, by omega, by rw [stepTo_succ (by omega), stepOne_yes (by omega) (by omega) (by omega) (by assumption), List.map_append]; rfl, by simp only [Knows, upd_apply, Nat.reduceEqDiff, ↓reduceIte, and_true, true_and, eq_self] <;> first | exact rfl | exact ⟨rfl, rfl⟩ | exact ⟨rfl, rfl, rfl⟩ | exact ⟨rfl, rfl, rfl, rfl⟩ | exact ⟨rfl, rfl, rfl, rfl, rfl⟩ | exact ⟨rfl, rfl, rfl, rfl, rfl, rfl⟩⟩
            | exact ⟨l.length - (k + 1), by omega, k + 1, s7, rfl, by omega, by rw [stepTo_succ (by omega), stepOne_no (by first | exact .inl (by omega) | exact .inr (.inl (by omega)) | exact .inr (.inr ⟨by omega, .inl (by omega)⟩) | exact .inr (.inr ⟨by omega, .inr (by assumption)⟩))]; simp, by simp only [Knows, upd_apply, Nat.reduceEqDiff, ↓reduceIte, and_true, true_and, eq_self] <;> first | exact rfl | exact ⟨rfl, rfl⟩ | exact ⟨rfl, rfl, rfl⟩ | exact ⟨rfl, rfl, rfl, rfl⟩ | exact ⟨rfl, rfl, rfl, rfl, rfl⟩ | exact ⟨rfl, rfl, rfl, rfl, rfl, rfl⟩⟩
          · skip
            have h5' := h5; (try simp only [decide_eq_true_eq, decide_eq_false_iff_not, Bool.not_eq_true', Bool.not_false, Bool.not_true, Bool.not_eq_false'] at h5')
            refine w_skip ?_
            refine k_blk_normal ?_
            refine k_seq_normal ?_
            refine w_region ?_
            refine l_cons rfl (p_arith ?_)
            refine l_cons rfl (p_move ?_)
            refine l_nil ?_
            refine k_seq_normal ?_
            first
            | exact ⟨l.length - (k + 1), by omega, k + 1, s52, rfl, by omega, by rw [stepTo_succ (by omega), stepOne_yes (by omega) (by omega) (by omega) (by assumption), List.map_append]; rfl, by simp only [Knows, upd_apply, Nat.reduceEqDiff, ↓reduceIte, and_true, true_and, eq_self] <;> first | exact rfl | exact ⟨rfl, rfl⟩ | exact ⟨rfl, rfl, rfl⟩ | exact ⟨rfl, rfl, rfl, rfl⟩ | exact ⟨rfl, rfl, rfl, rfl, rfl⟩ | exact ⟨rfl, rfl, rfl, rfl, rfl, rfl⟩⟩
            | exact ⟨l.length - (k + 1), by omega, k + 1, s7, rfl, by omega, by rw [stepTo_succ (by omega), stepOne_no (by first | exact .inl (by omega) | exact .inr (.inl (by omega)) | exact .inr (.inr ⟨by omega, .inl (by omega)⟩) | exact .inr (.inr ⟨by omega, .inr (by assumption)⟩))]; simp, by simp only [Knows, upd_apply, Nat.reduceEqDiff, ↓reduceIte, and_true, true_and, eq_self] <;> first | exact rfl | exact ⟨rfl, rfl⟩ | exact ⟨rfl, rfl, rfl⟩ | exact ⟨rfl, rfl, rfl, rfl⟩ | exact ⟨rfl, rfl, rfl, rfl, rfl⟩ | exact ⟨rfl, rfl, rfl, rfl, rfl, rfl⟩⟩
        · skip
          have h4' := h4; (try simp only [decide_eq_true_eq, decide_eq_false_iff_not, Bool.not_eq_true', Bool.not_false, Bool.not_true, Bool.not_eq_false'] at h4')
          refine g_n rfl h4 ?_
          refine g_n rfl h4 ?_
          refine g_n rfl h4 ?_
          refine g_n rfl h4 ?_
          refine g_n rfl h4 ?_
          refine g_n rfl h4 ?_
          refine g_n rfl h4 ?_
          refine l_cons rfl (p_pickf h4 ?_)
          refine l_nil ?_
          refine k_seq_normal ?_
          refine w_f rfl ?_
          refine w_skip ?_
          refine k_blk_normal ?_
          refine k_seq_normal ?_
          refine w_region ?_
          refine l_cons rfl (p_arith ?_)
          refine l_cons rfl (p_move ?_)
          refine l_nil ?_
          refine k_seq_normal ?_
          first
          | exact ⟨l.length - (k + 1), by omega, k + 1, s52, rfl, by omega, by rw [stepTo_succ (by omega), stepOne_yes (by omega) (by omega) (by omega) (by assumption), List.map_append]; rfl, by simp only [Knows, upd_apply, Nat.reduceEqDiff, ↓reduceIte, and_true, true_and, eq_self] <;> first | exact rfl | exact ⟨rfl, rfl⟩ | exact ⟨rfl, rfl, rfl⟩ | exact ⟨rfl, rfl, rfl, rfl⟩ | exact ⟨rfl, rfl, rfl, rfl, rfl⟩ | exact ⟨rfl, rfl, rfl, rfl, rfl, rfl⟩⟩
          | exact ⟨l.length - (k + 1), by omega, k + 1, s7, rfl, by omega, by rw [stepTo_succ (by omega), stepOne_no (by first | exact .inl (by omega) | exact .inr (.inl (by omega)) | exact .inr (.inr ⟨by omega, .inl (by omega)⟩) | exact .inr (.inr ⟨by omega, .inr (by assumption)⟩))]; simp, by simp only [Knows, upd_apply, Nat.reduceEqDiff, ↓reduceIte, and_true, true_and, eq_self] <;> first | exact rfl | exact ⟨rfl, rfl⟩ | exact ⟨rfl, rfl, rfl⟩ | exact ⟨rfl, rfl, rfl, rfl⟩ | exact ⟨rfl, rfl, rfl, rfl, rfl⟩ | exact ⟨rfl, rfl, rfl, rfl, rfl, rfl⟩⟩
      · skip
        have h3' := h3; (try simp only [decide_eq_true_eq, decide_eq_false_iff_not, Bool.not_eq_true', Bool.not_false, Bool.not_true, Bool.not_eq_false'] at h3')
        refine g_n rfl h3 ?_
        refine g_n rfl h3 ?_
        refine g_n rfl h3 ?_
        refine g_n rfl h3 ?_
        refine g_n rfl h3 ?_
        refine g_n rfl h3 ?_
        refine l_cons rfl (p_pickf h3 ?_)
        refine l_cons rfl (p_move ?_)
        refine g_n rfl rfl ?_
        refine g_n rfl rfl ?_
        refine g_n rfl rfl ?_
        refine g_n rfl rfl ?_
        refine g_n rfl rfl ?_
        refine g_n rfl rfl ?_
        refine g_n rfl rfl ?_
        refine g_n rfl rfl ?_
        refine l_cons rfl (p_pickf rfl ?_)
        refine l_nil ?_
        refine k_seq_normal ?_
        refine w_f rfl ?_
        refine w_skip ?_
        refine k_blk_normal ?_
        refine k_seq_normal ?_
        refine w_region ?_
        refine l_cons rfl (p_arith ?_)
        refine l_cons rfl (p_move ?_)
        refine l_nil ?_
        refine k_seq_normal ?_
        first
        | exact ⟨l.length - (k + 1), by omega, k + 1, s52, rfl, by omega, by rw [stepTo_succ (by omega), stepOne_yes (by omega) (by omega) (by omega) (by assumption), List.map_append]; rfl, by simp only [Knows, upd_apply, Nat.reduceEqDiff, ↓reduceIte, and_true, true_and, eq_self] <;> first | exact rfl | exact ⟨rfl, rfl⟩ | exact ⟨rfl, rfl, rfl⟩ | exact ⟨rfl, rfl, rfl, rfl⟩ | exact ⟨rfl, rfl, rfl, rfl, rfl⟩ | exact ⟨rfl, rfl, rfl, rfl, rfl, rfl⟩⟩
        | exact ⟨l.length - (k + 1), by omega, k + 1, s7, rfl, by omega, by rw [stepTo_succ (by omega), stepOne_no (by first | exact .inl (by omega) | exact .inr (.inl (by omega)) | exact .inr (.inr ⟨by omega, .inl (by omega)⟩) | exact .inr (.inr ⟨by omega, .inr (by assumption)⟩))]; simp, by simp only [Knows, upd_apply, Nat.reduceEqDiff, ↓reduceIte, and_true, true_and, eq_self] <;> first | exact rfl | exact ⟨rfl, rfl⟩ | exact ⟨rfl, rfl, rfl⟩ | exact ⟨rfl, rfl, rfl, rfl⟩ | exact ⟨rfl, rfl, rfl, rfl, rfl⟩ | exact ⟨rfl, rfl, rfl, rfl, rfl, rfl⟩⟩
    · skip
      have h2' := h2; (try simp only [decide_eq_true_eq, decide_eq_false_iff_not, Bool.not_eq_true', Bool.not_false, Bool.not_true, Bool.not_eq_false'] at h2')
      refine g_n rfl h2 ?_
      refine g_n rfl h2 ?_
      refine g_n rfl h2 ?_
      refine g_n rfl h2 ?_
      refine l_cons rfl (p_pickf h2 ?_)
      refine l_cons rfl (p_move ?_)
      refine g_n rfl rfl ?_
      refine g_n rfl rfl ?_
      refine g_n rfl rfl ?_
      refine g_n rfl rfl ?_
      refine g_n rfl rfl ?_
      refine g_n rfl rfl ?_
      refine g_n rfl rfl ?_
      refine l_cons rfl (p_pickf rfl ?_)
      refine l_cons rfl (p_move ?_)
      refine g_n rfl rfl ?_
      refine g_n rfl rfl ?_
      refine g_n rfl rfl ?_
      refine g_n rfl rfl ?_
      refine g_n rfl rfl ?_
      refine g_n rfl rfl ?_
      refine g_n rfl rfl ?_
      refine g_n rfl rfl ?_
      refine l_cons rfl (p_pickf rfl ?_)
      refine l_nil ?_
      refine k_seq_normal ?_
      refine w_f rfl ?_
      refine w_skip ?_
      refine k_blk_normal ?_
      refine k_seq_normal ?_
      refine w_region ?_
      refine l_cons rfl (p_arith ?_)
      refine l_cons rfl (p_move ?_)
      refine l_nil ?_
      refine k_seq_normal ?_
      first
      | exact ⟨l.length - (k + 1), by omega, k + 1, s52, rfl, by omega, by rw [stepTo_succ (by omega), stepOne_yes (by omega) (by omega) (by omega) (by assumption), List.map_append]; rfl, by simp only [Knows, upd_apply, Nat.reduceEqDiff, ↓reduceIte, and_true, true_and, eq_self] <;> first | exact rfl | exact ⟨rfl, rfl⟩ | exact ⟨rfl, rfl, rfl⟩ | exact ⟨rfl, rfl, rfl, rfl⟩ | exact ⟨rfl, rfl, rfl, rfl, rfl⟩ | exact ⟨rfl, rfl, rfl, rfl, rfl, rfl⟩⟩
      | exact ⟨l.length - (k + 1), by omega, k + 1, s7, rfl, by omega, by rw [stepTo_succ (by omega), stepOne_no (by first | exact .inl (by omega) | exact .inr (.inl (by omega)) | exact .inr (.inr ⟨by omega, .inl (by omega)⟩) | exact .inr (.inr ⟨by omega, .inr (by assumption)⟩))]; simp, by simp only [Knows, upd_apply, Nat.reduceEqDiff, ↓reduceIte, and_true, true_and, eq_self] <;> first | exact rfl | exact ⟨rfl, rfl⟩ | exact ⟨rfl, rfl, rfl⟩ | exact ⟨rfl, rfl, rfl, rfl⟩ | exact ⟨rfl, rfl, rfl, rfl, rfl⟩ | exact ⟨rfl, rfl, rfl, rfl, rfl, rfl⟩⟩
  · skip
    have h1' := h1; (try simp only [decide_eq_true_eq, decide_eq_false_iff_not, Bool.not_eq_true', Bool.not_false, Bool.not_true, Bool.not_eq_false'] at h1')
    refine w_exit ?_
    refine k_seq_exit ?_
    refine k_seq_exit ?_
    refine k_blk_here ?_
    refine k_seq_normal ?_
    refine w_seq ?_
    refine w_freezeTop 7 ?_
    rw [show k = l.length by omega, List.take_length]
    refine w_region ?_
    refine l_cons rfl (p_loadp ty_36 ?_)
    refine l_cons rfl (p_move ?_)
    refine l_cons rfl (p_callr en_78 (closed_walk n (stepTo n l b) hn) ?_)
    refine l_cons rfl (p_assign ?_)
    refine l_nil ?_
    refine k_seq_normal ?_
    refine w_ret ?_
    exact ret1 rfl (by simp only [ev_tmp, ev_const, ev_func, ofConst_int, ofConst_bool, ofConst_str, ofConst_nil, upd_apply, Nat.reduceEqDiff, ↓reduceIte] <;> exact rfl) (by first | exact Sub.refl _ | exact sub1 _ _ | exact sub2 _ _ _ | exact sub3 _ _ _ _ | exact sub4 _ _ _ _ _ | exact sub5 _ _ _ _ _ _) ⟨rfl, rfl⟩
theorem step_walk {w0 : World} {es : List Ent} (n : Nf) (l : List Int) (b : Int) (hl : l.length ≤ 1099511627776) (hb0 : 0 ≤ b) (hb1 : b < 256) : ACalls Tryd.prog w0 44 [n.av, ints l, .int .u8 b] es fun v es' => v = ints (stepN n l b) ∧ es' = es := by
  unfold Nf.av ints
  refine calls3 (N := 14) Tryd.func44 rfl rfl (by decide) ?_
  refine w_seq ?_
  refine w_region ?_
  refine l_cons rfl (p_box fun s3 => ?_)
  refine l_cons rfl (p_assign ?_)
  refine l_nil ?_
  refine k_seq_normal ?_
  refine w_seq ?_
  refine w_seq ?_
  refine w_region ?_
  refine l_cons rfl (p_loadp ty_36 ?_)
  refine l_cons rfl (p_callr en_30 (may n) ?_)
  refine l_cons rfl (p_not ?_)
  refine l_nil ?_
  refine k_seq_normal ?_
  refine w_b (fun h1 => ?_) (fun h1 => ?_)
  · skip
    have h1' := h1; (try simp only [decide_eq_true_eq, decide_eq_false_iff_not, Bool.not_eq_true', Bool.not_false, Bool.not_true, Bool.not_eq_false'] at h1')
    refine w_seq ?_
    refine w_region ?_
    refine l_cons rfl (p_assign ?_)
    refine l_nil ?_
    refine k_seq_normal ?_
    refine w_nilList 6 1 ?_
    refine w_ret ?_
    refine k_seq_ret ?_
    exact ret1 rfl (by simp only [ev_tmp, ev_const, ev_func, ofConst_int, ofConst_bool, ofConst_str, ofConst_nil, upd_apply, Nat.reduceEqDiff, ↓reduceIte] <;> exact rfl) (by first | exact Sub.refl _ | exact sub1 _ _ | exact sub2 _ _ _ | exact sub3 _ _ _ _ | exact sub4 _ _ _ _ _ | exact sub5 _ _ _ _ _ _) ⟨by unfold stepN; rw [h1']; rfl, rfl⟩
  · skip
    have h1' := h1; (try simp only [decide_eq_true_eq, decide_eq_false_iff_not, Bool.not_eq_true', Bool.not_false, Bool.not_true, Bool.not_eq_false'] at h1')
    refine w_skip ?_
    refine k_seq_normal ?_
    refine w_seq ?_
    refine w_region ?_
    refine l_cons rfl (p_loadp ty_36 ?_)
    refine l_cons rfl (p_move ?_)
    refine l_cons rfl (p_move ?_)
    refine l_cons rfl (p_callr en_79 (stepped_walk n l b (may_le h1') hl hb0 hb1) ?_)
    refine l_cons rfl (p_assign ?_)
    refine l_nil ?_
    refine k_seq_normal ?_
    refine w_ret ?_
    exact ret1 rfl (by simp only [ev_tmp, ev_const, ev_func, ofConst_int, ofConst_bool, ofConst_str, ofConst_nil, upd_apply, Nat.reduceEqDiff, ↓reduceIte] <;> exact rfl) (by first | exact Sub.refl _ | exact sub1 _ _ | exact sub2 _ _ _ | exact sub3 _ _ _ _ | exact sub4 _ _ _ _ _ | exact sub5 _ _ _ _ _ _) ⟨by unfold stepN; rw [h1']; rfl, rfl⟩
theorem run_walk {w0 : World} {es : List Ent} (n : Nf) (w : List Int) (hw : ∀ b ∈ w, 0 ≤ b ∧ b < 256) : ACalls Tryd.prog w0 31 [n.av, bytesAV w] es fun v es' => v = .bool (runN n w) ∧ es' = es := by
  unfold Nf.av bytesAV
  refine calls2 (N := 31) Tryd.func31 rfl rfl (by decide) ?_
  refine w_seq ?_
  refine w_region ?_
  refine l_cons rfl (p_box fun s2 => ?_)
  refine l_cons rfl (p_assign ?_)
  refine l_nil ?_
  refine k_seq_normal ?_
  refine w_seq ?_
  refine w_seq ?_
  refine w_len 1 fun hl => ?_
  rw [List.length_map] at hl
  simp only [most] at hl
  refine w_region ?_
  refine l_cons rfl (p_loadp ty_36 ?_)
  refine l_cons rfl (p_callr en_30 (may n) ?_)
  refine l_cons rfl (p_not ?_)
  refine l_nil ?_
  refine k_seq_normal ?_
  refine w_b (fun h1 => ?_) (fun h1 => ?_)
  · skip
    have h1' := h1; (try simp only [decide_eq_true_eq, decide_eq_false_iff_not, Bool.not_eq_true', Bool.not_false, Bool.not_true, Bool.not_eq_false'] at h1')
    refine w_seq ?_
    refine w_region ?_
    refine l_cons rfl (p_assign ?_)
    refine l_nil ?_
    refine k_seq_normal ?_
    refine w_ret ?_
    refine k_seq_ret ?_
    exact ret1 rfl (by simp only [ev_tmp, ev_const, ev_func, ofConst_int, ofConst_bool, ofConst_str, ofConst_nil, upd_apply, Nat.reduceEqDiff, ↓reduceIte] <;> exact rfl) (by first | exact Sub.refl _ | exact sub1 _ _ | exact sub2 _ _ _ | exact sub3 _ _ _ _ | exact sub4 _ _ _ _ _ | exact sub5 _ _ _ _ _ _) ⟨by unfold runN; rw [h1']; rfl, rfl⟩
  · skip
    have h1' := h1; (try simp only [decide_eq_true_eq, decide_eq_false_iff_not, Bool.not_eq_true', Bool.not_false, Bool.not_true, Bool.not_eq_false'] at h1')
    refine w_skip ?_
    refine k_seq_normal ?_
    refine w_seq ?_
    refine w_region ?_
    refine l_cons rfl (p_loadp ty_36 ?_)
    refine l_cons rfl (p_fap fa_36_1 ?_)
    refine l_cons rfl (p_loadp ty_3 ?_)
    refine l_cons rfl (p_buildList sl_48 ze_3 ?_)
    refine l_cons rfl (p_callr en_78 (closed_walk n [n.start] (may_le h1')) ?_)
    refine l_cons rfl (p_assign ?_)
    refine l_nil ?_
    refine k_seq_normal ?_
    refine w_seq ?_
    refine w_seq ?_
    refine w_region ?_
    refine l_cons rfl (p_move ?_)
    refine l_cons rfl (p_lenl sl_22 ?_)
    refine l_cons rfl (p_move ?_)
    refine l_nil ?_
    refine k_seq_normal ?_
    refine w_block ?_
    refine w_loop (fun m f es' => ∃ k, m = w.length - k ∧ k ≤ w.length ∧ es' = .row s2 36 3 [n.cells] :: es ∧ Knows f [(2, .ptr es.length s2 0 0), (5, ints ((w.take k).foldl (stepped n) (closed n [n.start]))), (16, .list 1 (w.map fun n => [.int .u8 n])), (17, .int .i64 w.length), (18, .int .i64 k)]) (w.length) (⟨0, rfl, Nat.zero_le _, rfl, by simp only [Knows, upd_apply, Nat.reduceEqDiff, ↓reduceIte, and_true, true_and, eq_self] <;> first | exact rfl | exact ⟨rfl, rfl⟩ | exact ⟨rfl, rfl, rfl⟩ | exact ⟨rfl, rfl, rfl, rfl⟩ | exact ⟨rfl, rfl, rfl, rfl, rfl⟩ | exact ⟨rfl, rfl, rfl, rfl, rfl, rfl⟩⟩) ?_
    rintro m f es' ⟨k, rfl, hk1, rfl, hk⟩
    have hle := fold_len n (w.take k)
    refine w_pins _ (Sub.refl _) (hk) ?_
    simp only [pins]
    refine w_seq ?_
    refine w_region ?_
    refine l_cons rfl (p_cmp ?_)
    refine l_nil ?_
    refine k_seq_normal ?_
    refine w_seq ?_
    refine w_b (fun h2 => ?_) (fun h2 => ?_)
    · skip
      have h2' := h2; (try simp only [decide_eq_true_eq, decide_eq_false_iff_not, Bool.not_eq_true', Bool.not_false, Bool.not_true, Bool.not_eq_false'] at h2')
      refine w_skip ?_
      refine k_seq_normal ?_
      refine w_seq ?_
      refine w_block ?_
      refine w_seq ?_
      refine w_region ?_
      refine l_cons rfl (p_ixl sl_22 ?_)
      refine l_cons rfl (p_loadf ty_5 ?_)
      refine l_cons rfl (p_assign ?_)
      refine l_nil ?_
      refine k_seq_normal ?_
      refine w_region ?_
      refine l_cons rfl (p_loadp ty_36 ?_)
      refine l_cons rfl (p_move ?_)
      refine l_cons rfl (p_move ?_)
      refine l_cons rfl (p_callr en_79 (stepped_walk n ((w.take k).foldl (stepped n) (closed n [n.start])) (w[k]'(by omega)) (may_le h1') (by have := hle; have := may_le h1'; omega) (hw _ (List.getElem_mem _)).1 (hw _ (List.getElem_mem _)).2) ?_)
      refine l_cons rfl (p_assign ?_)
      refine l_nil ?_
      refine k_blk_normal ?_
      refine k_seq_normal ?_
      refine w_region ?_
      refine l_cons rfl (p_arith ?_)
      refine l_cons rfl (p_move ?_)
      refine l_nil ?_
      refine k_seq_normal ?_
      exact ⟨w.length - (k + 1), by omega, k + 1, rfl, by omega, rfl, by rw [fold_succ (by omega)]; simp only [Knows, upd_apply, Nat.reduceEqDiff, ↓reduceIte, and_true, true_and, eq_self] <;> first | exact rfl | exact ⟨rfl, rfl⟩ | exact ⟨rfl, rfl, rfl⟩ | exact ⟨rfl, rfl, rfl, rfl⟩ | exact ⟨rfl, rfl, rfl, rfl, rfl⟩ | exact ⟨rfl, rfl, rfl, rfl, rfl, rfl⟩⟩
    · skip
      have h2' := h2; (try simp only [decide_eq_true_eq, decide_eq_false_iff_not, Bool.not_eq_true', Bool.not_false, Bool.not_true, Bool.not_eq_false'] at h2')
      refine w_exit ?_
      refine k_seq_exit ?_
      refine k_seq_exit ?_
      refine k_blk_here ?_
      refine k_seq_normal ?_
      refine w_seq ?_
      refine w_region ?_
      refine l_cons rfl (p_move ?_)
      refine l_cons rfl (p_fap fa_36_2 ?_)
      refine l_cons rfl (p_loadp ty_3 ?_)
      refine l_cons rfl (p_callr en_80 (contains_walk _ _) ?_)
      refine l_cons rfl (p_assign ?_)
      refine l_nil ?_
      refine k_seq_normal ?_
      refine w_ret ?_
      exact ret1 rfl (by simp only [ev_tmp, ev_const, ev_func, ofConst_int, ofConst_bool, ofConst_str, ofConst_nil, upd_apply, Nat.reduceEqDiff, ↓reduceIte] <;> exact rfl) (by first | exact Sub.refl _ | exact sub1 _ _ | exact sub2 _ _ _ | exact sub3 _ _ _ _ | exact sub4 _ _ _ _ _ | exact sub5 _ _ _ _ _ _) ⟨by unfold runN; rw [h1', show k = w.length by omega, List.take_length]; rfl, rfl⟩
end Go.Proofs.YtfdgbghlanbddaaDoor.Av
set_option linter.unusedVariables false
set_option linter.unusedSimpArgs false
set_option maxRecDepth 8000
namespace Go.Proofs.YtfdgbghlanbddaaDoor.Av
open Go.RowKit Go.Proofs
theorem nodes_leaf {w0 : World} {es : List Ent} : ACalls Tryd.prog w0 108 [.agg [.int .i64 3, .int .u64 0, .int .u64 8589934592, .int .u64 0, .int .u64 0, .nil]] es fun v es' => v = .int .i64 1 ∧ es' = es := by
  refine calls1 (N := 19) Tryd.func108 rfl rfl (by decide) ?_
  refine w_seq ?_
  refine w_region ?_
  refine l_cons rfl (p_box fun s1 => ?_)
  refine l_cons rfl (p_assign ?_)
  refine l_nil ?_
  refine k_seq_normal ?_
  refine w_seq ?_
  refine w_region ?_
  refine l_cons rfl (p_assign ?_)
  refine l_nil ?_
  refine k_seq_normal ?_
  refine w_seq ?_
  refine w_seq ?_
  refine w_region ?_
  refine l_cons rfl (p_fap fa_29_2 ?_)
  refine l_cons rfl (p_loadp ty_27 ?_)
  first | refine l_cons rfl (p_lenl sl_27 ?_) | refine l_cons rfl (p_leno sl_27 ?_) | refine l_cons rfl (p_lenn sl_27 ?_)
  refine l_cons rfl (p_move ?_)
  refine l_nil ?_
  refine k_seq_normal ?_
  refine w_block ?_
  refine w_loop (fun m f es' => Sub (.row s1 29 6 [[.int .i64 3, .int .u64 0, .int .u64 8589934592, .int .u64 0, .int .u64 0, .nil]] :: es) es' ∧ Knows f [(3, .int .i64 1), (8, .int .i64 0), (9, .int .i64 0)]) (0) (⟨Sub.refl _, by simp only [Knows, upd_apply, Nat.reduceEqDiff, ↓reduceIte, and_true, true_and, eq_self] <;> first | exact rfl | exact ⟨rfl, rfl⟩ | exact ⟨rfl, rfl, rfl⟩ | exact ⟨rfl, rfl, rfl, rfl⟩ | exact ⟨rfl, rfl, rfl, rfl, rfl⟩ | exact ⟨rfl, rfl, rfl, rfl, rfl, rfl⟩⟩) ?_
  rintro m f es' ⟨hsub, hk⟩
  refine w_pins _ hsub (hk) ?_
  simp only [pins]
  refine w_seq ?_
  refine w_region ?_
  refine l_cons rfl (p_cmpl false ?_)
  refine l_nil ?_
  refine k_seq_normal ?_
  refine w_seq ?_
  refine w_f rfl ?_
  refine w_exit ?_
  refine k_seq_exit ?_
  refine k_seq_exit ?_
  refine k_blk_here ?_
  refine k_seq_normal ?_
  refine w_seq ?_
  refine w_region ?_
  refine l_cons rfl (p_move ?_)
  refine l_cons rfl (p_assign ?_)
  refine l_nil ?_
  refine k_seq_normal ?_
  refine w_ret ?_
  exact ret1 rfl (by simp only [ev_tmp, ev_const, ev_func, ofConst_int, ofConst_bool, ofConst_str, ofConst_nil, upd_apply, Nat.reduceEqDiff, ↓reduceIte] <;> exact rfl) (by first | exact Sub.refl _ | exact sub1 _ _ | exact sub2 _ _ _ | exact sub3 _ _ _ _ | exact sub4 _ _ _ _ _ | exact sub5 _ _ _ _ _ _) ⟨rfl, rfl⟩
theorem depth_leaf {w0 : World} {es : List Ent} : ACalls Tryd.prog w0 109 [.agg [.int .i64 3, .int .u64 0, .int .u64 8589934592, .int .u64 0, .int .u64 0, .nil]] es fun v es' => v = .int .i64 1 ∧ es' = es := by
  refine calls1 (N := 20) Tryd.func109 rfl rfl (by decide) ?_
  refine w_seq ?_
  refine w_region ?_
  refine l_cons rfl (p_box fun s1 => ?_)
  refine l_cons rfl (p_assign ?_)
  refine l_nil ?_
  refine k_seq_normal ?_
  refine w_seq ?_
  refine w_region ?_
  refine l_cons rfl (p_assign ?_)
  refine l_nil ?_
  refine k_seq_normal ?_
  refine w_seq ?_
  refine w_seq ?_
  refine w_region ?_
  refine l_cons rfl (p_fap fa_29_2 ?_)
  refine l_cons rfl (p_loadp ty_27 ?_)
  first | refine l_cons rfl (p_lenl sl_27 ?_) | refine l_cons rfl (p_leno sl_27 ?_) | refine l_cons rfl (p_lenn sl_27 ?_)
  refine l_cons rfl (p_move ?_)
  refine l_nil ?_
  refine k_seq_normal ?_
  refine w_block ?_
  refine w_loop (fun m f es' => Sub (.row s1 29 6 [[.int .i64 3, .int .u64 0, .int .u64 8589934592, .int .u64 0, .int .u64 0, .nil]] :: es) es' ∧ Knows f [(3, .int .i64 0), (8, .int .i64 0), (9, .int .i64 0)]) (0) (⟨Sub.refl _, by simp only [Knows, upd_apply, Nat.reduceEqDiff, ↓reduceIte, and_true, true_and, eq_self] <;> first | exact rfl | exact ⟨rfl, rfl⟩ | exact ⟨rfl, rfl, rfl⟩ | exact ⟨rfl, rfl, rfl, rfl⟩ | exact ⟨rfl, rfl, rfl, rfl, rfl⟩ | exact ⟨rfl, rfl, rfl, rfl, rfl, rfl⟩⟩) ?_
  rintro m f es' ⟨hsub, hk⟩
  refine w_pins _ hsub (hk) ?_
  simp only [pins]
  refine w_seq ?_
  refine w_region ?_
  refine l_cons rfl (p_cmpl false ?_)
  refine l_nil ?_
  refine k_seq_normal ?_
  refine w_seq ?_
  refine w_f rfl ?_
  refine w_exit ?_
  refine k_seq_exit ?_
  refine k_seq_exit ?_
  refine k_blk_here ?_
  refine k_seq_normal ?_
  refine w_seq ?_
  refine w_region ?_
  refine l_cons rfl (p_move ?_)
  refine l_cons rfl (p_arith ?_)
  refine l_cons rfl (p_assign ?_)
  refine l_nil ?_
  refine k_seq_normal ?_
  refine w_ret ?_
  exact ret1 rfl (by simp only [ev_tmp, ev_const, ev_func, ofConst_int, ofConst_bool, ofConst_str, ofConst_nil, upd_apply, Nat.reduceEqDiff, ↓reduceIte] <;> exact rfl) (by first | exact Sub.refl _ | exact sub1 _ _ | exact sub2 _ _ _ | exact sub3 _ _ _ _ | exact sub4 _ _ _ _ _ | exact sub5 _ _ _ _ _ _) ⟨rfl, rfl⟩
theorem indexRx_nil {w0 : World} {es : List Ent} {g : AV} : ACalls Tryd.prog w0 157 [.nil, g] es fun v es' => v = .int .i64 (-1) ∧ es' = es := by
  refine calls2 (N := 19) Tryd.func157 rfl rfl (by decide) ?_
  refine w_seq ?_
  refine w_region ?_
  refine l_cons rfl (p_assign ?_)
  refine l_nil ?_
  refine k_seq_normal ?_
  refine w_seq ?_
  refine w_seq ?_
  refine w_region ?_
  refine l_cons rfl (p_move ?_)
  refine l_cons rfl (p_lenn sl_27 ?_)
  refine l_cons rfl (p_move ?_)
  refine l_nil ?_
  refine k_seq_normal ?_
  refine w_block ?_
  refine w_loop (fun m f es' => Sub (es) es' ∧ Knows f [(7, .int .i64 0), (8, .int .i64 0)]) (0) (⟨Sub.refl _, by simp only [Knows, upd_apply, Nat.reduceEqDiff, ↓reduceIte, and_true, true_and, eq_self] <;> first | exact rfl | exact ⟨rfl, rfl⟩ | exact ⟨rfl, rfl, rfl⟩ | exact ⟨rfl, rfl, rfl, rfl⟩ | exact ⟨rfl, rfl, rfl, rfl, rfl⟩ | exact ⟨rfl, rfl, rfl, rfl, rfl, rfl⟩⟩) ?_
  rintro m f es' ⟨hsub, hk⟩
  refine w_pins _ hsub (hk) ?_
  simp only [pins]
  refine w_seq ?_
  refine w_region ?_
  refine l_cons rfl (p_cmpl false ?_)
  refine l_nil ?_
  refine k_seq_normal ?_
  refine w_seq ?_
  refine w_f rfl ?_
  refine w_exit ?_
  refine k_seq_exit ?_
  refine k_seq_exit ?_
  refine k_blk_here ?_
  refine k_seq_normal ?_
  refine w_seq ?_
  refine w_region ?_
  refine l_cons rfl (p_assign ?_)
  refine l_nil ?_
  refine k_seq_normal ?_
  refine w_ret ?_
  exact ret1 rfl (by simp only [ev_tmp, ev_const, ev_func, ofConst_int, ofConst_bool, ofConst_str, ofConst_nil, upd_apply, Nat.reduceEqDiff, ↓reduceIte] <;> exact rfl) (by first | exact Sub.refl _ | exact sub1 _ _ | exact sub2 _ _ _ | exact sub3 _ _ _ _ | exact sub4 _ _ _ _ _ | exact sub5 _ _ _ _ _ _) ⟨rfl, rfl⟩
theorem containsRx_nil {w0 : World} {es : List Ent} {g : AV} : ACalls Tryd.prog w0 140 [.nil, g] es fun v es' => v = .bool false ∧ es' = es := by
  refine calls2 (N := 9) Tryd.func140 rfl rfl (by decide) ?_
  refine w_seq ?_
  refine w_region ?_
  refine l_cons rfl (p_assign ?_)
  refine l_nil ?_
  refine k_seq_normal ?_
  refine w_seq ?_
  refine w_region ?_
  refine l_cons rfl (p_move ?_)
  refine l_cons rfl (p_move ?_)
  refine l_cons rfl (p_callr en_157 (indexRx_nil) ?_)
  refine l_cons rfl (p_cmpl false ?_)
  refine l_cons rfl (p_assign ?_)
  refine l_nil ?_
  refine k_seq_normal ?_
  refine w_ret ?_
  exact ret1 rfl (by simp only [ev_tmp, ev_const, ev_func, ofConst_int, ofConst_bool, ofConst_str, ofConst_nil, upd_apply, Nat.reduceEqDiff, ↓reduceIte] <;> exact rfl) (by first | exact Sub.refl _ | exact sub1 _ _ | exact sub2 _ _ _ | exact sub3 _ _ _ _ | exact sub4 _ _ _ _ _ | exact sub5 _ _ _ _ _ _) ⟨rfl, rfl⟩
theorem plain_leaf {w0 : World} {es : List Ent} : ACalls Tryd.prog w0 110 [.agg [.int .i64 3, .int .u64 0, .int .u64 8589934592, .int .u64 0, .int .u64 0, .nil]] es fun v es' => v = .bool true ∧ es' = es := by
  refine calls1 (N := 91) Tryd.func110 rfl rfl (by decide) ?_
  refine w_seq ?_
  refine w_region ?_
  refine l_cons rfl (p_box fun s1 => ?_)
  refine l_cons rfl (p_assign ?_)
  refine l_nil ?_
  refine k_seq_normal ?_
  refine w_seq ?_
  refine w_region ?_
  refine l_cons rfl (p_fap fa_29_1 ?_)
  refine l_cons rfl (p_loadp ty_26 ?_)
  refine l_cons rfl (p_buildArr ze_26 ar_26 ?_)
  refine l_cons rfl (p_eqa ai_26 (b := false) ?_)
  refine l_cons rfl (p_assign ?_)
  refine l_nil ?_
  refine k_seq_normal ?_
  refine w_seq ?_
  refine w_region ?_
  refine l_cons rfl (p_assign ?_)
  refine l_nil ?_
  refine k_seq_normal ?_
  refine w_seq ?_
  refine w_seq ?_
  refine w_region ?_
  refine l_cons rfl (p_fap fa_29_0 ?_)
  refine l_cons rfl (p_loadp ty_3 ?_)
  refine l_nil ?_
  refine k_seq_normal ?_
  refine w_block ?_
  refine w_seq ?_
  refine w_seq ?_
  refine w_region ?_
  refine l_cons rfl (p_cmpl false ?_)
  refine l_cons rfl (p_assign ?_)
  refine l_nil ?_
  refine k_seq_normal ?_
  refine w_f rfl ?_
  refine w_region ?_
  refine l_cons rfl (p_cmpl false ?_)
  refine l_cons rfl (p_assign ?_)
  refine l_nil ?_
  refine k_seq_normal ?_
  refine w_f rfl ?_
  refine w_seq ?_
  refine w_region ?_
  refine l_cons rfl (p_cmpl true ?_)
  refine l_cons rfl (p_assign ?_)
  refine l_nil ?_
  refine k_seq_normal ?_
  refine w_t rfl ?_
  refine w_region ?_
  refine l_cons rfl (p_move ?_)
  refine l_cons rfl (p_not ?_)
  refine l_cons rfl (p_move ?_)
  refine g_y rfl rfl (p_fap fa_29_2 ?_)
  refine g_y rfl rfl (p_loadp ty_27 ?_)
  first | refine g_y rfl rfl (p_lenl sl_27 ?_) | refine g_y rfl rfl (p_leno sl_27 ?_) | refine g_y rfl rfl (p_lenn sl_27 ?_)
  refine g_y rfl rfl (p_cmpl true ?_)
  refine l_cons rfl (p_pickt rfl ?_)
  refine l_cons rfl (p_assign ?_)
  refine l_nil ?_
  refine k_blk_normal ?_
  refine k_seq_normal ?_
  refine w_seq ?_
  refine w_region ?_
  refine l_cons rfl (p_move ?_)
  refine l_cons rfl (p_move ?_)
  refine g_y rfl rfl (p_fap fa_29_2 ?_)
  refine g_y rfl rfl (p_loadp ty_27 ?_)
  refine g_y rfl rfl (p_callr en_140 (containsRx_nil) ?_)
  refine g_y rfl rfl (p_not ?_)
  refine l_cons rfl (p_pickt rfl ?_)
  refine l_cons rfl (p_assign ?_)
  refine l_nil ?_
  refine k_seq_normal ?_
  refine w_ret ?_
  exact ret1 rfl (by simp only [ev_tmp, ev_const, ev_func, ofConst_int, ofConst_bool, ofConst_str, ofConst_nil, upd_apply, Nat.reduceEqDiff, ↓reduceIte] <;> exact rfl) (by first | exact Sub.refl _ | exact sub1 _ _ | exact sub2 _ _ _ | exact sub3 _ _ _ _ | exact sub4 _ _ _ _ _ | exact sub5 _ _ _ _ _ _) ⟨rfl, rfl⟩
theorem rxMay_leaf {w0 : World} {es : List Ent} : ACalls Tryd.prog w0 71 [.agg [.int .i64 3, .int .u64 0, .int .u64 8589934592, .int .u64 0, .int .u64 0, .nil]] es fun v es' => v = .int .i64 0 ∧ es' = es := by
  refine calls1 (N := 15) Tryd.func71 rfl rfl (by decide) ?_
  refine w_seq ?_
  refine w_region ?_
  refine l_cons rfl (p_box fun s1 => ?_)
  refine l_cons rfl (p_assign ?_)
  refine l_nil ?_
  refine k_seq_normal ?_
  refine w_seq ?_
  refine w_block ?_
  refine w_seq ?_
  refine w_region ?_
  refine l_cons rfl (p_loadp ty_29 ?_)
  refine l_cons rfl (p_callr en_108 (nodes_leaf) ?_)
  refine l_cons rfl (p_cmpl false ?_)
  refine l_cons rfl (p_assign ?_)
  refine l_nil ?_
  refine k_seq_normal ?_
  refine w_f rfl ?_
  refine w_seq ?_
  refine w_region ?_
  refine l_cons rfl (p_loadp ty_29 ?_)
  refine l_cons rfl (p_callr en_109 (depth_leaf) ?_)
  refine l_cons rfl (p_cmpl false ?_)
  refine l_cons rfl (p_assign ?_)
  refine l_nil ?_
  refine k_seq_normal ?_
  refine w_f rfl ?_
  refine w_seq ?_
  refine w_region ?_
  refine l_cons rfl (p_loadp ty_29 ?_)
  refine l_cons rfl (p_callr en_110 (plain_leaf) ?_)
  refine l_cons rfl (p_not ?_)
  refine l_cons rfl (p_assign ?_)
  refine l_nil ?_
  refine k_seq_normal ?_
  refine w_f rfl ?_
  refine w_skip ?_
  refine k_blk_normal ?_
  refine k_seq_normal ?_
  refine w_seq ?_
  refine w_region ?_
  refine l_cons rfl (p_assign ?_)
  refine l_nil ?_
  refine k_seq_normal ?_
  refine w_ret ?_
  exact ret1 rfl (by simp only [ev_tmp, ev_const, ev_func, ofConst_int, ofConst_bool, ofConst_str, ofConst_nil, upd_apply, Nat.reduceEqDiff, ↓reduceIte] <;> exact rfl) (by first | exact Sub.refl _ | exact sub1 _ _ | exact sub2 _ _ _ | exact sub3 _ _ _ _ | exact sub4 _ _ _ _ _ | exact sub5 _ _ _ _ _ _) ⟨rfl, rfl⟩
end Go.Proofs.YtfdgbghlanbddaaDoor.Av
set_option linter.unusedVariables false
set_option linter.unusedSimpArgs false
set_option maxRecDepth 8000
namespace Go.Proofs.YtfdgbghlanbddaaDoor.Av
open Go.RowKit Go.Proofs
def nfA : Nf := ⟨[⟨0, 0, 0, 0, -1, []⟩, ⟨0, 8589934592, 0, 0, 0, []⟩], 1, 0⟩
theorem state_walk {w0 : World} {es : List Ent} {ib sb iS sS : Nat} {rows : List (List AV)} (hb : at_ es ib = some (.row sb 94 1 [[.own iS sS]])) (hS : at_ es iS = some (.row sS 75 6 rows)) (hne : ib ≠ iS) (hr : rows.length ≤ 1000000) :
    ACalls Tryd.prog w0 111 [.ptr ib sb 0 0, .nil] es fun v es' => v = .int .i64 rows.length ∧ ∃ sS', es' = setAt (setAt es iS (.row sS' 75 6 (rows ++ [[AV.int .u64 0, .int .u64 0, .int .u64 0, .int .u64 0, .int .i64 (-1), .nil]]))) ib (.row sb 94 1 [[.own iS sS']]) := by
  refine calls2 (N := 22) Tryd.func111 rfl rfl (by decide) ?_
  refine w_seq ?_
  refine w_region ?_
  refine l_cons rfl (p_assign ?_)
  refine l_nil ?_
  refine k_seq_normal ?_
  refine w_seq ?_
  refine w_region ?_
  refine l_cons rfl (p_move ?_)
  refine l_cons rfl (p_move ?_)
  first | refine l_cons rfl (p_ncp ?_) | refine l_cons rfl (p_ncf ?_)
  refine l_cons rfl (p_fap fa_94_0 ?_)
  refine l_cons rfl (p_loadp ty_34 ?_)
  refine l_cons rfl (p_move ?_)
  refine l_cons rfl (p_build ze_75 pl_75 ?_)
  refine l_cons rfl (p_buildList sl_34 ze_75 ?_)
  refine l_cons rfl (p_append sl_34 by_75 ze_75 (fun s13 => ?_))
  have hb1 := (at_setAt_ne (.row s13 75 6 (rows ++ [[AV.int .u64 0, .int .u64 0, .int .u64 0, .int .u64 0, .int .i64 (-1), .nil]])) hne).trans hb
  have hS1 := at_setAt_same (.row s13 75 6 (rows ++ [[AV.int .u64 0, .int .u64 0, .int .u64 0, .int .u64 0, .int .i64 (-1), .nil]])) hS
  first | refine l_cons rfl (p_ncp ?_) | refine l_cons rfl (p_ncf ?_)
  refine l_cons rfl (p_fap fa_94_0 ?_)
  refine l_cons rfl (p_store ty_34 ?_)
  have hb2 := at_setAt_same (.row sb 94 1 [[.own iS s13]]) hb1
  have hS2 := (at_setAt_ne (.row sb 94 1 [[.own iS s13]]) (Ne.symm hne)).trans hS1
  have hlen : (rows ++ [[AV.int .u64 0, .int .u64 0, .int .u64 0, .int .u64 0, .int .i64 (-1), .nil]]).length = rows.length + 1 := by simp
  refine l_nil ?_
  refine k_seq_normal ?_
  refine w_seq ?_
  refine w_region ?_
  refine l_cons rfl (p_move ?_)
  first | refine l_cons rfl (p_ncp ?_) | refine l_cons rfl (p_ncf ?_)
  refine l_cons rfl (p_fap fa_94_0 ?_)
  refine l_cons rfl (p_loadp ty_34 ?_)
  first | refine l_cons rfl (p_lenl sl_34 ?_) | refine l_cons rfl (p_leno sl_34 ?_) | refine l_cons rfl (p_lenn sl_34 ?_)
  refine l_cons rfl (p_arith ?_)
  refine l_cons rfl (p_assign ?_)
  refine l_nil ?_
  refine k_seq_normal ?_
  refine w_ret ?_
  exact ret1 rfl (by simp only [ev_tmp, ev_const, ev_func, ofConst_int, ofConst_bool, ofConst_str, ofConst_nil, upd_apply, Nat.reduceEqDiff, ↓reduceIte] <;> exact rfl) (Sub.refl _) ⟨by rw [hlen]; congr 1; omega, s13, rfl⟩
theorem state_leaf {w0 : World} {T : List Ent} {x : Ent} {sb sS : Nat} {rows : List (List AV)} (hr : rows.length ≤ 1000000) :
    ACalls Tryd.prog w0 111 [.ptr T.length sb 0 0, .nil] (x :: .row sS 75 6 rows :: .row sb 94 1 [[.own (T.length + 1) sS]] :: T) fun v es' => v = .int .i64 rows.length ∧ ∃ sS', es' = x :: .row sS' 75 6 (rows ++ [[AV.int .u64 0, .int .u64 0, .int .u64 0, .int .u64 0, .int .i64 (-1), .nil]]) :: .row sb 94 1 [[.own (T.length + 1) sS']] :: T := by
  refine (state_walk (iS := T.length + 1) (at_miss _ (at_miss _ (at_hit _ _))) (at_miss _ (at_hit _ _)) (by omega) hr).mono ?_
  rintro _ _ ⟨rfl, s', rfl⟩
  exact ⟨rfl, s', setAt2⟩
theorem part_leaf {w0 : World} {T : List Ent} {sb sS : Nat} :
    ACalls Tryd.prog w0 72 [.ptr T.length sb 0 0, .agg [AV.int .i64 3, .int .u64 0, .int .u64 8589934592, .int .u64 0, .int .u64 0, .nil]] (.row sS 75 6 [] :: .row sb 94 1 [[.own (T.length + 1) sS]] :: T) fun v es' => v = .tup [.int .i64 1, .int .i64 0] ∧ ∃ sS', es' = .row sS' 75 6 [[AV.int .u64 0, .int .u64 0, .int .u64 0, .int .u64 0, .int .i64 (-1), .nil], [AV.int .u64 0, .int .u64 8589934592, .int .u64 0, .int .u64 0, .int .i64 0, .nil]] :: .row sb 94 1 [[.own (T.length + 1) sS']] :: T := by
  refine calls2 (N := 84) Tryd.func72 rfl rfl (by decide) ?_
  refine w_seq ?_
  refine w_region ?_
  refine l_cons rfl (p_box fun s3 => ?_)
  refine l_cons rfl (p_assign ?_)
  refine l_cons rfl (p_assign ?_)
  refine l_nil ?_
  refine k_seq_normal ?_
  refine w_seq ?_
  refine w_seq ?_
  refine w_region ?_
  refine l_cons rfl (p_fap fa_29_0 ?_)
  refine l_cons rfl (p_loadp ty_3 ?_)
  refine l_nil ?_
  refine k_seq_normal ?_
  refine w_block ?_
  refine w_seq ?_
  refine w_region ?_
  refine l_cons rfl (p_cmpl true ?_)
  refine l_cons rfl (p_assign ?_)
  refine l_nil ?_
  refine k_seq_normal ?_
  refine w_t rfl ?_
  refine w_seq ?_
  refine w_region ?_
  refine l_cons rfl (p_move ?_)
  refine l_cons rfl (p_call en_111 ((state_leaf (rows := []) (by simp)).mono ?_))
  rintro _ _ ⟨rfl, sA, rfl⟩
  simp only [List.nil_append]
  refine l_cons rfl (p_assign ?_)
  refine l_nil ?_
  refine k_seq_normal ?_
  refine w_seq ?_
  refine w_region ?_
  refine l_cons rfl (p_move ?_)
  refine l_cons rfl (p_call en_111 ((state_leaf (rows := [[AV.int .u64 0, .int .u64 0, .int .u64 0, .int .u64 0, .int .i64 (-1), .nil]]) (by simp)).mono ?_))
  rintro _ _ ⟨rfl, sB, rfl⟩
  simp only [List.cons_append, List.nil_append]
  refine l_cons rfl (p_assign ?_)
  refine l_nil ?_
  refine k_seq_normal ?_
  refine w_seq ?_
  refine w_drawn 16 [15] (fun e => ∃ rws, rws.length = 2 ∧ e = .row s3 29 6 [[AV.int .i64 3, .int .u64 0, .int .u64 8589934592, .int .u64 0, .int .u64 0, .nil]] :: .row sB 75 6 rws :: .row sb 94 1 [[.own (T.length + 1) sB]] :: T) mixed (by kernel_rfl) ⟨_, rfl, rfl⟩ ?_
  refine q1 0 (hg := rfl) (hu := rfl) (h := by rintro f _ ⟨rws, hl, rfl⟩; exact p_move ⟨rfl, rfl⟩) (k := ?_)
  first | refine q1 16 (hg := rfl) (hu := rfl) (h := by rintro f _ ⟨rws, hl, rfl⟩; exact p_ncp ⟨rfl, rfl⟩) (k := ?_) | refine q1 16 (hg := rfl) (hu := rfl) (h := by rintro f _ ⟨rws, hl, rfl⟩; exact p_ncf ⟨rfl, rfl⟩) (k := ?_)
  refine q1 17 (hg := rfl) (hu := rfl) (h := by rintro f _ ⟨rws, hl, rfl⟩; exact p_fap fa_94_0 ⟨rfl, rfl⟩) (k := ?_)
  refine q1 18 (hg := rfl) (hu := rfl) (h := by rintro f _ ⟨rws, hl, rfl⟩; exact p_loadp ty_34 ⟨rfl, rfl⟩) (k := ?_)
  refine q1 4 (hg := rfl) (hu := rfl) (h := by rintro f _ ⟨rws, hl, rfl⟩; exact p_move ⟨rfl, rfl⟩) (k := ?_)
  refine q1 0 (hg := rfl) (hu := rfl) (h := by rintro f _ ⟨rws, hl, rfl⟩; exact p_move ⟨rfl, rfl⟩) (k := ?_)
  first | refine q1 21 (hg := rfl) (hu := rfl) (h := by rintro f _ ⟨rws, hl, rfl⟩; exact p_ncp ⟨rfl, rfl⟩) (k := ?_) | refine q1 21 (hg := rfl) (hu := rfl) (h := by rintro f _ ⟨rws, hl, rfl⟩; exact p_ncf ⟨rfl, rfl⟩) (k := ?_)
  refine q1 22 (hg := rfl) (hu := rfl) (h := by rintro f _ ⟨rws, hl, rfl⟩; exact p_fap fa_94_0 ⟨rfl, rfl⟩) (k := ?_)
  refine q1 23 (hg := rfl) (hu := rfl) (h := by rintro f _ ⟨rws, hl, rfl⟩; exact p_loadp ty_34 ⟨rfl, rfl⟩) (k := ?_)
  refine q1 4 (hg := rfl) (hu := rfl) (h := by rintro f _ ⟨rws, hl, rfl⟩; exact p_move ⟨rfl, rfl⟩) (k := ?_)
  refine q1 3 (hg := rfl) (hu := rfl) (h := by rintro f _ ⟨rws, hl, rfl⟩; exact p_fap fa_29_1 ⟨rfl, rfl⟩) (k := ?_)
  refine q1 26 (hg := rfl) (hu := rfl) (h := by rintro f _ ⟨rws, hl, rfl⟩; exact p_loadp ty_26 ⟨rfl, rfl⟩) (k := ?_)
  refine q1 5 (hg := rfl) (hu := rfl) (h := by rintro f _ ⟨rws, hl, rfl⟩; exact p_move ⟨rfl, rfl⟩) (k := ?_)
  first | refine q2 19 20 (hg := rfl) (hu := rfl) (h := by rintro f _ ⟨rws, hl, rfl⟩; exact p_ixl sl_34 ⟨rfl, rfl⟩) (k := ?_) | refine q2 19 20 (hg := rfl) (hu := rfl) (h := by rintro f _ ⟨rws, hl, rfl⟩; exact p_ixo sl_34 ⟨rfl, rfl⟩) (k := ?_)
  first | refine q1 29 (hg := rfl) (hu := rfl) (h := by rintro f _ ⟨rws, hl, rfl⟩; exact p_fap fa_75_0 ⟨rfl, rfl⟩) (k := ?_) | refine q1 29 (hg := rfl) (hu := rfl) (h := by rintro f _ ⟨rws, hl, rfl⟩; exact p_faf fa_75_0 ⟨rfl, rfl⟩) (k := ?_)
  refine q_end ?_
  refine ms2 30 27 (hu := rfl) (h := fun f => p_store ty_26 ?_)
  refine ⟨rfl, ⟨_, rfl, rfl⟩, ?_⟩
  refine m_end ?_
  first | refine l_cons rfl (p_ixl sl_34 ?_) | refine l_cons rfl (p_ixo sl_34 ?_)
  first | refine l_cons rfl (p_fap fa_75_1 ?_) | refine l_cons rfl (p_faf fa_75_1 ?_)
  refine l_cons rfl (p_store ty_3 ?_)
  refine l_nil ?_
  refine k_seq_normal ?_
  refine w_seq ?_
  refine w_region ?_
  refine l_cons rfl (p_move ?_)
  refine l_cons rfl (p_move ?_)
  refine l_cons rfl (p_assign ?_)
  refine l_cons rfl (p_assign ?_)
  refine l_nil ?_
  refine k_seq_normal ?_
  refine w_ret ?_
  refine k_blk_ret ?_
  refine k_seq_ret ?_
  exact ret2 rfl (by simp only [ev_tmp, ev_const, ev_func, ofConst_int, ofConst_bool, ofConst_str, ofConst_nil, upd_apply, Nat.reduceEqDiff, ↓reduceIte] <;> exact rfl) (by simp only [ev_tmp, ev_const, ev_func, ofConst_int, ofConst_bool, ofConst_str, ofConst_nil, upd_apply, Nat.reduceEqDiff, ↓reduceIte] <;> exact rfl) (sub1 _ _) ⟨rfl, sB, rfl⟩
theorem build_leaf {w0 : World} {es : List Ent} : ACalls Tryd.prog w0 27 [.agg [AV.int .i64 3, .int .u64 0, .int .u64 8589934592, .int .u64 0, .int .u64 0, .nil]] es fun v es' => v = .tup [nfA.av, .int .i64 0] ∧ es' = es := by
  refine calls1 (N := 29) Tryd.func27 rfl rfl (by decide) ?_
  refine w_seq ?_
  refine w_region ?_
  refine l_cons rfl (p_box fun s1 => ?_)
  refine l_cons rfl (p_alloc ze_36 fun s2 => ?_)
  refine l_cons rfl (p_assign ?_)
  refine l_nil ?_
  refine k_seq_normal ?_
  refine w_seq ?_
  refine w_seq ?_
  refine w_region ?_
  refine l_cons rfl (p_loadp ty_29 ?_)
  refine l_cons rfl (p_callr en_71 (rxMay_leaf) ?_)
  refine l_cons rfl (p_assign ?_)
  refine l_nil ?_
  refine k_seq_normal ?_
  refine w_seq ?_
  refine w_region ?_
  refine l_cons rfl (p_move ?_)
  refine l_cons rfl (p_cmpl false ?_)
  refine l_nil ?_
  refine k_seq_normal ?_
  refine w_f rfl ?_
  refine w_skip ?_
  refine k_seq_normal ?_
  refine w_seq ?_
  refine w_region ?_
  refine l_cons rfl (p_build ze_94 pl_94 ?_)
  refine l_cons rfl (p_box fun s15 => ?_)
  refine l_cons rfl (p_assign ?_)
  refine l_nil ?_
  refine k_seq_normal ?_
  refine w_seq ?_
  refine w_adoptVar 75 6 fun sA => ?_
  refine w_region ?_
  refine l_cons rfl (p_move ?_)
  refine l_cons rfl (p_loadp ty_29 ?_)
  refine l_cons rfl (p_call en_72 (part_leaf.mono ?_))
  rintro _ _ ⟨rfl, sB, rfl⟩
  refine l_cons rfl (p_move ?_)
  refine l_cons rfl (p_extract ?_)
  refine l_cons rfl (p_extract ?_)
  refine l_cons rfl (p_assign ?_)
  refine l_cons rfl (p_assign ?_)
  refine l_nil ?_
  refine k_seq_normal ?_
  refine w_seq ?_
  refine w_region ?_
  refine l_cons rfl (p_move ?_)
  first | refine l_cons rfl (p_ncp ?_) | refine l_cons rfl (p_ncf ?_)
  refine l_cons rfl (p_fap fa_94_0 ?_)
  refine l_cons rfl (p_loadp ty_34 ?_)
  refine l_freeze 25 rfl loc_hit rfl ?_
  refine l_retell 25 (fun c m v h => rep_list_nilTo 1 h) ?_
  refine l_cons rfl (p_move ?_)
  refine l_cons rfl (p_move ?_)
  refine l_cons rfl (p_build ze_36 pl_36 ?_)
  refine l_cons rfl (p_store ty_36 ?_)
  refine l_cons rfl (p_assign ?_)
  refine l_nil ?_
  refine k_seq_normal ?_
  refine w_ret ?_
  exact retct rfl ty_36 (by first | exact sub4 _ _ _ _ _ | exact sub3 _ _ _ _ | exact sub5 _ _ _ _ _ _) ⟨rfl, rfl⟩
end Go.Proofs.YtfdgbghlanbddaaDoor.Av
set_option linter.unusedVariables false
set_option linter.unusedSimpArgs false
set_option maxRecDepth 8000
namespace Go.Proofs.YtfdgbghlanbddaaDoor.Av
open Go.RowKit Go.Proofs
theorem of_a {w0 : World} {es : List Ent} : ACalls Tryd.prog w0 68 [.list 1 [[.int .u8 97]]] es fun v es' => v = .agg [AV.int .u64 0, .int .u64 8589934592, .int .u64 0, .int .u64 0] ∧ es' = es := by
  refine calls1 (N := 27) Tryd.func68 rfl rfl (by decide) ?_
  refine w_seq ?_
  refine w_region ?_
  refine l_cons rfl (p_alloc ze_26 fun s2 => ?_)
  refine l_nil ?_
  refine k_seq_normal ?_
  refine w_seq ?_
  refine w_region ?_
  refine l_cons rfl (p_alloc ze_26 fun s3 => ?_)
  refine l_nil ?_
  refine k_seq_normal ?_
  refine w_seq ?_
  refine w_seq ?_
  refine w_region ?_
  refine l_cons rfl (p_assign ?_)
  refine l_nil ?_
  refine k_seq_normal ?_
  refine w_block ?_
  refine w_loop (fun m f es' => (m = 1 ∧ es' = .row s3 26 4 [[AV.int .u64 0, .int .u64 0, .int .u64 0, .int .u64 0]] :: .row s2 26 4 [[AV.int .u64 0, .int .u64 0, .int .u64 0, .int .u64 0]] :: es ∧ Knows f [(0, .list 1 [[.int .u8 97]]), (2, .ptr es.length s2 0 0), (3, .ptr (es.length + 1) s3 0 0), (4, .int .i64 0)]) ∨ (m = 0 ∧ es' = .row s3 26 4 [[AV.int .u64 0, .int .u64 8589934592, .int .u64 0, .int .u64 0]] :: .row s2 26 4 [[AV.int .u64 0, .int .u64 0, .int .u64 0, .int .u64 0]] :: es ∧ Knows f [(0, .list 1 [[.int .u8 97]]), (2, .ptr es.length s2 0 0), (3, .ptr (es.length + 1) s3 0 0), (4, .int .i64 1)])) (1) (Or.inl ⟨rfl, rfl, by simp only [Knows, upd_apply, Nat.reduceEqDiff, ↓reduceIte, and_true, true_and, eq_self] <;> first | exact rfl | exact ⟨rfl, rfl⟩ | exact ⟨rfl, rfl, rfl⟩ | exact ⟨rfl, rfl, rfl, rfl⟩ | exact ⟨rfl, rfl, rfl, rfl, rfl⟩ | exact ⟨rfl, rfl, rfl, rfl, rfl, rfl⟩⟩) ?_
  rintro m f es' (⟨rfl, rfl, hk⟩ | ⟨rfl, rfl, hk⟩)
  · refine w_pins _ (Sub.refl _) hk ?_
    simp only [pins]
    refine w_seq ?_
    refine w_seq ?_
    refine w_region ?_
    refine l_cons rfl (p_move ?_)
    refine l_cons rfl (p_move ?_)
    refine l_cons rfl (p_lenl sl_22 ?_)
    refine l_cons rfl (p_cmpl true ?_)
    refine l_nil ?_
    refine k_seq_normal ?_
    refine w_t rfl ?_
    refine w_skip ?_
    refine k_seq_normal ?_
    refine w_seq ?_
    refine w_block ?_
    refine w_drawn 14 [] (fun e => e = _) mixed (by kernel_rfl) rfl ?_
    refine q1 0 (hg := rfl) (hu := rfl) (h := by rintro f _ rfl; exact p_move ⟨rfl, rfl⟩) (k := ?_)
    refine q1 4 (hg := rfl) (hu := rfl) (h := by rintro f _ rfl; exact p_move ⟨rfl, rfl⟩) (k := ?_)
    refine q2 11 12 (hg := rfl) (hu := rfl) (h := by rintro f _ rfl; exact p_ixl sl_22 ⟨rfl, rfl⟩) (k := ?_)
    refine q1 13 (hg := rfl) (hu := rfl) (h := by rintro f _ rfl; exact p_loadf ty_5 ⟨rfl, rfl⟩) (k := ?_)
    refine q1 14 (hg := rfl) (hu := rfl) (h := by rintro f _ rfl; exact p_arithl 1 ⟨rfl, rfl⟩) (k := ?_)
    refine q2 3 15 (hg := rfl) (hu := rfl) (h := by rintro f _ rfl; exact p_ixa ar_26 ⟨rfl, rfl⟩) (k := ?_)
    refine q1 16 (hg := rfl) (hu := rfl) (h := by rintro f _ rfl; exact p_loadp ty_24 ⟨rfl, rfl⟩) (k := ?_)
    refine q1 0 (hg := rfl) (hu := rfl) (h := by rintro f _ rfl; exact p_move ⟨rfl, rfl⟩) (k := ?_)
    refine q1 4 (hg := rfl) (hu := rfl) (h := by rintro f _ rfl; exact p_move ⟨rfl, rfl⟩) (k := ?_)
    refine q2 18 19 (hg := rfl) (hu := rfl) (h := by rintro f _ rfl; exact p_ixl sl_22 ⟨rfl, rfl⟩) (k := ?_)
    refine q1 20 (hg := rfl) (hu := rfl) (h := by rintro f _ rfl; exact p_loadf ty_5 ⟨rfl, rfl⟩) (k := ?_)
    refine q1 21 (hg := rfl) (hu := rfl) (h := by rintro f _ rfl; exact p_arithl 33 ⟨rfl, rfl⟩) (k := ?_)
    refine q1 22 (hg := rfl) (hu := rfl) (h := by rintro f _ rfl; exact p_shl ⟨rfl, rfl⟩) (k := ?_)
    refine q2 17 23 (hg := rfl) (hu := rfl) (h := by rintro f _ rfl; exact p_arithl 8589934592 ⟨rfl, rfl⟩) (k := ?_)
    refine q_end ?_
    refine m_end ?_
    refine l_cons rfl (p_ixa ar_26 ?_)
    refine l_cons rfl (p_store ty_24 ?_)
    refine l_nil ?_
    refine k_blk_normal ?_
    refine k_seq_normal ?_
    refine w_region ?_
    refine l_cons rfl (p_move ?_)
    refine l_cons rfl (p_arith ?_)
    refine l_cons rfl (p_assign ?_)
    refine l_nil ?_
    refine k_seq_normal ?_
    exact ⟨0, by omega, Or.inr ⟨rfl, rfl, by simp only [Knows, upd_apply, Nat.reduceEqDiff, ↓reduceIte, and_true, true_and, eq_self] <;> first | exact rfl | exact ⟨rfl, rfl⟩ | exact ⟨rfl, rfl, rfl⟩ | exact ⟨rfl, rfl, rfl, rfl⟩ | exact ⟨rfl, rfl, rfl, rfl, rfl⟩ | exact ⟨rfl, rfl, rfl, rfl, rfl, rfl⟩⟩⟩
  · refine w_pins _ (Sub.refl _) hk ?_
    simp only [pins]
    refine w_seq ?_
    refine w_seq ?_
    refine w_region ?_
    refine l_cons rfl (p_move ?_)
    refine l_cons rfl (p_move ?_)
    refine l_cons rfl (p_lenl sl_22 ?_)
    refine l_cons rfl (p_cmpl false ?_)
    refine l_nil ?_
    refine k_seq_normal ?_
    refine w_f rfl ?_
    refine w_exit ?_
    refine k_seq_exit ?_
    refine k_seq_exit ?_
    refine k_blk_here ?_
    refine k_seq_normal ?_
    refine w_seq ?_
    refine w_region ?_
    refine l_cons rfl (p_loadp ty_26 ?_)
    refine l_cons rfl (p_store ty_26 ?_)
    refine l_nil ?_
    refine k_seq_normal ?_
    refine w_ret ?_
    exact retc rfl ty_26 (sub2 _ _ _) ⟨rfl, rfl⟩
theorem bytes_a {w0 : World} {es : List Ent} : ACalls Tryd.prog w0 67 [.agg [AV.int .u64 0, .int .u64 8589934592, .int .u64 0, .int .u64 0]] es fun v es' => v = .agg [AV.int .i64 3, .int .u64 0, .int .u64 8589934592, .int .u64 0, .int .u64 0, .nil] ∧ es' = es := by
  refine calls1 (N := 9) Tryd.func67 rfl rfl (by decide) ?_
  refine w_seq ?_
  refine w_region ?_
  refine l_cons rfl (p_box fun s1 => ?_)
  refine l_cons rfl (p_alloc ze_29 fun s2 => ?_)
  refine l_nil ?_
  refine k_seq_normal ?_
  refine w_seq ?_
  refine w_seq ?_
  refine w_region ?_
  refine l_cons rfl (p_loadp ty_26 ?_)
  refine l_cons rfl (p_buildArr ze_26 ar_26 ?_)
  refine l_cons rfl (p_eqa ai_26 (b := false) ?_)
  refine l_nil ?_
  refine k_seq_normal ?_
  refine w_f rfl ?_
  refine w_skip ?_
  refine k_seq_normal ?_
  refine w_seq ?_
  refine w_region ?_
  refine l_cons rfl (p_loadp ty_26 ?_)
  refine l_cons rfl (p_build ze_29 pl_29 ?_)
  refine l_cons rfl (p_store ty_29 ?_)
  refine l_nil ?_
  refine k_seq_normal ?_
  refine w_ret ?_
  exact retc rfl ty_29 (sub2 _ _ _) ⟨rfl, rfl⟩
end Go.Proofs.YtfdgbghlanbddaaDoor.Av
set_option linter.unusedVariables false
set_option maxRecDepth 8000
namespace Go.Proofs.YtfdgbghlanbddaaDoor.Av
open Go.RowKit Go.Proofs
/-- Where no state leads on, nothing is come to. -/
theorem closed_lone {n : Nf} (h : ∀ s ∈ n.st, s.free = []) (l : List Int) : closed n l = ((List.range n.st.length).filter fun i : Nat => l.contains (i : Int)).map Int.ofNat := by
  unfold closed
  congr 1
  refine List.filter_congr fun i hi => ?_
  have hi' : i < n.st.length := List.mem_range.1 hi
  have : Reach n l i ↔ (i : Int) ∈ l := by
    constructor
    · intro hr
      cases hr with
      | base _ hm => exact hm
      | step hc _ hm _ => rw [h _ (List.getElem_mem hc)] at hm; cases hm
    · exact fun hm => .base hi' hm
  rw [Bool.eq_iff_iff]
  simp [this]
theorem lone_a : ∀ s ∈ nfA.st, s.free = [] := by decide
theorem may_a' : mayN nfA = true := by decide
theorem closed_a1 : closed nfA [1] = [1] := by rw [closed_lone lone_a]; decide
theorem closed_a0 : closed nfA [0] = [0] := by rw [closed_lone lone_a]; decide
theorem run_a1 : runN nfA [97] = true := by
  unfold runN
  rw [may_a', show nfA.start = 1 from rfl, closed_a1]
  simp only [List.foldl_cons, List.foldl_nil, stepped]
  rw [show stepTo nfA [1] 97 = [0] by decide, closed_a0]
  decide
theorem run_a0 : runN nfA [] = false := by
  unfold runN
  rw [may_a', show nfA.start = 1 from rfl, closed_a1]
  decide
theorem close_a' : closeN nfA [1] = [1] := by
  unfold closeN
  rw [may_a', if_pos rfl, closed_a1]
/-- Arguments told otherwise. -/
theorem ACalls.args {P : Program} {w0 : World} {fid : FuncId} {a b : List AV} {es : List Ent} {R : AV → List Ent → Prop} (h : ∀ (c : Core) (m : Option (List Ent)) (vs : List Value), Reps c m b vs → Reps c m a vs) (k : ACalls P w0 fid a es R) : ACalls P w0 fid b es R :=
  fun c vs ok rs => k c vs ok (h _ _ _ rs)
theorem nil2 {a : AV} {sz : Nat} (c : Core) (m : Option (List Ent)) (vs : List Value) (h : Reps c m [a, .nil] vs) : Reps c m [a, .list sz []] vs := by
  simp only [Reps] at h ⊢
  obtain ⟨v, vs', e, h1, v2, vs2, e2, h2, e3⟩ := h
  exact ⟨v, vs', e, h1, v2, vs2, e2, rep_nilTo sz h2, e3⟩
theorem may_a {w0 : World} {es : List Ent} : ACalls Tryd.prog w0 30 [nfA.av] es fun v es' => v = .bool true ∧ es' = es := by
  have := may (w0 := w0) (es := es) nfA
  rwa [may_a'] at this
theorem run_a {w0 : World} {es : List Ent} : ACalls Tryd.prog w0 31 [nfA.av, .list 1 [[.int .u8 97]]] es fun v es' => v = .bool true ∧ es' = es := by
  have := run_walk (w0 := w0) (es := es) nfA [97] (by decide)
  rwa [run_a1] at this
theorem run_an {w0 : World} {es : List Ent} : ACalls Tryd.prog w0 31 [nfA.av, .nil] es fun v es' => v = .bool false ∧ es' = es := by
  have := run_walk (w0 := w0) (es := es) nfA [] (by decide)
  rw [run_a0] at this
  exact this.args nil2
theorem close_a {w0 : World} {es : List Ent} : ACalls Tryd.prog w0 37 [nfA.av, .list 1 [[.int .i64 1]]] es fun v es' => v = .list 1 [[.int .i64 1]] ∧ es' = es := by
  have := close_walk (w0 := w0) (es := es) nfA [1]
  rwa [close_a'] at this
end Go.Proofs.YtfdgbghlanbddaaDoor.Av
set_option linter.unusedVariables false
set_option linter.unusedSimpArgs false
set_option maxRecDepth 8000
namespace Go.Proofs.YtfdgbghlanbddaaDoor.Av
open Go.RowKit Go.Proofs
theorem begun_walk {w0 : World} {es : List Ent} : ACalls Tryd.prog w0 23 [] es fun v es' => v = .bool true ∧ es' = es := by
  refine calls0 (N := 37) Tryd.func23 rfl rfl ?_
  refine w_seq ?_
  refine w_region ?_
  refine l_cons rfl (p_assign ?_)
  refine l_nil ?_
  refine k_seq_normal ?_
  refine w_seq ?_
  refine w_region ?_
  refine l_cons rfl (p_buildSlice sl_22 ze_5 fun s4 => ?_)
  refine l_cons rfl (p_convBytes sl_22 in_5 ?_)
  refine l_cons rfl (p_callr en_68 (of_a) ?_)
  refine l_cons rfl (p_callr en_67 (bytes_a) ?_)
  refine l_cons rfl (p_callr en_27 (build_leaf) ?_)
  refine l_cons rfl (p_move ?_)
  refine l_cons rfl (p_extract ?_)
  refine l_cons rfl (p_extract ?_)
  refine l_cons rfl (p_alloc ze_36 fun s1 => ?_)
  refine l_cons rfl (p_store ty_36 ?_)
  refine l_cons rfl (p_assign ?_)
  refine l_nil ?_
  refine k_seq_normal ?_
  refine w_seq ?_
  refine w_region ?_
  refine l_cons rfl (p_move ?_)
  refine l_cons rfl (p_cmpl true ?_)
  refine l_cons rfl (p_move ?_)
  refine g_y rfl rfl (p_loadp ty_36 ?_)
  refine g_y rfl rfl (p_callr en_30 (may_a) ?_)
  refine l_cons rfl (p_pickt rfl ?_)
  refine l_cons rfl (p_move ?_)
  refine g_y rfl rfl (p_loadp ty_36 ?_)
  refine g_y rfl rfl (p_buildSlice sl_22 ze_5 fun s19 => ?_)
  refine g_y rfl rfl (p_convBytes sl_22 in_5 ?_)
  refine g_y rfl rfl (p_callr en_31 (run_a) ?_)
  refine l_cons rfl (p_pickt rfl ?_)
  refine l_cons rfl (p_move ?_)
  refine g_y rfl rfl (p_loadp ty_36 ?_)
  refine g_y rfl rfl (p_callr en_31 (run_an) ?_)
  refine g_y rfl rfl (p_not ?_)
  refine l_cons rfl (p_pickt rfl ?_)
  refine l_cons rfl (p_move ?_)
  refine g_y rfl rfl (p_loadp ty_36 ?_)
  refine g_y rfl rfl (p_fap fa_36_1 ?_)
  refine g_y rfl rfl (p_loadp ty_3 ?_)
  refine g_y rfl rfl (p_buildList sl_48 ze_3 ?_)
  refine g_y rfl rfl (p_callr en_37 (close_a) ?_)
  first | refine g_y rfl rfl (p_lenl sl_48 ?_) | refine g_y rfl rfl (p_leno sl_48 ?_) | refine g_y rfl rfl (p_lenn sl_48 ?_)
  refine g_y rfl rfl (p_cmpl true ?_)
  refine l_cons rfl (p_pickt rfl ?_)
  refine l_cons rfl (p_assign ?_)
  refine l_nil ?_
  refine k_seq_normal ?_
  refine w_ret ?_
  exact ret1 rfl (by simp only [ev_tmp, ev_const, ev_func, ofConst_int, ofConst_bool, ofConst_str, ofConst_nil, upd_apply, Nat.reduceEqDiff, ↓reduceIte] <;> exact rfl) (by first | exact Sub.refl _ | exact sub1 _ _ | exact sub2 _ _ _ | exact sub3 _ _ _ _ | exact sub4 _ _ _ _ _ | exact sub5 _ _ _ _ _ _) ⟨rfl, rfl⟩
end Go.Proofs.YtfdgbghlanbddaaDoor.Av
set_option linter.unusedVariables false
set_option linter.unusedSimpArgs false
namespace Go.Proofs.YtfdgbghlanbddaaDoor.Av
open Go.RowKit
/-- The library's table, as it is laid. -/
def Tab (w : World) : Prop := 0 < w.heap.size ∧ ∀ i, i < 64 → w.cell? ⟨0, i, none⟩ = some (.int .u8 (Lib.deBruijn64tab.getD i 0 : Nat))
section
variable {P : Program} {w0 : World} {N : Nat} {f : Frame} {es : List Ent} {K : Frame → List Ent → Prop}
variable {d : Nat} {ty : TypeId} {pos : String} {aft : Array Edge} {g : Option (Nat × Bool)} {x y z : Operand} {a : AV}
theorem Tab.now {c : Core} (h : Tab w0) (ok : Ok w0 c es) {i : Nat} (hi : i < 64) : c.w.cell? ⟨0, i, none⟩ = some (.int .u8 (Lib.deBruijn64tab.getD i 0 : Nat)) := by
  rw [← h.2 i hi]
  unfold World.cell?
  simp only [ok.below.block 0 h.1]
theorem p_ixg {t : TypeId} {n e gl : Nat} {k' : IntKind} {ix : Int} (ht : arrB P t n e 1 = true) (k : K (upd f d (.raw (.pointer (some ⟨gl, ix.toNat, none⟩)))) es) (hx : ev f x = .raw (.pointer (some ⟨gl, 0, none⟩)) := by exact rfl) (hy : ev f y = .int k' ix := by simp only [ev_tmp, ev_const, ev_func, ofConst_int, ofConst_bool, ofConst_str, ofConst_nil, upd_apply, Nat.reduceEqDiff, ↓reduceIte] <;> exact rfl) (h0 : 0 ≤ ix := by omega) (h1 : ix < n := by omega) (hd : Nat.blt d N = true := by exact rfl) : AOp P w0 N ⟨some d, .indexAddr t x y, ty, pos, aft, g⟩ f es K := by
  refine op_look hd (fun c A ok rf => ⟨.pointer (some ⟨gl, ix.toNat, none⟩), ?_, by simp only [Rep]⟩) k
  have h := rep_ev rf x
  rw [hx] at h
  simp only [Rep] at h
  have hiy := ev_int rf hy
  unfold arrB at ht
  split at ht
  · rename_i n' e' i' hu hi
    simp only [Bool.and_eq_true, beq_iff_eq] at ht
    obtain ⟨⟨rfl, rfl⟩, hz⟩ := ht
    simp only [execOp, h, hiy, Instr.indexAt, asIntOf, Sem.run_bind, Sem.run_pure, Result.andThen_ok, run_underlying hu, Instr.sureAddr, Sem.run_ite, h0, h1, and_self, if_true, sizeOf, typeInfo, run_program, hi, hz, Nat.mul_one, add_eq, Nat.zero_add]
  · cases ht
theorem p_neg {t : TypeId} {k' : IntKind} {m r : Int} (k : K (upd f d (.int k' r)) es) (hx : ev f x = .int k' m := by simp only [ev_tmp, ev_const, ev_func, ofConst_int, ofConst_bool, ofConst_str, ofConst_nil, upd_apply, Nat.reduceEqDiff, ↓reduceIte] <;> exact rfl) (hb : k'.wrap (0 - m) = r := by exact rfl) (hd : Nat.blt d N = true := by exact rfl) : AOp P w0 N ⟨some d, .unOp .neg t x, ty, pos, aft, g⟩ f es K := o_neg hx hb k hd
theorem p_ldg {t : TypeId} {i : Nat} (hT : Tab w0) (hi : i < 64) (ht : tyB P t false 1 = true) (k : K (upd f d (.int .u8 (Lib.deBruijn64tab.getD i 0 : Nat))) es) (hx : ev f x = .raw (.pointer (some ⟨0, i, none⟩)) := by simp only [ev_tmp, ev_const, ev_func, ofConst_int, ofConst_bool, ofConst_str, ofConst_nil, upd_apply, Nat.reduceEqDiff, ↓reduceIte] <;> exact rfl) (hd : Nat.blt d N = true := by exact rfl) : AOp P w0 N ⟨some d, .load t x, ty, pos, aft, g⟩ f es K := by
  refine op_look hd (fun c A ok rf => ⟨.int .u8 (Lib.deBruijn64tab.getD i 0 : Nat), ?_, by simp only [Rep]⟩) k
  have h := rep_ev rf x
  rw [hx] at h
  simp only [Rep] at h
  have hc := hT.now ok hi
  have hrun := run_loadVar (P := P) ht (fun _ => rfl) (w := c.w) (b := 0) (k := i) (vs := [.int .u8 (Lib.deBruijn64tab.getD i 0 : Nat)]) rfl (fun j u hj => by
    cases j with
    | zero => simp at hj; subst hj; exact hc
    | succ j => simp at hj)
  simp only [Bool.false_eq_true, if_false, List.getD_cons_zero] at hrun
  simp only [execOp, h, Instr.loadAt, Instr.sureAddr, Sem.run_bind, asAddr, Sem.run_pure, Result.andThen_ok, hrun]
end
/-! ### bits -/
theorem wrap_u64_id {n : Int} (h0 : 0 ≤ n) (h1 : n < 18446744073709551616) : IntKind.u64.wrap n = n := by
  rw [IntKind.wrap_u64]
  exact Int.emod_eq_of_lt h0 h1
theorem arith_and64 {a b : Int} (ha : 0 ≤ a ∧ a < 18446744073709551616) (hb : 0 ≤ b ∧ b < 18446744073709551616) : arithI .and .u64 a b = some ((a.toNat &&& b.toNat : Nat) : Int) := by
  obtain ⟨m, rfl⟩ := Int.eq_ofNat_of_zero_le ha.1
  obtain ⟨n, rfl⟩ := Int.eq_ofNat_of_zero_le hb.1
  have := bits_and_u64_nat m n (by omega) (by omega)
  simp only [arithI, Int.toNat_natCast]
  exact congrArg some this
theorem arith_or64 {a b : Int} (ha : 0 ≤ a ∧ a < 18446744073709551616) (hb : 0 ≤ b ∧ b < 18446744073709551616) : arithI .or .u64 a b = some (orI a b) := by
  obtain ⟨m, rfl⟩ := Int.eq_ofNat_of_zero_le ha.1
  obtain ⟨n, rfl⟩ := Int.eq_ofNat_of_zero_le hb.1
  have := bits_or_u64_nat m n (by omega) (by omega)
  simp only [arithI, orI, Int.toNat_natCast]
  exact congrArg some this
def xorI (x y : Int) : Int := ((x.toNat ^^^ y.toNat : Nat) : Int)
theorem arith_xor64 {a b : Int} (ha : 0 ≤ a ∧ a < 18446744073709551616) (hb : 0 ≤ b ∧ b < 18446744073709551616) : arithI .xor .u64 a b = some (xorI a b) := by
  obtain ⟨m, rfl⟩ := Int.eq_ofNat_of_zero_le ha.1
  obtain ⟨n, rfl⟩ := Int.eq_ofNat_of_zero_le hb.1
  simp only [arithI, xorI, Int.toNat_natCast]
  have hx : m ^^^ n < 2 ^ 64 := Nat.xor_lt_two_pow (by omega) (by omega)
  have h1 : (BitVec.ofInt 64 (m : Int)).toNat = m := by
    rw [BitVec.ofInt_natCast, BitVec.toNat_ofNat]; exact Nat.mod_eq_of_lt (by omega)
  have h2 : (BitVec.ofInt 64 (n : Int)).toNat = n := by
    rw [BitVec.ofInt_natCast, BitVec.toNat_ofNat]; exact Nat.mod_eq_of_lt (by omega)
  show some (IntKind.u64.wrap ((BitVec.ofInt 64 (m : Int) ^^^ BitVec.ofInt 64 (n : Int)).toNat : Int)) = _
  rw [BitVec.toNat_xor, h1, h2, wrap_u64_id (by omega) (by omega)]
theorem xor_range {a b : Int} (ha : 0 ≤ a ∧ a < 18446744073709551616) (hb : 0 ≤ b ∧ b < 18446744073709551616) : 0 ≤ xorI a b ∧ xorI a b < 18446744073709551616 := by
  unfold xorI
  have : a.toNat ^^^ b.toNat < 2 ^ 64 := Nat.xor_lt_two_pow (by omega) (by omega)
  omega
theorem xor_zero {a b : Int} (ha : 0 ≤ a) (hb : 0 ≤ b) : xorI a b = 0 ↔ a = b := by
  unfold xorI
  constructor
  · intro h
    have h1 : a.toNat ^^^ b.toNat = 0 := by omega
    have : a.toNat = b.toNat := by
      refine Nat.eq_of_testBit_eq fun i => ?_
      have := congrArg (·.testBit i) h1
      simp only [Nat.testBit_xor, Nat.zero_testBit] at this
      cases h1 : a.toNat.testBit i <;> cases h2 : b.toNat.testBit i <;> simp_all
    omega
  · rintro rfl
    simp
/-- The lowest bit of a number other than 0. -/
def tz (x : Int) : Nat := Lib.ctz 64 x.toNat
theorem ctz_spec {x : Nat} (h0 : x ≠ 0) (h : x < 2 ^ 64) : Lib.ctz 64 x < 64 ∧ x.testBit (Lib.ctz 64 x) = true ∧ ∀ j, j < Lib.ctz 64 x → x.testBit j = false := by
  obtain ⟨m, hm, hk⟩ := Lib.ctzFrom_spec 64 x (by omega) h
  have e : Lib.ctz 64 x = Lib.ctzFrom 64 x := by simp [Lib.ctz, h0]
  rw [e]
  generalize Lib.ctzFrom 64 x = t at hm hk
  subst hm
  refine ⟨hk, ?_, fun j hj => ?_⟩
  · rw [Nat.mul_comm, Nat.testBit_mul_two_pow]
    simp [Nat.testBit_zero]
  · rw [Nat.mul_comm, Nat.testBit_mul_two_pow]
    simp
    omega
theorem tz_spec {x : Int} (h0 : x ≠ 0) (h : 0 ≤ x ∧ x < 18446744073709551616) : tz x < 64 ∧ x.toNat.testBit (tz x) = true ∧ ∀ j, j < tz x → x.toNat.testBit j = false :=
  ctz_spec (by omega) (by have : (2:Nat)^64 = 18446744073709551616 := by decide
                          omega)
/-- The first bit in which two numbers differ. -/
theorem tz_xor {a b : Int} (ha : 0 ≤ a ∧ a < 18446744073709551616) (hb : 0 ≤ b ∧ b < 18446744073709551616) (hne : a ≠ b) :
    tz (xorI a b) < 64 ∧ a.toNat.testBit (tz (xorI a b)) ≠ b.toNat.testBit (tz (xorI a b)) ∧ ∀ j, j < tz (xorI a b) → a.toNat.testBit j = b.toNat.testBit j := by
  obtain ⟨h1, h2, h3⟩ := tz_spec (x := xorI a b) (fun e => hne ((xor_zero ha.1 hb.1).1 e)) (xor_range ha hb)
  refine ⟨h1, ?_, fun j hj => ?_⟩
  · have : (xorI a b).toNat = a.toNat ^^^ b.toNat := by simp [xorI]
    rw [this, Nat.testBit_xor] at h2
    intro e
    rw [e] at h2
    simp at h2
  · have := h3 j hj
    rw [show (xorI a b).toNat = a.toNat ^^^ b.toNat by simp [xorI], Nat.testBit_xor] at this
    cases h1 : a.toNat.testBit j <;> cases h2 : b.toNat.testBit j <;> simp_all
end Go.Proofs.YtfdgbghlanbddaaDoor.Av
set_option linter.unusedVariables false
set_option linter.unusedSimpArgs false
set_option maxRecDepth 8000
namespace Go.Proofs.YtfdgbghlanbddaaDoor.Av
open Go.RowKit Go.Proofs
theorem rxNodes {w0 : World} : ∀ (B : Nat) (r : Rx) (es : List Ent), r.nodes ≤ B → B ≤ 1048576 → ACalls Tryd.prog w0 108 [.agg r.cells] es fun v es' => v = .int .i64 r.nodes ∧ es' = es := by
  intro B
  induction B using Nat.strongRecOn with
  | _ B ih =>
  intro r es hB hB2
  obtain ⟨kd, st, args⟩ := r
  have hc : Rx.cells (.mk kd st args) = [.int .i64 kd, .int .u64 st.w0, .int .u64 st.w1, .int .u64 st.w2, .int .u64 st.w3, .list 6 (args.map Rx.cells)] := by simp only [Rx.cells, Rx.kind, Rx.set, Rx.args, Rx.rows_eq]
  rw [hc]
  simp only [Rx.nodes] at hB ⊢
  refine calls1 (N := 19) Tryd.func108 rfl rfl (by decide) ?_
  refine w_seq ?_
  refine w_region ?_
  refine l_cons rfl (p_box fun s1 => ?_)
  refine l_cons rfl (p_assign ?_)
  refine l_nil ?_
  refine k_seq_normal ?_
  refine w_seq ?_
  refine w_region ?_
  refine l_cons rfl (p_assign ?_)
  refine l_nil ?_
  refine k_seq_normal ?_
  refine w_seq ?_
  refine w_seq ?_
  refine w_region ?_
  refine l_cons rfl (p_fap fa_29_2 ?_)
  refine l_cons rfl (p_loadp ty_27 ?_)
  first | refine l_cons rfl (p_lenl sl_27 ?_) | refine l_cons rfl (p_leno sl_27 ?_) | refine l_cons rfl (p_lenn sl_27 ?_)
  refine l_cons rfl (p_move ?_)
  refine l_nil ?_
  refine k_seq_normal ?_
  refine w_block ?_
  refine w_loop (fun m f es' => ∃ k, m = args.length - k ∧ k ≤ args.length ∧ Sub (.row s1 29 6 [[.int .i64 kd, .int .u64 st.w0, .int .u64 st.w1, .int .u64 st.w2, .int .u64 st.w3, .list 6 (args.map Rx.cells)]] :: es) es' ∧ Knows f [(3, .int .i64 ((1 + Rx.nodesL (args.take k) : Nat) : Int)), (7, .list 6 (args.map Rx.cells)), (8, .int .i64 args.length), (9, .int .i64 k)]) (args.length) (⟨0, rfl, Nat.zero_le _, Sub.refl _, by simp only [Knows, put, upd_apply, Nat.reduceEqDiff, ↓reduceIte, and_true, true_and, eq_self] <;> first | exact rfl | exact ⟨rfl, rfl⟩ | exact ⟨rfl, rfl, rfl⟩ | exact ⟨rfl, rfl, rfl, rfl⟩ | exact ⟨rfl, rfl, rfl, rfl, rfl⟩ | exact ⟨rfl, rfl, rfl, rfl, rfl, rfl⟩⟩) ?_
  rintro m f es' ⟨k, rfl, hk1, hsub, hk⟩
  have hnl := Rx.nodesL_le args k
  have hal := Rx.len_le args
  refine w_pins _ hsub (hk) ?_
  simp only [pins]
  refine w_seq ?_
  refine w_region ?_
  refine l_cons rfl (p_cmp ?_)
  refine l_nil ?_
  refine k_seq_normal ?_
  refine w_seq ?_
  refine w_b (fun h1 => ?_) (fun h1 => ?_)
  · skip
    have h1' := h1; (try simp only [decide_eq_true_eq, decide_eq_false_iff_not, Bool.not_eq_true', Bool.not_false, Bool.not_true, Bool.not_eq_false'] at h1')
    refine w_skip ?_
    refine k_seq_normal ?_
    refine w_seq ?_
    refine w_block ?_
    refine w_seq ?_
    refine w_region ?_
    refine l_cons rfl (p_ixl sl_27 ?_)
    refine l_cons rfl (p_loadf ty_29 ?_)
    refine l_cons rfl (p_alloc ze_29 fun s5 => ?_)
    refine l_cons rfl (p_store ty_29 ?_)
    refine l_nil ?_
    refine k_seq_normal ?_
    have e := Rx.nodesL_take args k (by omega)
    have hnl2 := Rx.nodesL_le args (k + 1)
    refine w_region ?_
    refine l_cons rfl (p_move ?_)
    refine l_cons rfl (p_loadp ty_29 ?_)
    refine l_cons rfl (p_callr en_108 (ih (B - 1) (by omega) (args[k]'(by omega)) _ (by have := Rx.nodes_mem (l := args) (k := k) (by omega); omega) (by omega)) ?_)
    refine l_cons rfl (p_arith ?_)
    refine l_cons rfl (p_assign ?_)
    refine l_nil ?_
    refine k_blk_normal ?_
    refine k_seq_normal ?_
    refine w_region ?_
    refine l_cons rfl (p_arith ?_)
    refine l_cons rfl (p_move ?_)
    refine l_nil ?_
    refine k_seq_normal ?_
    refine ⟨args.length - (k + 1), by omega, k + 1, rfl, by omega, (by first | exact Sub.refl _ | exact sub1 _ _), ?_⟩
    simp only [Knows, put, upd_apply, Nat.reduceEqDiff, ↓reduceIte, and_true, true_and, eq_self, e]
    exact ⟨by congr 1; omega, rfl⟩
  · skip
    have h1' := h1; (try simp only [decide_eq_true_eq, decide_eq_false_iff_not, Bool.not_eq_true', Bool.not_false, Bool.not_true, Bool.not_eq_false'] at h1')
    refine w_exit ?_
    refine k_seq_exit ?_
    refine k_seq_exit ?_
    refine k_blk_here ?_
    refine k_seq_normal ?_
    refine w_seq ?_
    refine w_region ?_
    refine l_cons rfl (p_move ?_)
    refine l_cons rfl (p_assign ?_)
    refine l_nil ?_
    refine k_seq_normal ?_
    refine w_ret ?_
    exact ret1 rfl (by simp only [ev_tmp, ev_const, ev_func, ofConst_int, ofConst_bool, ofConst_str, ofConst_nil, upd_apply, Nat.reduceEqDiff, ↓reduceIte] <;> exact rfl) (by first | exact Sub.refl _ | exact sub1 _ _ | exact sub2 _ _ _ | exact sub3 _ _ _ _ | exact sub4 _ _ _ _ _ | exact sub5 _ _ _ _ _ _) ⟨by rw [List.take_of_length_le (by omega)], rfl⟩
theorem rxDepth {w0 : World} : ∀ (B : Nat) (r : Rx) (es : List Ent), r.nodes ≤ B → B ≤ 1048576 → ACalls Tryd.prog w0 109 [.agg r.cells] es fun v es' => v = .int .i64 r.depth ∧ es' = es := by
  intro B
  induction B using Nat.strongRecOn with
  | _ B ih =>
  intro r es hB hB2
  obtain ⟨kd, st, args⟩ := r
  have hc : Rx.cells (.mk kd st args) = [.int .i64 kd, .int .u64 st.w0, .int .u64 st.w1, .int .u64 st.w2, .int .u64 st.w3, .list 6 (args.map Rx.cells)] := by simp only [Rx.cells, Rx.kind, Rx.set, Rx.args, Rx.rows_eq]
  rw [hc]
  simp only [Rx.nodes, Rx.depth] at hB ⊢
  refine calls1 (N := 20) Tryd.func109 rfl rfl (by decide) ?_
  refine w_seq ?_
  refine w_region ?_
  refine l_cons rfl (p_box fun s1 => ?_)
  refine l_cons rfl (p_assign ?_)
  refine l_nil ?_
  refine k_seq_normal ?_
  refine w_seq ?_
  refine w_region ?_
  refine l_cons rfl (p_assign ?_)
  refine l_nil ?_
  refine k_seq_normal ?_
  refine w_seq ?_
  refine w_seq ?_
  refine w_region ?_
  refine l_cons rfl (p_fap fa_29_2 ?_)
  refine l_cons rfl (p_loadp ty_27 ?_)
  first | refine l_cons rfl (p_lenl sl_27 ?_) | refine l_cons rfl (p_leno sl_27 ?_) | refine l_cons rfl (p_lenn sl_27 ?_)
  refine l_cons rfl (p_move ?_)
  refine l_nil ?_
  refine k_seq_normal ?_
  refine w_block ?_
  refine w_loop (fun m f es' => ∃ k, m = args.length - k ∧ k ≤ args.length ∧ Sub (.row s1 29 6 [[.int .i64 kd, .int .u64 st.w0, .int .u64 st.w1, .int .u64 st.w2, .int .u64 st.w3, .list 6 (args.map Rx.cells)]] :: es) es' ∧ Knows f [(3, .int .i64 (Rx.depthL (args.take k) : Int)), (7, .list 6 (args.map Rx.cells)), (8, .int .i64 args.length), (9, .int .i64 k)]) (args.length) (⟨0, rfl, Nat.zero_le _, Sub.refl _, by simp only [Knows, put, upd_apply, Nat.reduceEqDiff, ↓reduceIte, and_true, true_and, eq_self] <;> first | exact rfl | exact ⟨rfl, rfl⟩ | exact ⟨rfl, rfl, rfl⟩ | exact ⟨rfl, rfl, rfl, rfl⟩ | exact ⟨rfl, rfl, rfl, rfl, rfl⟩ | exact ⟨rfl, rfl, rfl, rfl, rfl, rfl⟩⟩) ?_
  rintro m f es' ⟨k, rfl, hk1, hsub, hk⟩
  have hnl := Rx.nodesL_le args k
  have hal := Rx.len_le args
  refine w_pins _ hsub (hk) ?_
  simp only [pins]
  refine w_seq ?_
  refine w_region ?_
  refine l_cons rfl (p_cmp ?_)
  refine l_nil ?_
  refine k_seq_normal ?_
  refine w_seq ?_
  refine w_b (fun h1 => ?_) (fun h1 => ?_)
  · skip
    have h1' := h1; (try simp only [decide_eq_true_eq, decide_eq_false_iff_not, Bool.not_eq_true', Bool.not_false, Bool.not_true, Bool.not_eq_false'] at h1')
    refine w_skip ?_
    refine k_seq_normal ?_
    refine w_seq ?_
    refine w_block ?_
    refine w_seq ?_
    refine w_region ?_
    refine l_cons rfl (p_ixl sl_27 ?_)
    refine l_cons rfl (p_loadf ty_29 ?_)
    refine l_cons rfl (p_alloc ze_29 fun s5 => ?_)
    refine l_cons rfl (p_store ty_29 ?_)
    refine l_nil ?_
    refine k_seq_normal ?_
    have e := Rx.depthL_take args k (by omega)
    have hnl2 := Rx.depthL_takele args (k + 1)
    refine w_region ?_
    refine l_cons rfl (p_move ?_)
    refine l_cons rfl (p_loadp ty_29 ?_)
    refine l_cons rfl (p_callr en_109 (ih (B - 1) (by omega) (args[k]'(by omega)) _ (by have := Rx.nodes_mem (l := args) (k := k) (by omega); omega) (by omega)) ?_)
    refine l_cons rfl (p_max ?_)
    refine l_cons rfl (p_assign ?_)
    refine l_nil ?_
    refine k_blk_normal ?_
    refine k_seq_normal ?_
    refine w_region ?_
    refine l_cons rfl (p_arith ?_)
    refine l_cons rfl (p_move ?_)
    refine l_nil ?_
    refine k_seq_normal ?_
    refine ⟨args.length - (k + 1), by omega, k + 1, rfl, by omega, (by first | exact Sub.refl _ | exact sub1 _ _), ?_⟩
    simp only [Knows, put, upd_apply, Nat.reduceEqDiff, ↓reduceIte, and_true, true_and, eq_self, e]
    exact ⟨by congr 1; split <;> omega, rfl⟩
  · skip
    have h1' := h1; (try simp only [decide_eq_true_eq, decide_eq_false_iff_not, Bool.not_eq_true', Bool.not_false, Bool.not_true, Bool.not_eq_false'] at h1')
    refine w_exit ?_
    refine k_seq_exit ?_
    refine k_seq_exit ?_
    refine k_blk_here ?_
    refine k_seq_normal ?_
    refine w_seq ?_
    have hnl3 := Rx.depthL_takele args k
    refine w_region ?_
    refine l_cons rfl (p_move ?_)
    refine l_cons rfl (p_arith ?_)
    refine l_cons rfl (p_assign ?_)
    refine l_nil ?_
    refine k_seq_normal ?_
    refine w_ret ?_
    exact ret1 rfl (by simp only [ev_tmp, ev_const, ev_func, ofConst_int, ofConst_bool, ofConst_str, ofConst_nil, upd_apply, Nat.reduceEqDiff, ↓reduceIte] <;> exact rfl) (by first | exact Sub.refl _ | exact sub1 _ _ | exact sub2 _ _ _ | exact sub3 _ _ _ _ | exact sub4 _ _ _ _ _ | exact sub5 _ _ _ _ _ _) ⟨by rw [List.take_of_length_le (by omega)]; rfl, rfl⟩
end Go.Proofs.YtfdgbghlanbddaaDoor.Av
set_option linter.unusedVariables false
set_option linter.unusedSimpArgs false
set_option maxRecDepth 8000
namespace Go.Proofs.YtfdgbghlanbddaaDoor.Av
open Go.RowKit Go.Proofs
theorem neg_u64 {x : Int} (h0 : x ≠ 0) (hx : 0 ≤ x ∧ x < 18446744073709551616) : IntKind.u64.wrap (0 - x) = 18446744073709551616 - x := by
  rw [IntKind.wrap_u64]
  omega
theorem tz_key {x : Int} (h0 : x ≠ 0) (hx : 0 ≤ x ∧ x < 18446744073709551616) :
    (IntKind.u64.wrap (((x.toNat &&& (18446744073709551616 - x).toNat : Nat) : Int) * 285870213051353865)).fdiv (2 ^ (min (58 : Int).toNat IntKind.u64.bits)) = ((2 ^ tz x * 285870213051353865 % 18446744073709551616 / 288230376151711744 : Nat) : Int) := by
  have e : (18446744073709551616 - x).toNat = 2 ^ 64 - x.toNat := by omega
  have h := (Lib.lowest_bit 64 x.toNat (by omega) (by omega)).1
  rw [e, h, IntKind.wrap_u64]
  have e2 : ((2 : Int) ^ (min (58 : Int).toNat IntKind.u64.bits)) = 288230376151711744 := by decide
  rw [e2, Int.fdiv_eq_ediv_of_nonneg _ (by omega)]
  unfold tz
  omega
theorem tz_steps {x : Int} (h0 : x ≠ 0) (hx : 0 ≤ x ∧ x < 18446744073709551616) : ∃ (nx a4 m5 : Int) (q : Nat), IntKind.u64.wrap (0 - x) = nx ∧ arithI .and .u64 x nx = some a4 ∧ arithI .mul .u64 a4 285870213051353865 = some m5 ∧
    m5.fdiv (2 ^ (min (58 : Int).toNat IntKind.u64.bits)) = (q : Int) ∧ q < 64 ∧ IntKind.i64.wrap ((Lib.deBruijn64tab.getD q 0 : Nat) : Int) = tz x := by
  obtain ⟨hd1, hd2⟩ := Lib.deBruijn64_at _ (tz_spec h0 hx).1
  refine ⟨_, _, _, _, neg_u64 h0 hx, arith_and64 hx (by omega), rfl, tz_key h0 hx, hd1, ?_⟩
  rw [hd2]
  have := (tz_spec h0 hx).1
  exact wrap_i64 (by omega) (by omega)
theorem wd_load (s : W4) {k : Nat} (hk : k < 4) : loadAV false 1 [.int .u64 s.w0, .int .u64 s.w1, .int .u64 s.w2, .int .u64 s.w3] k = .int .u64 (s.wd k) := by
  rcases k with _ | _ | _ | _ | k
  · rfl
  · rfl
  · rfl
  · rfl
  · omega
theorem less_word {a b : W4} (ha : a.ok) (hb : b.ok) {k : Nat} (hk : k < 4) (h : ∀ j, j < k → a.wd j = b.wd j) (hd : a.wd k ≠ b.wd k) : a.less b = decide ((a.wd k).fdiv (2 ^ min ((tz (xorI (a.wd k) (b.wd k)) : Nat) : Int).toNat IntKind.u64.bits) % 2 = 1) := by
  obtain ⟨h1, h2, h3⟩ := tz_xor (W4.wd_ok ha k) (W4.wd_ok hb k) hd
  rw [show min ((tz (xorI (a.wd k) (b.wd k)) : Nat) : Int).toNat IntKind.u64.bits = tz (xorI (a.wd k) (b.wd k)) by rw [show IntKind.u64.bits = 64 from rfl, Int.toNat_natCast]; omega, bit_int (W4.wd_ok ha k).1]
  have e1 : (64 * k + tz (xorI (a.wd k) (b.wd k))) / 64 = k := by omega
  have e2 : (64 * k + tz (xorI (a.wd k) (b.wd k))) % 64 = tz (xorI (a.wd k) (b.wd k)) := by omega
  rw [W4.less_at (k := 64 * k + tz (xorI (a.wd k) (b.wd k))) (by omega) (fun j hj => ?_) (by rw [W4.has_eq ha (by omega), W4.has_eq hb (by omega), e1, e2]; exact h2), W4.has_eq ha (by omega), e1, e2]
  rw [W4.has_eq ha (by omega), W4.has_eq hb (by omega)]
  by_cases hjk : j / 64 < k
  · rw [h _ hjk]
  · have : j / 64 = k := by omega
    rw [this]
    exact h3 _ (by omega)
theorem less_words {a b : W4} (ha : a.ok) (hb : b.ok) (h : ∀ j, j < 4 → a.wd j = b.wd j) : a.less b = false :=
  W4.less_no fun j hj => by rw [W4.has_eq ha hj, W4.has_eq hb hj, h _ (by omega)]
theorem isNaN_walk {w0 : World} {es : List Ent} (x : Int) : ACalls Tryd.prog w0 170 [.int .i64 x] es fun v es' => v = .bool false ∧ es' = es := by
  refine calls1 (N := 6) Tryd.func170 rfl rfl (by decide) ?_
  refine w_seq ?_
  refine w_region ?_
  refine l_cons rfl (p_assign ?_)
  refine l_nil ?_
  refine k_seq_normal ?_
  refine w_seq ?_
  refine w_region ?_
  refine l_cons rfl (p_move ?_)
  refine l_cons rfl (p_move ?_)
  refine l_cons rfl (p_cmp ?_)
  refine l_cons rfl (p_assign ?_)
  refine l_nil ?_
  refine k_seq_normal ?_
  refine w_ret ?_
  exact ret1 rfl (by simp only [ev_tmp, ev_const, ev_func, ofConst_int, ofConst_bool, ofConst_str, ofConst_nil, upd_apply, Nat.reduceEqDiff, ↓reduceIte] <;> exact rfl) (by first | exact Sub.refl _ | exact sub1 _ _ | exact sub2 _ _ _ | exact sub3 _ _ _ _ | exact sub4 _ _ _ _ _ | exact sub5 _ _ _ _ _ _) ⟨by simp, rfl⟩
theorem cmpInt_walk {w0 : World} {es : List Ent} (x y : Int) : ACalls Tryd.prog w0 153 [.int .i64 x, .int .i64 y] es fun v es' => v = .int .i64 (if x < y then -1 else if y < x then 1 else 0) ∧ es' = es := by
  refine calls2 (N := 20) Tryd.func153 rfl rfl (by decide) ?_
  refine w_seq ?_
  refine w_region ?_
  refine l_cons rfl (p_assign ?_)
  refine l_nil ?_
  refine k_seq_normal ?_
  refine w_seq ?_
  refine w_region ?_
  refine l_cons rfl (p_move ?_)
  refine l_cons rfl (p_callr en_170 (isNaN_walk _) ?_)
  refine l_cons rfl (p_assign ?_)
  refine l_nil ?_
  refine k_seq_normal ?_
  refine w_seq ?_
  refine w_region ?_
  refine l_cons rfl (p_move ?_)
  refine l_cons rfl (p_callr en_170 (isNaN_walk _) ?_)
  refine l_cons rfl (p_assign ?_)
  refine l_nil ?_
  refine k_seq_normal ?_
  refine w_seq ?_
  refine w_seq ?_
  refine w_region ?_
  refine l_cons rfl (p_move ?_)
  refine l_nil ?_
  refine k_seq_normal ?_
  refine w_f rfl ?_
  refine w_skip ?_
  refine k_seq_normal ?_
  refine w_seq ?_
  refine w_seq ?_
  refine w_region ?_
  refine l_cons rfl (p_move ?_)
  refine l_nil ?_
  refine k_seq_normal ?_
  refine w_f rfl ?_
  refine w_skip ?_
  refine k_seq_normal ?_
  refine w_seq ?_
  refine w_seq ?_
  refine w_region ?_
  refine l_cons rfl (p_move ?_)
  refine l_cons rfl (p_move ?_)
  refine l_cons rfl (p_cmp ?_)
  refine l_nil ?_
  refine k_seq_normal ?_
  refine w_b (fun h1 => ?_) (fun h1 => ?_)
  · skip
    have h1' := h1; (try simp only [decide_eq_true_eq, decide_eq_false_iff_not, Bool.not_eq_true', Bool.not_false, Bool.not_true, Bool.not_eq_false'] at h1')
    refine w_seq ?_
    refine w_region ?_
    refine l_cons rfl (p_assign ?_)
    refine l_nil ?_
    refine k_seq_normal ?_
    refine w_ret ?_
    refine k_seq_ret ?_
    exact ret1 rfl (by simp only [ev_tmp, ev_const, ev_func, ofConst_int, ofConst_bool, ofConst_str, ofConst_nil, upd_apply, Nat.reduceEqDiff, ↓reduceIte] <;> exact rfl) (by first | exact Sub.refl _ | exact sub1 _ _ | exact sub2 _ _ _ | exact sub3 _ _ _ _ | exact sub4 _ _ _ _ _ | exact sub5 _ _ _ _ _ _) ⟨by rw [if_pos (by omega)], rfl⟩
  · skip
    have h1' := h1; (try simp only [decide_eq_true_eq, decide_eq_false_iff_not, Bool.not_eq_true', Bool.not_false, Bool.not_true, Bool.not_eq_false'] at h1')
    refine w_skip ?_
    refine k_seq_normal ?_
    refine w_seq ?_
    refine w_seq ?_
    refine w_region ?_
    refine l_cons rfl (p_move ?_)
    refine l_cons rfl (p_move ?_)
    refine l_cons rfl (p_cmp ?_)
    refine l_nil ?_
    refine k_seq_normal ?_
    refine w_b (fun h2 => ?_) (fun h2 => ?_)
    · skip
      have h2' := h2; (try simp only [decide_eq_true_eq, decide_eq_false_iff_not, Bool.not_eq_true', Bool.not_false, Bool.not_true, Bool.not_eq_false'] at h2')
      refine w_seq ?_
      refine w_region ?_
      refine l_cons rfl (p_assign ?_)
      refine l_nil ?_
      refine k_seq_normal ?_
      refine w_ret ?_
      refine k_seq_ret ?_
      exact ret1 rfl (by simp only [ev_tmp, ev_const, ev_func, ofConst_int, ofConst_bool, ofConst_str, ofConst_nil, upd_apply, Nat.reduceEqDiff, ↓reduceIte] <;> exact rfl) (by first | exact Sub.refl _ | exact sub1 _ _ | exact sub2 _ _ _ | exact sub3 _ _ _ _ | exact sub4 _ _ _ _ _ | exact sub5 _ _ _ _ _ _) ⟨by rw [if_neg (by omega), if_pos (by omega)], rfl⟩
    · skip
      have h2' := h2; (try simp only [decide_eq_true_eq, decide_eq_false_iff_not, Bool.not_eq_true', Bool.not_false, Bool.not_true, Bool.not_eq_false'] at h2')
      refine w_skip ?_
      refine k_seq_normal ?_
      refine w_seq ?_
      refine w_region ?_
      refine l_cons rfl (p_assign ?_)
      refine l_nil ?_
      refine k_seq_normal ?_
      refine w_ret ?_
      exact ret1 rfl (by simp only [ev_tmp, ev_const, ev_func, ofConst_int, ofConst_bool, ofConst_str, ofConst_nil, upd_apply, Nat.reduceEqDiff, ↓reduceIte] <;> exact rfl) (by first | exact Sub.refl _ | exact sub1 _ _ | exact sub2 _ _ _ | exact sub3 _ _ _ _ | exact sub4 _ _ _ _ _ | exact sub5 _ _ _ _ _ _) ⟨by rw [if_neg (by omega), if_neg (by omega)], rfl⟩
theorem tz64_walk {w0 : World} (hT : Tab w0) {es : List Ent} (x : Int) (h0 : x ≠ 0) (hx : 0 ≤ x ∧ x < 18446744073709551616) : ACalls Tryd.prog w0 171 [.int .u64 x] es fun v es' => v = .int .i64 (tz x) ∧ es' = es := by
  obtain ⟨nx, a4, m5, q, hneg, hand, hmul, hkey, hq, htz⟩ := tz_steps h0 hx
  refine calls1 (N := 14) Tryd.func171 rfl rfl (by decide) ?_
  refine w_seq ?_
  refine w_region ?_
  refine l_cons rfl (p_assign ?_)
  refine l_nil ?_
  refine k_seq_normal ?_
  refine w_seq ?_
  refine w_seq ?_
  refine w_region ?_
  refine l_cons rfl (p_move ?_)
  refine l_cons rfl (p_cmp ?_)
  refine l_nil ?_
  refine k_seq_normal ?_
  refine w_b (fun h1 => ?_) (fun h1 => ?_)
  · skip
    have h1' := h1; (try simp only [decide_eq_true_eq, decide_eq_false_iff_not, Bool.not_eq_true', Bool.not_false, Bool.not_true, Bool.not_eq_false'] at h1')
    refine w_seq ?_
    refine w_region ?_
    refine l_cons rfl (p_assign ?_)
    refine l_nil ?_
    refine k_seq_normal ?_
    refine w_ret ?_
    refine k_seq_ret ?_
    exact absurd h1' h0
  · skip
    have h1' := h1; (try simp only [decide_eq_true_eq, decide_eq_false_iff_not, Bool.not_eq_true', Bool.not_false, Bool.not_true, Bool.not_eq_false'] at h1')
    refine w_skip ?_
    refine k_seq_normal ?_
    refine w_seq ?_
    refine w_region ?_
    refine l_cons rfl (p_move ?_)
    refine l_cons rfl (p_move ?_)
    refine l_cons rfl (p_neg ?_ (hb := hneg))
    refine l_cons rfl (p_arith ?_ (hb := hand))
    refine l_cons rfl (p_arith ?_ (hb := hmul))
    refine l_cons rfl (p_shr ?_ (hb := hkey))
    refine l_cons rfl (p_ixg ar_171 ?_ (h0 := by omega) (h1 := by omega))
    refine l_cons rfl (p_ldg hT (i := q) hq ty_5 ?_)
    refine l_cons rfl (p_conv in_5 in_3 ?_)
    refine l_cons rfl (p_assign ?_)
    refine l_nil ?_
    refine k_seq_normal ?_
    refine w_ret ?_
    exact ret1 rfl (by simp only [ev_tmp, ev_const, ev_func, ofConst_int, ofConst_bool, ofConst_str, ofConst_nil, upd_apply, Nat.reduceEqDiff, ↓reduceIte] <;> exact rfl) (by first | exact Sub.refl _ | exact sub1 _ _ | exact sub2 _ _ _ | exact sub3 _ _ _ _ | exact sub4 _ _ _ _ _ | exact sub5 _ _ _ _ _ _) ⟨by rw [htz], rfl⟩
theorem setLess_walk {w0 : World} (hT : Tab w0) {es : List Ent} (a b : W4) (ha : a.ok) (hb : b.ok) : ACalls Tryd.prog w0 154 [.agg a.row, .agg b.row] es fun v es' => v = .bool (a.less b) ∧ es' = es := by
  unfold W4.row
  refine calls2 (N := 28) Tryd.func154 rfl rfl (by decide) ?_
  refine w_seq ?_
  refine w_region ?_
  refine l_cons rfl (p_box fun s2 => ?_)
  refine l_cons rfl (p_box fun s3 => ?_)
  refine l_cons rfl (p_assign ?_)
  refine l_nil ?_
  refine k_seq_normal ?_
  refine w_seq ?_
  refine w_seq ?_
  refine w_region ?_
  refine l_cons rfl (p_move ?_)
  refine l_nil ?_
  refine k_seq_normal ?_
  refine w_block ?_
  refine w_loop (fun m f es' => ∃ k, m = 4 - k ∧ k ≤ 4 ∧ (∀ j, j < k → a.wd j = b.wd j) ∧ es' = .row s3 26 4 [[.int .u64 b.w0, .int .u64 b.w1, .int .u64 b.w2, .int .u64 b.w3]] :: .row s2 26 4 [[.int .u64 a.w0, .int .u64 a.w1, .int .u64 a.w2, .int .u64 a.w3]] :: es ∧ Knows f [(2, .ptr es.length s2 0 0), (3, .ptr (es.length + 1) s3 0 0), (7, .int .i64 k)]) (4) (⟨0, rfl, Nat.zero_le _, fun j hj => absurd hj (Nat.not_lt_zero _), rfl, by simp only [Knows, put, upd_apply, Nat.reduceEqDiff, ↓reduceIte, and_true, true_and, eq_self] <;> first | exact rfl | exact ⟨rfl, rfl⟩ | exact ⟨rfl, rfl, rfl⟩ | exact ⟨rfl, rfl, rfl, rfl⟩ | exact ⟨rfl, rfl, rfl, rfl, rfl⟩ | exact ⟨rfl, rfl, rfl, rfl, rfl, rfl⟩⟩) ?_
  rintro m f es' ⟨k, rfl, hk1, hk2, rfl, hk⟩
  refine w_pins _ (Sub.refl _) (hk) ?_
  simp only [pins]
  refine w_seq ?_
  refine w_region ?_
  refine l_cons rfl (p_cmp ?_)
  refine l_nil ?_
  refine k_seq_normal ?_
  refine w_seq ?_
  refine w_b (fun h1 => ?_) (fun h1 => ?_)
  · skip
    have h1' := h1; (try simp only [decide_eq_true_eq, decide_eq_false_iff_not, Bool.not_eq_true', Bool.not_false, Bool.not_true, Bool.not_eq_false'] at h1')
    refine w_skip ?_
    refine k_seq_normal ?_
    refine w_seq ?_
    refine w_block ?_
    refine w_seq ?_
    refine w_region ?_
    refine l_cons rfl (p_move ?_)
    refine l_cons rfl (p_assign ?_)
    refine l_nil ?_
    refine k_seq_normal ?_
    refine w_seq ?_
    refine w_drawn 6 [] (fun e => e = _) mixed (by kernel_rfl) rfl ?_
    refine q1 5 (hg := rfl) (hu := rfl) (h := by rintro f _ rfl; exact p_move ⟨rfl, rfl⟩) (k := ?_)
    refine q2 2 10 (hg := rfl) (hu := rfl) (h := by rintro f _ rfl; exact p_ixa ar_26 (a := .ptr es.length s2 0 k) ⟨rfl, rfl⟩ (h0 := by omega) (h1 := by omega) (ho := by simp)) (k := ?_)
    refine q1 11 (hg := rfl) (hu := rfl) (h := by rintro f _ rfl; exact p_loadp ty_24 (a := .int .u64 (a.wd k)) ⟨rfl, rfl⟩ (hl := by simp only [List.length_cons, List.length_nil]; omega) (ha := wd_load a (by omega))) (k := ?_)
    refine q1 5 (hg := rfl) (hu := rfl) (h := by rintro f _ rfl; exact p_move ⟨rfl, rfl⟩) (k := ?_)
    refine q2 3 13 (hg := rfl) (hu := rfl) (h := by rintro f _ rfl; exact p_ixa ar_26 (a := .ptr (es.length + 1) s3 0 k) ⟨rfl, rfl⟩ (h0 := by omega) (h1 := by omega) (ho := by simp)) (k := ?_)
    refine q1 14 (hg := rfl) (hu := rfl) (h := by rintro f _ rfl; exact p_loadp ty_24 (a := .int .u64 (b.wd k)) ⟨rfl, rfl⟩ (hl := by simp only [List.length_cons, List.length_nil]; omega) (ha := wd_load b (by omega))) (k := ?_)
    refine q_end ?_
    refine m_end ?_
    refine l_cons rfl (p_arith ?_ (hb := arith_xor64 (W4.wd_ok ha k) (W4.wd_ok hb k)))
    refine l_cons rfl (p_assign ?_)
    refine l_nil ?_
    refine k_seq_normal ?_
    refine w_seq ?_
    refine w_region ?_
    refine l_cons rfl (p_move ?_)
    refine l_cons rfl (p_cmp ?_)
    refine l_nil ?_
    refine k_seq_normal ?_
    refine w_b (fun h2 => ?_) (fun h2 => ?_)
    · skip
      have h2' := h2; (try simp only [decide_eq_true_eq, decide_eq_false_iff_not, Bool.not_eq_true', Bool.not_false, Bool.not_true, Bool.not_eq_false'] at h2')
      refine w_seq ?_
      refine w_drawn 5 [] (fun e => e = _) mixed (by kernel_rfl) rfl ?_
      refine q1 5 (hg := rfl) (hu := rfl) (h := by rintro f _ rfl; exact p_move ⟨rfl, rfl⟩) (k := ?_)
      refine q2 2 19 (hg := rfl) (hu := rfl) (h := by rintro f _ rfl; exact p_ixa ar_26 (a := .ptr es.length s2 0 k) ⟨rfl, rfl⟩ (h0 := by omega) (h1 := by omega) (ho := by simp)) (k := ?_)
      refine q1 20 (hg := rfl) (hu := rfl) (h := by rintro f _ rfl; exact p_loadp ty_24 (a := .int .u64 (a.wd k)) ⟨rfl, rfl⟩ (hl := by simp only [List.length_cons, List.length_nil]; omega) (ha := wd_load a (by omega))) (k := ?_)
      refine q1 6 (hg := rfl) (hu := rfl) (h := by rintro f _ rfl; exact p_move ⟨rfl, rfl⟩) (k := ?_)
      refine q1 22 (hg := rfl) (hu := rfl) (h := by rintro f _ rfl; exact p_callr en_171 (tz64_walk hT (xorI (a.wd k) (b.wd k)) (by assumption) (xor_range (W4.wd_ok ha k) (W4.wd_ok hb k))) ⟨rfl, rfl⟩) (k := ?_)
      refine q_end ?_
      refine m_end ?_
      refine l_cons rfl (p_shr ?_)
      refine l_cons rfl (p_arith ?_ (hb := and1 _))
      refine l_cons rfl (p_cmp ?_)
      refine l_cons rfl (p_assign ?_)
      refine l_nil ?_
      refine k_seq_normal ?_
      refine w_ret ?_
      refine k_blk_ret ?_
      refine k_seq_ret ?_
      refine k_seq_ret ?_
      refine k_blk_ret ?_
      refine k_seq_ret ?_
      exact ret1 rfl (by simp only [ev_tmp, ev_const, ev_func, ofConst_int, ofConst_bool, ofConst_str, ofConst_nil, upd_apply, Nat.reduceEqDiff, ↓reduceIte] <;> exact rfl) (by first | exact Sub.refl _ | exact sub1 _ _ | exact sub2 _ _ _ | exact sub3 _ _ _ _ | exact sub4 _ _ _ _ _ | exact sub5 _ _ _ _ _ _) ⟨by rw [less_word ha hb (by omega) hk2 (fun e => h2' ((xor_zero (W4.wd_ok ha k).1 (W4.wd_ok hb k).1).2 e))], rfl⟩
    · skip
      have h2' := h2; (try simp only [decide_eq_true_eq, decide_eq_false_iff_not, Bool.not_eq_true', Bool.not_false, Bool.not_true, Bool.not_eq_false'] at h2')
      refine w_skip ?_
      refine k_blk_normal ?_
      refine k_seq_normal ?_
      refine w_region ?_
      refine l_cons rfl (p_arith ?_)
      refine l_cons rfl (p_move ?_)
      refine l_nil ?_
      refine k_seq_normal ?_
      exact ⟨4 - (k + 1), by omega, k + 1, rfl, by omega, lt_succ_cases hk2 ((xor_zero (W4.wd_ok ha k).1 (W4.wd_ok hb k).1).1 (by simpa using h2')), rfl, by simp only [Knows, put, upd_apply, Nat.reduceEqDiff, ↓reduceIte, and_true, true_and, eq_self] <;> first | exact rfl | exact ⟨rfl, rfl⟩ | exact ⟨rfl, rfl, rfl⟩ | exact ⟨rfl, rfl, rfl, rfl⟩ | exact ⟨rfl, rfl, rfl, rfl, rfl⟩ | exact ⟨rfl, rfl, rfl, rfl, rfl, rfl⟩⟩
  · skip
    have h1' := h1; (try simp only [decide_eq_true_eq, decide_eq_false_iff_not, Bool.not_eq_true', Bool.not_false, Bool.not_true, Bool.not_eq_false'] at h1')
    refine w_exit ?_
    refine k_seq_exit ?_
    refine k_seq_exit ?_
    refine k_blk_here ?_
    refine k_seq_normal ?_
    refine w_seq ?_
    refine w_region ?_
    refine l_cons rfl (p_assign ?_)
    refine l_nil ?_
    refine k_seq_normal ?_
    refine w_ret ?_
    exact ret1 rfl (by simp only [ev_tmp, ev_const, ev_func, ofConst_int, ofConst_bool, ofConst_str, ofConst_nil, upd_apply, Nat.reduceEqDiff, ↓reduceIte] <;> exact rfl) (by first | exact Sub.refl _ | exact sub1 _ _ | exact sub2 _ _ _ | exact sub3 _ _ _ _ | exact sub4 _ _ _ _ _ | exact sub5 _ _ _ _ _ _) ⟨by rw [less_words ha hb (fun j hj => hk2 j (by omega))], rfl⟩
end Go.Proofs.YtfdgbghlanbddaaDoor.Av
