import Derived.Test.YtfdgbghlanbddaaDoorAvK0
import Derived.Test.YtfdgbghlanbddaaDoorAvK1
import Derived.Test.YtfdgbghlanbddaaDoorAvK2
set_option linter.unusedVariables false
set_option linter.unusedSimpArgs false
set_option maxRecDepth 8000
namespace Go.Proofs.YtfdgbghlanbddaaDoor.Av
open Go.RowKit Go.Proofs
theorem rxrow_at {l : List Rx} {k : Nat} (h : k < l.length) : (l.map Rx.cells)[k]? = some (l[k]).cells := by simp [h]
theorem notIn_not (ks : List Int) (l : List Rx) : (l.any fun r => ks.contains r.kind) = !(notIn ks l) := by
 unfold notIn
 induction l with
 | nil => rfl
 | cons a t ih => simp only [List.any_cons, List.all_cons, ih]; cases ks.contains a.kind <;> simp
theorem setsR_take (l : List Rx) (k : Nat) (hk : k < l.length) : setsR (l.take (k + 1)) = setsR (l.take k) + (if l[k].kind = 3 then 1 else 0) := by
 unfold setsR
 rw [List.take_add_one, List.getElem?_eq_getElem hk, List.countP_append]
 simp [List.countP_cons]
theorem setsR_le (l : List Rx) : setsR l ≤ l.length := List.countP_le_length
theorem chainR_yes : ∀ {l : List Rx}, (∀ j (h0 : 0 < j) (hj : j < l.length), l[j - 1].cmp l[j] = -1) → chainR l = true
 | [], _ => rfl
 | [a], _ => rfl
 | a :: b :: t, h => by
  simp only [chainR, Bool.and_eq_true, decide_eq_true_eq]
  refine ⟨h 1 (by omega) (by simp), chainR_yes fun j h0 hj => ?_⟩
  have := h (j + 1) (by omega) (by simpa using hj)
  rcases j with _ | j
  ·omega
  ·simpa using this
theorem chainR_no : ∀ {l : List Rx} {k : Nat} (h0 : 0 < k) (hk : k < l.length), l[k - 1].cmp l[k] ≠ -1 → chainR l = false
 | [], k, _, hk, _ => by simp at hk
 | [a], k, h0, hk, _ => by simp at hk; omega
 | a :: b :: t, k, h0, hk, h => by
  simp only [chainR]
  rcases k with _ | _ | k
  ·omega
  ·simp only [Nat.zero_add, Nat.sub_self, List.getElem_cons_zero, List.getElem_cons_succ] at h
   simp [h]
  ·have := chainR_no (l := b :: t) (k := k + 1) (by omega) (by simpa using hk) (by simpa using h)
   rw [this]; simp
theorem plainL_any (l : List Rx) : Rx.plainL l = !(l.any fun x => !x.plain) := by
 induction l with
 | nil => simp [Rx.plainL]
 | cons a t ih => simp only [Rx.plainL, List.any_cons, ih]; cases a.plain <;> simp
theorem plain_of (r : Rx) : r.plain = (right r.kind r.set r.args && !(r.args.any fun x => !x.plain)) := by
 cases r
 rw [Rx.plain, plainL_any]
 rfl
theorem nodes_mem_lt {r x : Rx} (h : x ∈ r.args) : x.nodes + 1 ≤ r.nodes := by
 obtain ⟨k, hk, rfl⟩ := List.mem_iff_getElem.1 h
 exact r.nodes_arg hk
theorem indexFuncR {w0 : World} {es : List Ent} {l : List Rx} {g : Nat} {l1 l2 : List AV} (p : Rx → Bool) (hg : enterB Tryd.prog g = true) (hp : ∀ x ∈ l, ACalls Tryd.prog w0 g (l1 ++ [.agg x.cells] ++ l2) es fun v es2 => v = .bool (p x) ∧ es2 = es) : ACalls Tryd.prog w0 157 [.list 6 (l.map Rx.cells), .fn (.func g) l1 l2] es fun v es' => v = .int .i64 (firstIdx p l) ∧ es' = es := by
 refine calls2 (N := 19) Tryd.func157 rfl rfl (by decide) ?_
 refine w_seq ?_
 refine w_region ?_
 refine l_cons rfl (p_assign ?_)
 refine l_nil ?_
 refine k_seq_normal ?_
 refine w_seq ?_
 refine w_seq ?_
 refine w_len 0 fun hl => ?_
 rw [List.length_map] at hl
 simp only [most] at hl
 refine w_region ?_
 refine l_cons rfl (p_move ?_)
 refine l_cons rfl (p_lenl sl_27 ?_)
 refine l_cons rfl (p_move ?_)
 refine l_nil ?_
 refine k_seq_normal ?_
 refine w_block ?_
 refine w_loop (fun n f es' => ∃ k, n = l.length - k ∧ k ≤ l.length ∧ (∀ j (hj : j < k) (hjl : j < l.length), p l[j] = false) ∧ es' = es ∧ Knows f [(0, .list 6 (l.map Rx.cells)), (1, .fn (.func g) l1 l2), (7, .int .i64 l.length), (8, .int .i64 k)]) (l.length) (⟨0, rfl, Nat.zero_le _, fun j hj => absurd hj (Nat.not_lt_zero _), rfl, by simp only [Knows, put, upd_apply, Nat.reduceEqDiff, ↓reduceIte, and_true, true_and, eq_self] <;> and_intros <;> rfl⟩) ?_
 rintro n f es' ⟨k, rfl, hk1, hk2, rfl, hk⟩
 refine w_pins _ (Sub.refl _) (hk) ?_
 simp only [pins]
 refine w_seq ?_
 refine w_region ?_
 refine l_cons rfl (p_cmp ?_)
 refine l_nil ?_
 refine k_seq_normal ?_
 refine w_seq ?_
 refine w_b (fun h1 => ?_) (fun h1 => ?_)
 ·skip
  have h1' := h1; (try simp only [decide_eq_true_eq, decide_eq_false_iff_not, Bool.not_eq_true', Bool.not_false, Bool.not_true, Bool.not_eq_false'] at h1')
  refine w_skip ?_
  refine k_seq_normal ?_
  refine w_seq ?_
  refine w_block ?_
  refine w_seq ?_
  refine w_region ?_
  refine l_cons rfl (p_move ?_)
  refine l_cons rfl (p_assign ?_)
  refine l_nil ?_
  refine k_seq_normal ?_
  refine w_seq ?_
  refine w_region ?_
  refine l_cons rfl (p_move ?_)
  refine l_cons rfl (p_move ?_)
  refine l_cons rfl (p_move ?_)
  refine l_cons rfl (p_ixl sl_27 ?_)
  refine l_cons rfl (p_loadf ty_29 ?_)
  refine l_cons rfl (p_callr hg (hp (l[k]'(by omega)) (List.getElem_mem _)) ?_)
  refine l_nil ?_
  refine k_seq_normal ?_
  refine w_b (fun h2 => ?_) (fun h2 => ?_)
  ·skip
   have h2' := h2; (try simp only [decide_eq_true_eq, decide_eq_false_iff_not, Bool.not_eq_true', Bool.not_false, Bool.not_true, Bool.not_eq_false'] at h2')
   refine w_seq ?_
   refine w_region ?_
   refine l_cons rfl (p_move ?_)
   refine l_cons rfl (p_assign ?_)
   refine l_nil ?_
   refine k_seq_normal ?_
   refine w_ret ?_
   refine k_blk_ret ?_
   refine k_seq_ret ?_
   refine k_seq_ret ?_
   refine k_blk_ret ?_
   refine k_seq_ret ?_
   refine ret1b rfl ?_ <;> exact ex2 subx ⟨by rw [firstIdx_at (l := l) (k := k) (by omega) (fun j hj => hk2 j hj (by omega)) (by assumption)], rfl⟩
  ·skip
   have h2' := h2; (try simp only [decide_eq_true_eq, decide_eq_false_iff_not, Bool.not_eq_true', Bool.not_false, Bool.not_true, Bool.not_eq_false'] at h2')
   refine w_skip ?_
   refine k_blk_normal ?_
   refine k_seq_normal ?_
   refine w_region ?_
   refine l_cons rfl (p_arith ?_)
   refine l_cons rfl (p_move ?_)
   refine l_nil ?_
   refine k_seq_normal ?_
   exact ⟨l.length - (k + 1), by omega, k + 1, rfl, by omega, fun j hj hjl => by
    rcases Nat.lt_or_eq_of_le (Nat.le_of_lt_succ hj) with h9 | h9
    ·exact hk2 j h9 hjl
    ·subst h9; assumption, rfl, by simp only [Knows, put, upd_apply, Nat.reduceEqDiff, ↓reduceIte, and_true, true_and, eq_self] <;> and_intros <;> rfl⟩
 ·skip
  have h1' := h1; (try simp only [decide_eq_true_eq, decide_eq_false_iff_not, Bool.not_eq_true', Bool.not_false, Bool.not_true, Bool.not_eq_false'] at h1')
  refine w_exit ?_
  refine k_seq_exit ?_
  refine k_seq_exit ?_
  refine k_blk_here ?_
  refine k_seq_normal ?_
  refine w_seq ?_
  refine w_region ?_
  refine l_cons rfl (p_assign ?_)
  refine l_nil ?_
  refine k_seq_normal ?_
  refine w_ret ?_
  refine ret1b rfl ?_ <;> exact ex2 subx ⟨by rw [firstIdx_no (l := l) (fun j hj => hk2 j (by omega) hj)], rfl⟩
theorem containsFuncR {w0 : World} {es : List Ent} {l : List Rx} {g : Nat} {l1 l2 : List AV} (p : Rx → Bool) (hg : enterB Tryd.prog g = true) (hp : ∀ x ∈ l, ACalls Tryd.prog w0 g (l1 ++ [.agg x.cells] ++ l2) es fun v es2 => v = .bool (p x) ∧ es2 = es) : ACalls Tryd.prog w0 140 [.list 6 (l.map Rx.cells), .fn (.func g) l1 l2] es fun v es' => v = .bool (l.any p) ∧ es' = es := by
 refine calls2 (N := 9) Tryd.func140 rfl rfl (by decide) ?_
 refine w_seq ?_
 refine w_region ?_
 refine l_cons rfl (p_assign ?_)
 refine l_nil ?_
 refine k_seq_normal ?_
 refine w_seq ?_
 refine w_region ?_
 refine l_cons rfl (p_move ?_)
 refine l_cons rfl (p_move ?_)
 refine l_cons rfl (p_callr en_157 (indexFuncR p hg hp) ?_)
 refine l_cons rfl (p_cmp ?_)
 refine l_cons rfl (p_assign ?_)
 refine l_nil ?_
 refine k_seq_normal ?_
 refine w_ret ?_
 refine ret1b rfl ?_ <;> exact ex2 subx ⟨by rw [← firstIdx_ge], rfl⟩
theorem bad1_walk {w0 : World} {es : List Ent} (r : Rx) (ks : List Int) {id s : Nat} (h : at_ es id = some (.row s 48 1 [[ints ks]])) : ACalls Tryd.prog w0 159 [.agg r.cells, .ptr id s 0 0] es fun v es' => v = .bool (ks.contains r.kind) ∧ es' = es := by
 rw [Rx.cells_eq r]
 refine calls2 (N := 8) Tryd.func159 rfl rfl (by decide) ?_
 refine w_seq ?_
 refine w_region ?_
 refine l_cons rfl (p_box fun s2 => ?_)
 refine l_cons rfl (p_assign ?_)
 refine l_nil ?_
 refine k_seq_normal ?_
 refine w_seq ?_
 refine w_region ?_
 refine l_cons rfl (p_loadp ty_48 ?_)
 refine l_cons rfl (p_fap fa_29_0 ?_)
 refine l_cons rfl (p_loadp ty_3 ?_)
 refine l_cons rfl (p_callr en_80 (contains_walk ks r.kind) ?_)
 refine l_cons rfl (p_assign ?_)
 refine l_nil ?_
 refine k_seq_normal ?_
 refine w_ret ?_
 refine ret1b rfl ?_ <;> exact ex2 subx ⟨rfl, rfl⟩
theorem bad_walk {w0 : World} {es : List Ent} (l : List Rx) (ks : List Int) : ACalls Tryd.prog w0 145 [.list 6 (l.map Rx.cells), ints ks] es fun v es' => v = .bool (!(notIn ks l)) ∧ es' = es := by
 unfold ints
 refine calls2 (N := 8) Tryd.func145 rfl rfl (by decide) ?_
 refine w_seq ?_
 refine w_region ?_
 refine l_cons rfl (p_box fun s3 => ?_)
 refine l_cons rfl (p_assign ?_)
 refine l_nil ?_
 refine k_seq_normal ?_
 refine w_seq ?_
 refine w_region ?_
 refine l_cons rfl (p_move ?_)
 refine l_cons rfl (p_mkfn ?_)
 refine l_cons rfl (p_callr en_140 (containsFuncR (l1 := []) (l2 := [.ptr es.length s3 0 0]) (fun r => ks.contains r.kind) en_159 (fun x _ => bad1_walk x ks (at_hit _ _))) ?_)
 refine l_cons rfl (p_assign ?_)
 refine l_nil ?_
 refine k_seq_normal ?_
 refine w_ret ?_
 refine ret1b rfl ?_ <;> exact ex2 subx ⟨by rw [notIn_not], rfl⟩
theorem rising_walk {w0 : World} (hT : Tab w0) {es : List Ent} (l : List Rx) (ho : ∀ r ∈ l, r.ok) : ACalls Tryd.prog w0 146 [.list 6 (l.map Rx.cells)] es fun v es' => v = .bool (chainR l && decide (setsR l ≤ 1)) ∧ es' = es := by
 refine calls1 (N := 32) Tryd.func146 rfl rfl (by decide) ?_
 refine w_seq ?_
 refine w_region ?_
 refine l_cons rfl (p_assign ?_)
 refine l_nil ?_
 refine k_seq_normal ?_
 refine w_seq ?_
 refine w_len 0 fun hl => ?_
 rw [List.length_map] at hl
 simp only [most] at hl
 refine w_region ?_
 refine l_cons rfl (p_assign ?_)
 refine l_nil ?_
 refine k_seq_normal ?_
 refine w_seq ?_
 refine w_seq ?_
 refine w_region ?_
 refine l_cons rfl (p_move ?_)
 refine l_cons rfl (p_lenl sl_27 ?_)
 refine l_cons rfl (p_move ?_)
 refine l_nil ?_
 refine k_seq_normal ?_
 refine w_block ?_
 refine w_loop (fun n f es' => ∃ k, n = l.length - k ∧ k ≤ l.length ∧ (∀ j (h0 : 0 < j) (hj : j < k) (hjl : j < l.length), l[j - 1].cmp l[j] = -1) ∧ Sub es es' ∧ Knows f [(0, .list 6 (l.map Rx.cells)), (3, .int .i64 (setsR (l.take k))), (6, .list 6 (l.map Rx.cells)), (7, .int .i64 l.length), (8, .int .i64 k)]) (l.length) (⟨0, rfl, Nat.zero_le _, fun j _ hj => absurd hj (Nat.not_lt_zero _), Sub.refl _, by simp only [Knows, put, upd_apply, Nat.reduceEqDiff, ↓reduceIte, and_true, true_and, eq_self] <;> and_intros <;> rfl⟩) ?_
 rintro n f es' ⟨k, rfl, hk1, hk2, hsub, hk⟩
 refine w_pins _ hsub (hk) ?_
 simp only [pins]
 refine w_seq ?_
 refine w_region ?_
 refine l_cons rfl (p_cmp ?_)
 refine l_nil ?_
 refine k_seq_normal ?_
 refine w_seq ?_
 refine w_b (fun h1 => ?_) (fun h1 => ?_)
 ·skip
  have h1' := h1; (try simp only [decide_eq_true_eq, decide_eq_false_iff_not, Bool.not_eq_true', Bool.not_false, Bool.not_true, Bool.not_eq_false'] at h1')
  refine w_skip ?_
  refine k_seq_normal ?_
  refine w_seq ?_
  refine w_block ?_
  refine w_seq ?_
  refine w_region ?_
  refine l_cons rfl (p_move ?_)
  refine l_cons rfl (p_ixl sl_27 ?_)
  refine l_cons rfl (p_loadf ty_29 ?_)
  refine l_cons rfl (p_alloc ze_29 fun s5 => ?_)
  refine l_cons rfl (p_assign ?_)
  refine l_cons rfl (p_store ty_29 ?_)
  refine l_nil ?_
  refine k_seq_normal ?_
  refine w_seq ?_
  refine w_seq ?_
  have hset := setsR_take l k (by omega)
  have hsl := setsR_le (l.take k)
  rw [List.length_take] at hsl
  refine w_region ?_
  refine l_cons rfl (p_loadp ty_29 ?_)
  refine l_cons rfl (p_callr en_133 (isSet_walk (l[k]'(by omega))) ?_)
  refine l_nil ?_
  refine k_seq_normal ?_
  refine w_b (fun h2 => ?_) (fun h2 => ?_)
  ·skip
   have h2' := h2; (try simp only [decide_eq_true_eq, decide_eq_false_iff_not, Bool.not_eq_true', Bool.not_false, Bool.not_true, Bool.not_eq_false'] at h2')
   refine w_region ?_
   refine l_cons rfl (p_move ?_)
   refine l_cons rfl (p_arith ?_)
   refine l_cons rfl (p_assign ?_)
   refine l_nil ?_
   refine k_seq_normal ?_
   refine w_seq ?_
   refine w_drawn 9 [] (fun e => e = _) mixed (by kernel_rfl) rfl ?_
   refine q1 4 (hg := rfl) (hu := rfl) (h := by rintro f _ rfl; exact p_move ⟨rfl, rfl⟩) (k := ?_)
   refine q1 17 (hg := rfl) (hu := rfl) (h := by rintro f _ rfl; exact p_cmp ⟨rfl, rfl⟩) (k := ?_)
   refine q1 18 (hg := rfl) (hu := rfl) (h := by rintro f _ rfl; exact p_move ⟨rfl, rfl⟩) (k := ?_)
   refine qsplit 19 (fun h3 => ?_) (fun h3 => ?_)
   ·skip
    have h3' := h3; (try simp only [decide_eq_true_eq, decide_eq_false_iff_not, Bool.not_eq_true', Bool.not_false, Bool.not_true, Bool.not_eq_false'] at h3')
    refine qy1 0 (hg := rfl) (hw := h3) (hu := rfl) (h := by rintro f _ rfl; exact p_move ⟨rfl, rfl⟩) (k := ?_)
    refine qy1 4 (hg := rfl) (hw := h3) (hu := rfl) (h := by rintro f _ rfl; exact p_move ⟨rfl, rfl⟩) (k := ?_)
    refine qy1 21 (hg := rfl) (hw := h3) (hu := rfl) (h := by rintro f _ rfl; exact p_arith ⟨rfl, rfl⟩) (k := ?_)
    refine qy2 20 22 (hg := rfl) (hw := h3) (hu := rfl) (h := by rintro f _ rfl; exact p_ixl sl_27 (a := .fptr 6 (l.map Rx.cells) (k - 1) 0) ⟨rfl, rfl⟩ (h0 := by omega) (h1 := by simp only [List.length_map]; omega) (ho := by congr 1; omega)) (k := ?_)
    refine qy1 23 (hg := rfl) (hw := h3) (hu := rfl) (h := by rintro f _ rfl; exact p_loadf ty_29 (a := .agg (l[k - 1]'(by omega)).cells) ⟨rfl, rfl⟩ (hr := rxrow_at (l := l) (k := k - 1) (by omega)) (hl := Nat.le_refl 6) (ha := rfl)) (k := ?_)
    refine qy1 5 (hg := rfl) (hw := h3) (hu := rfl) (h := by rintro f _ rfl; exact p_loadp ty_29 ⟨rfl, rfl⟩) (k := ?_)
    refine q_end ?_
    refine m_end ?_
    refine g_y rfl h3 (p_callr en_136 (rxCompare hT _ (l[k - 1]'(by omega)) (l[k]'(by omega)) _ (Nat.le_refl _) (ho _ (List.getElem_mem _)) (ho _ (List.getElem_mem _))) ?_)
    refine g_y rfl h3 (p_cmp ?_)
    refine l_cons rfl (p_pickt h3 ?_)
    refine l_nil ?_
    refine k_seq_normal ?_
    refine w_b (fun h4 => ?_) (fun h4 => ?_)
    ·skip
     have h4' := h4; (try simp only [decide_eq_true_eq, decide_eq_false_iff_not, Bool.not_eq_true', Bool.not_false, Bool.not_true, Bool.not_eq_false'] at h4')
     refine w_seq ?_
     refine w_region ?_
     refine l_cons rfl (p_assign ?_)
     refine l_nil ?_
     refine k_seq_normal ?_
     refine w_ret ?_
     refine k_blk_ret ?_
     refine k_seq_ret ?_
     refine k_seq_ret ?_
     refine k_blk_ret ?_
     refine k_seq_ret ?_
     refine ret1b rfl ?_ <;> exact ex2 subx ⟨by rw [chainR_no (l := l) (k := k) (by omega) (by omega) (by have := Rx.cmp_range l[k - 1] l[k]; omega)]; rfl, rfl⟩
    ·skip
     have h4' := h4; (try simp only [decide_eq_true_eq, decide_eq_false_iff_not, Bool.not_eq_true', Bool.not_false, Bool.not_true, Bool.not_eq_false'] at h4')
     refine w_skip ?_
     refine k_blk_normal ?_
     refine k_seq_normal ?_
     refine w_region ?_
     refine l_cons rfl (p_arith ?_)
     refine l_cons rfl (p_move ?_)
     refine l_nil ?_
     refine k_seq_normal ?_
     refine ⟨l.length - (k + 1), by omega, k + 1, rfl, by omega, ?_, sub1 _ _, ?_⟩
     ·intro j h0 hj hjl
      rcases Nat.lt_or_eq_of_le (Nat.le_of_lt_succ hj) with h9 | h9
      ·exact hk2 j h0 h9 hjl
      ·subst h9; have := Rx.cmp_range l[j - 1] l[j]; simp_all <;> omega
     ·simp only [Knows, put, upd_apply, Nat.reduceEqDiff, ↓reduceIte, and_true, true_and, eq_self, hset]
      first | exact ⟨by congr 1; simp [*], rfl⟩ | (refine ⟨?_, ?_⟩ <;> first | rfl | (congr 1; simp [*]; done)) | (congr 1; simp [*])
   ·skip
    have h3' := h3; (try simp only [decide_eq_true_eq, decide_eq_false_iff_not, Bool.not_eq_true', Bool.not_false, Bool.not_true, Bool.not_eq_false'] at h3')
    refine qn rfl h3 ?_
    refine qn rfl h3 ?_
    refine qn rfl h3 ?_
    refine qn rfl h3 ?_
    refine qn rfl h3 ?_
    refine qn rfl h3 ?_
    refine q_end ?_
    refine m_end ?_
    refine g_n rfl h3 ?_
    refine g_n rfl h3 ?_
    refine l_cons rfl (p_pickf h3 ?_)
    refine l_nil ?_
    refine k_seq_normal ?_
    refine w_f rfl ?_
    refine w_skip ?_
    refine k_blk_normal ?_
    refine k_seq_normal ?_
    refine w_region ?_
    refine l_cons rfl (p_arith ?_)
    refine l_cons rfl (p_move ?_)
    refine l_nil ?_
    refine k_seq_normal ?_
    refine ⟨l.length - (k + 1), by omega, k + 1, rfl, by omega, ?_, sub1 _ _, ?_⟩
    ·intro j h0 hj hjl
     rcases Nat.lt_or_eq_of_le (Nat.le_of_lt_succ hj) with h9 | h9
     ·exact hk2 j h0 h9 hjl
     ·subst h9; have := Rx.cmp_range l[j - 1] l[j]; simp_all <;> omega
    ·simp only [Knows, put, upd_apply, Nat.reduceEqDiff, ↓reduceIte, and_true, true_and, eq_self, hset]
     first | exact ⟨by congr 1; simp [*], rfl⟩ | (refine ⟨?_, ?_⟩ <;> first | rfl | (congr 1; simp [*]; done)) | (congr 1; simp [*])
  ·skip
   have h2' := h2; (try simp only [decide_eq_true_eq, decide_eq_false_iff_not, Bool.not_eq_true', Bool.not_false, Bool.not_true, Bool.not_eq_false'] at h2')
   refine w_skip ?_
   refine k_seq_normal ?_
   refine w_seq ?_
   refine w_drawn 9 [] (fun e => e = _) mixed (by kernel_rfl) rfl ?_
   refine q1 4 (hg := rfl) (hu := rfl) (h := by rintro f _ rfl; exact p_move ⟨rfl, rfl⟩) (k := ?_)
   refine q1 17 (hg := rfl) (hu := rfl) (h := by rintro f _ rfl; exact p_cmp ⟨rfl, rfl⟩) (k := ?_)
   refine q1 18 (hg := rfl) (hu := rfl) (h := by rintro f _ rfl; exact p_move ⟨rfl, rfl⟩) (k := ?_)
   refine qsplit 19 (fun h5 => ?_) (fun h5 => ?_)
   ·skip
    have h5' := h5; (try simp only [decide_eq_true_eq, decide_eq_false_iff_not, Bool.not_eq_true', Bool.not_false, Bool.not_true, Bool.not_eq_false'] at h5')
    refine qy1 0 (hg := rfl) (hw := h5) (hu := rfl) (h := by rintro f _ rfl; exact p_move ⟨rfl, rfl⟩) (k := ?_)
    refine qy1 4 (hg := rfl) (hw := h5) (hu := rfl) (h := by rintro f _ rfl; exact p_move ⟨rfl, rfl⟩) (k := ?_)
    refine qy1 21 (hg := rfl) (hw := h5) (hu := rfl) (h := by rintro f _ rfl; exact p_arith ⟨rfl, rfl⟩) (k := ?_)
    refine qy2 20 22 (hg := rfl) (hw := h5) (hu := rfl) (h := by rintro f _ rfl; exact p_ixl sl_27 (a := .fptr 6 (l.map Rx.cells) (k - 1) 0) ⟨rfl, rfl⟩ (h0 := by omega) (h1 := by simp only [List.length_map]; omega) (ho := by congr 1; omega)) (k := ?_)
    refine qy1 23 (hg := rfl) (hw := h5) (hu := rfl) (h := by rintro f _ rfl; exact p_loadf ty_29 (a := .agg (l[k - 1]'(by omega)).cells) ⟨rfl, rfl⟩ (hr := rxrow_at (l := l) (k := k - 1) (by omega)) (hl := Nat.le_refl 6) (ha := rfl)) (k := ?_)
    refine qy1 5 (hg := rfl) (hw := h5) (hu := rfl) (h := by rintro f _ rfl; exact p_loadp ty_29 ⟨rfl, rfl⟩) (k := ?_)
    refine q_end ?_
    refine m_end ?_
    refine g_y rfl h5 (p_callr en_136 (rxCompare hT _ (l[k - 1]'(by omega)) (l[k]'(by omega)) _ (Nat.le_refl _) (ho _ (List.getElem_mem _)) (ho _ (List.getElem_mem _))) ?_)
    refine g_y rfl h5 (p_cmp ?_)
    refine l_cons rfl (p_pickt h5 ?_)
    refine l_nil ?_
    refine k_seq_normal ?_
    refine w_b (fun h6 => ?_) (fun h6 => ?_)
    ·skip
     have h6' := h6; (try simp only [decide_eq_true_eq, decide_eq_false_iff_not, Bool.not_eq_true', Bool.not_false, Bool.not_true, Bool.not_eq_false'] at h6')
     refine w_seq ?_
     refine w_region ?_
     refine l_cons rfl (p_assign ?_)
     refine l_nil ?_
     refine k_seq_normal ?_
     refine w_ret ?_
     refine k_blk_ret ?_
     refine k_seq_ret ?_
     refine k_seq_ret ?_
     refine k_blk_ret ?_
     refine k_seq_ret ?_
     refine ret1b rfl ?_ <;> exact ex2 subx ⟨by rw [chainR_no (l := l) (k := k) (by omega) (by omega) (by have := Rx.cmp_range l[k - 1] l[k]; omega)]; rfl, rfl⟩
    ·skip
     have h6' := h6; (try simp only [decide_eq_true_eq, decide_eq_false_iff_not, Bool.not_eq_true', Bool.not_false, Bool.not_true, Bool.not_eq_false'] at h6')
     refine w_skip ?_
     refine k_blk_normal ?_
     refine k_seq_normal ?_
     refine w_region ?_
     refine l_cons rfl (p_arith ?_)
     refine l_cons rfl (p_move ?_)
     refine l_nil ?_
     refine k_seq_normal ?_
     refine ⟨l.length - (k + 1), by omega, k + 1, rfl, by omega, ?_, sub1 _ _, ?_⟩
     ·intro j h0 hj hjl
      rcases Nat.lt_or_eq_of_le (Nat.le_of_lt_succ hj) with h9 | h9
      ·exact hk2 j h0 h9 hjl
      ·subst h9; have := Rx.cmp_range l[j - 1] l[j]; simp_all <;> omega
     ·simp only [Knows, put, upd_apply, Nat.reduceEqDiff, ↓reduceIte, and_true, true_and, eq_self, hset]
      first | exact ⟨by congr 1; simp [*], rfl⟩ | (refine ⟨?_, ?_⟩ <;> first | rfl | (congr 1; simp [*]; done)) | (congr 1; simp [*])
   ·skip
    have h5' := h5; (try simp only [decide_eq_true_eq, decide_eq_false_iff_not, Bool.not_eq_true', Bool.not_false, Bool.not_true, Bool.not_eq_false'] at h5')
    refine qn rfl h5 ?_
    refine qn rfl h5 ?_
    refine qn rfl h5 ?_
    refine qn rfl h5 ?_
    refine qn rfl h5 ?_
    refine qn rfl h5 ?_
    refine q_end ?_
    refine m_end ?_
    refine g_n rfl h5 ?_
    refine g_n rfl h5 ?_
    refine l_cons rfl (p_pickf h5 ?_)
    refine l_nil ?_
    refine k_seq_normal ?_
    refine w_f rfl ?_
    refine w_skip ?_
    refine k_blk_normal ?_
    refine k_seq_normal ?_
    refine w_region ?_
    refine l_cons rfl (p_arith ?_)
    refine l_cons rfl (p_move ?_)
    refine l_nil ?_
    refine k_seq_normal ?_
    refine ⟨l.length - (k + 1), by omega, k + 1, rfl, by omega, ?_, sub1 _ _, ?_⟩
    ·intro j h0 hj hjl
     rcases Nat.lt_or_eq_of_le (Nat.le_of_lt_succ hj) with h9 | h9
     ·exact hk2 j h0 h9 hjl
     ·subst h9; have := Rx.cmp_range l[j - 1] l[j]; simp_all <;> omega
    ·simp only [Knows, put, upd_apply, Nat.reduceEqDiff, ↓reduceIte, and_true, true_and, eq_self, hset]
     first | exact ⟨by congr 1; simp [*], rfl⟩ | (refine ⟨?_, ?_⟩ <;> first | rfl | (congr 1; simp [*]; done)) | (congr 1; simp [*])
 ·skip
  have h1' := h1; (try simp only [decide_eq_true_eq, decide_eq_false_iff_not, Bool.not_eq_true', Bool.not_false, Bool.not_true, Bool.not_eq_false'] at h1')
  refine w_exit ?_
  refine k_seq_exit ?_
  refine k_seq_exit ?_
  refine k_blk_here ?_
  refine k_seq_normal ?_
  refine w_seq ?_
  refine w_region ?_
  refine l_cons rfl (p_move ?_)
  refine l_cons rfl (p_cmp ?_)
  refine l_cons rfl (p_assign ?_)
  refine l_nil ?_
  refine k_seq_normal ?_
  refine w_ret ?_
  refine ret1b rfl ?_ <;> exact ex2 subx ⟨by rw [chainR_yes (fun j h0 hj => hk2 j h0 (by omega) hj), List.take_of_length_le (by omega)]; simp only [Bool.true_and]; congr 1; rw [decide_eq_decide]; omega, rfl⟩
theorem plain1_walk {w0 : World} {es : List Ent} (r : Rx) (h : ∀ es, ACalls Tryd.prog w0 110 [.agg r.cells] es fun v es' => v = .bool r.plain ∧ es' = es) : ACalls Tryd.prog w0 147 [.agg r.cells] es fun v es' => v = .bool (!r.plain) ∧ es' = es := by
 refine calls1 (N := 6) Tryd.func147 rfl rfl (by decide) ?_
 refine w_seq ?_
 refine w_region ?_
 refine l_cons rfl (p_box fun s1 => ?_)
 refine l_cons rfl (p_assign ?_)
 refine l_nil ?_
 refine k_seq_normal ?_
 refine w_seq ?_
 refine w_region ?_
 refine l_cons rfl (p_loadp ty_29 ?_)
 refine l_cons rfl (p_callr en_110 (h _) ?_)
 refine l_cons rfl (p_not ?_)
 refine l_cons rfl (p_assign ?_)
 refine l_nil ?_
 refine k_seq_normal ?_
 refine w_ret ?_
 refine ret1b rfl ?_ <;> exact ex2 subx ⟨rfl, rfl⟩
theorem rxPlain {w0 : World} (hT : Tab w0) : ∀ (B : Nat) (r : Rx) (es : List Ent), r.nodes ≤ B → r.ok → ACalls Tryd.prog w0 110 [.agg r.cells] es fun v es' => v = .bool r.plain ∧ es' = es := by
 intro B
 induction B using Nat.strongRecOn with
 | _ B ih => ?_
 intro r es hB ho
 rw [Rx.cells_eq r]
 refine calls1 (N := 91) Tryd.func110 rfl rfl (by decide) ?_
 refine w_seq ?_
 refine w_region ?_
 refine l_cons rfl (p_box fun s1 => ?_)
 refine l_cons rfl (p_assign ?_)
 refine l_nil ?_
 refine k_seq_normal ?_
 refine w_seq ?_
 refine w_region ?_
 refine l_cons rfl (p_fap fa_29_1 ?_)
 refine l_cons rfl (p_loadp ty_26 ?_)
 refine l_cons rfl (p_buildArr ze_26 ar_26 ?_)
 refine l_cons rfl (p_eqa ai_26 ?_ (hb := eqA r.set noSet))
 refine l_cons rfl (p_assign ?_)
 refine l_nil ?_
 refine k_seq_normal ?_
 refine w_seq ?_
 refine w_region ?_
 refine l_cons rfl (p_assign ?_)
 refine l_nil ?_
 refine k_seq_normal ?_
 refine w_cut (fun f es' => es' = .row s1 29 6 [[.int .i64 r.kind, .int .u64 r.set.w0, .int .u64 r.set.w1, .int .u64 r.set.w2, .int .u64 r.set.w3, .list 6 (r.args.map Rx.cells)]] :: es ∧ Knows f [(1, .ptr es.length s1 0 0), (4, .bool (right r.kind r.set r.args))]) ?_ ?_
 ·skip
  refine w_seq ?_
  refine w_region ?_
  refine l_cons rfl (p_fap fa_29_0 ?_)
  refine l_cons rfl (p_loadp ty_3 ?_)
  refine l_nil ?_
  refine k_seq_normal ?_
  refine w_block ?_
  refine w_seq ?_
  refine w_seq ?_
  refine w_region ?_
  refine l_cons rfl (p_cmp ?_)
  refine l_cons rfl (p_assign ?_)
  refine l_nil ?_
  refine k_seq_normal ?_
  refine w_b (fun h1 => ?_) (fun h1 => ?_)
  ·skip
   have h1' := h1; (try simp only [decide_eq_true_eq, decide_eq_false_iff_not, Bool.not_eq_true', Bool.not_false, Bool.not_true, Bool.not_eq_false'] at h1')
   refine w_skip ?_
   refine k_seq_normal ?_
   refine w_t h1 ?_
   refine w_region ?_
   refine l_cons rfl (p_move ?_)
   refine l_cons rfl (p_move ?_)
   refine g_b rfl (fun h2 => ?_) (fun h2 => ?_)
   ·skip
    have h2' := h2; (try simp only [decide_eq_true_eq, decide_eq_false_iff_not, Bool.not_eq_true', Bool.not_false, Bool.not_true, Bool.not_eq_false'] at h2')
    refine (p_fap fa_29_2 ?_)
    refine g_y rfl h2 (p_loadp ty_27 ?_)
    first | refine g_y rfl h2 (p_lenl sl_27 ?_) | refine g_y rfl h2 (p_leno sl_27 ?_) | refine g_y rfl h2 (p_lenn sl_27 ?_)
    refine g_y rfl h2 (p_cmp ?_)
    refine l_cons rfl (p_pickt h2 ?_)
    refine l_cons rfl (p_assign ?_)
    refine l_nil ?_
    refine k_blk_normal ?_
    refine k_seq_normal ?_
    refine ⟨rfl, ?_⟩
    simp only [Knows, put, upd_apply, Nat.reduceEqDiff, ↓reduceIte, and_true, true_and, eq_self]
    exact congrArg AV.bool (by unfold right; first | (simp_all; done) | (simp_all; omega) | (simp_all <;> intros <;> omega))
   ·skip
    have h2' := h2; (try simp only [decide_eq_true_eq, decide_eq_false_iff_not, Bool.not_eq_true', Bool.not_false, Bool.not_true, Bool.not_eq_false'] at h2')
    refine g_n rfl h2 ?_
    refine g_n rfl h2 ?_
    refine g_n rfl h2 ?_
    refine l_cons rfl (p_pickf h2 ?_)
    refine l_cons rfl (p_assign ?_)
    refine l_nil ?_
    refine k_blk_normal ?_
    refine k_seq_normal ?_
    refine ⟨rfl, ?_⟩
    simp only [Knows, put, upd_apply, Nat.reduceEqDiff, ↓reduceIte, and_true, true_and, eq_self]
    exact congrArg AV.bool (by unfold right; first | (simp_all; done) | (simp_all; omega) | (simp_all <;> intros <;> omega))
  ·skip
   have h1' := h1; (try simp only [decide_eq_true_eq, decide_eq_false_iff_not, Bool.not_eq_true', Bool.not_false, Bool.not_true, Bool.not_eq_false'] at h1')
   refine w_region ?_
   refine l_cons rfl (p_cmp ?_)
   refine l_cons rfl (p_assign ?_)
   refine l_nil ?_
   refine k_seq_normal ?_
   refine w_b (fun h3 => ?_) (fun h3 => ?_)
   ·skip
    have h3' := h3; (try simp only [decide_eq_true_eq, decide_eq_false_iff_not, Bool.not_eq_true', Bool.not_false, Bool.not_true, Bool.not_eq_false'] at h3')
    refine w_region ?_
    refine l_cons rfl (p_move ?_)
    refine l_cons rfl (p_move ?_)
    refine g_b rfl (fun h4 => ?_) (fun h4 => ?_)
    ·skip
     have h4' := h4; (try simp only [decide_eq_true_eq, decide_eq_false_iff_not, Bool.not_eq_true', Bool.not_false, Bool.not_true, Bool.not_eq_false'] at h4')
     refine (p_fap fa_29_2 ?_)
     refine g_y rfl h4 (p_loadp ty_27 ?_)
     first | refine g_y rfl h4 (p_lenl sl_27 ?_) | refine g_y rfl h4 (p_leno sl_27 ?_) | refine g_y rfl h4 (p_lenn sl_27 ?_)
     refine g_y rfl h4 (p_cmp ?_)
     refine l_cons rfl (p_pickt h4 ?_)
     refine l_cons rfl (p_assign ?_)
     refine l_nil ?_
     refine k_blk_normal ?_
     refine k_seq_normal ?_
     refine ⟨rfl, ?_⟩
     simp only [Knows, put, upd_apply, Nat.reduceEqDiff, ↓reduceIte, and_true, true_and, eq_self]
     exact congrArg AV.bool (by unfold right; first | (simp_all; done) | (simp_all; omega) | (simp_all <;> intros <;> omega))
    ·skip
     have h4' := h4; (try simp only [decide_eq_true_eq, decide_eq_false_iff_not, Bool.not_eq_true', Bool.not_false, Bool.not_true, Bool.not_eq_false'] at h4')
     refine g_n rfl h4 ?_
     refine g_n rfl h4 ?_
     refine g_n rfl h4 ?_
     refine l_cons rfl (p_pickf h4 ?_)
     refine l_cons rfl (p_assign ?_)
     refine l_nil ?_
     refine k_blk_normal ?_
     refine k_seq_normal ?_
     refine ⟨rfl, ?_⟩
     simp only [Knows, put, upd_apply, Nat.reduceEqDiff, ↓reduceIte, and_true, true_and, eq_self]
     exact congrArg AV.bool (by unfold right; first | (simp_all; done) | (simp_all; omega) | (simp_all <;> intros <;> omega))
   ·skip
    have h3' := h3; (try simp only [decide_eq_true_eq, decide_eq_false_iff_not, Bool.not_eq_true', Bool.not_false, Bool.not_true, Bool.not_eq_false'] at h3')
    refine w_seq ?_
    refine w_region ?_
    refine l_cons rfl (p_cmp ?_)
    refine l_cons rfl (p_assign ?_)
    refine l_nil ?_
    refine k_seq_normal ?_
    refine w_b (fun h5 => ?_) (fun h5 => ?_)
    ·skip
     have h5' := h5; (try simp only [decide_eq_true_eq, decide_eq_false_iff_not, Bool.not_eq_true', Bool.not_false, Bool.not_true, Bool.not_eq_false'] at h5')
     refine w_region ?_
     refine l_cons rfl (p_move ?_)
     refine l_cons rfl (p_not ?_)
     refine l_cons rfl (p_move ?_)
     refine g_b rfl (fun h6 => ?_) (fun h6 => ?_)
     ·skip
      have h6' := h6; (try simp only [decide_eq_true_eq, decide_eq_false_iff_not, Bool.not_eq_true', Bool.not_false, Bool.not_true, Bool.not_eq_false'] at h6')
      refine (p_fap fa_29_2 ?_)
      refine g_y rfl h6 (p_loadp ty_27 ?_)
      first | refine g_y rfl h6 (p_lenl sl_27 ?_) | refine g_y rfl h6 (p_leno sl_27 ?_) | refine g_y rfl h6 (p_lenn sl_27 ?_)
      refine g_y rfl h6 (p_cmp ?_)
      refine l_cons rfl (p_pickt h6 ?_)
      refine l_cons rfl (p_assign ?_)
      refine l_nil ?_
      refine k_blk_normal ?_
      refine k_seq_normal ?_
      refine ⟨rfl, ?_⟩
      simp only [Knows, put, upd_apply, Nat.reduceEqDiff, ↓reduceIte, and_true, true_and, eq_self]
      exact congrArg AV.bool (by unfold right; first | (simp_all; done) | (simp_all; omega) | (simp_all <;> intros <;> omega))
     ·skip
      have h6' := h6; (try simp only [decide_eq_true_eq, decide_eq_false_iff_not, Bool.not_eq_true', Bool.not_false, Bool.not_true, Bool.not_eq_false'] at h6')
      refine g_n rfl h6 ?_
      refine g_n rfl h6 ?_
      refine g_n rfl h6 ?_
      refine l_cons rfl (p_pickf h6 ?_)
      refine l_cons rfl (p_assign ?_)
      refine l_nil ?_
      refine k_blk_normal ?_
      refine k_seq_normal ?_
      refine ⟨rfl, ?_⟩
      simp only [Knows, put, upd_apply, Nat.reduceEqDiff, ↓reduceIte, and_true, true_and, eq_self]
      exact congrArg AV.bool (by unfold right; first | (simp_all; done) | (simp_all; omega) | (simp_all <;> intros <;> omega))
    ·skip
     have h5' := h5; (try simp only [decide_eq_true_eq, decide_eq_false_iff_not, Bool.not_eq_true', Bool.not_false, Bool.not_true, Bool.not_eq_false'] at h5')
     refine w_seq ?_
     refine w_region ?_
     refine l_cons rfl (p_cmp ?_)
     refine l_cons rfl (p_assign ?_)
     refine l_nil ?_
     refine k_seq_normal ?_
     refine w_b (fun h7 => ?_) (fun h7 => ?_)
     ·skip
      have h7' := h7; (try simp only [decide_eq_true_eq, decide_eq_false_iff_not, Bool.not_eq_true', Bool.not_false, Bool.not_true, Bool.not_eq_false'] at h7')
      refine w_region ?_
      refine l_cons rfl (p_move ?_)
      refine l_cons rfl (p_move ?_)
      refine g_b rfl (fun h8 => ?_) (fun h8 => ?_)
      ·skip
       have h8' := h8; (try simp only [decide_eq_true_eq, decide_eq_false_iff_not, Bool.not_eq_true', Bool.not_false, Bool.not_true, Bool.not_eq_false'] at h8')
       refine (p_fap fa_29_2 ?_)
       refine g_y rfl h8 (p_loadp ty_27 ?_)
       first | refine g_y rfl h8 (p_lenl sl_27 ?_) | refine g_y rfl h8 (p_leno sl_27 ?_) | refine g_y rfl h8 (p_lenn sl_27 ?_)
       refine g_y rfl h8 (p_cmp ?_)
       refine l_cons rfl (p_pickt h8 ?_)
       refine l_cons rfl (p_move ?_)
       refine g_b rfl (fun h9 => ?_) (fun h9 => ?_)
       ·skip
        have h9' := h9; (try simp only [decide_eq_true_eq, decide_eq_false_iff_not, Bool.not_eq_true', Bool.not_false, Bool.not_true, Bool.not_eq_false'] at h9')
        refine (p_fap fa_29_2 ?_)
        refine g_y rfl h9 (p_loadp ty_27 ?_)
        refine g_y rfl h9 (p_buildList sl_48 ze_3 ?_)
        refine g_y rfl h9 (p_callr en_145 (bad_walk r.args [4, 1, 2]) ?_)
        refine g_y rfl h9 (p_not ?_)
        refine l_cons rfl (p_pickt h9 ?_)
        refine l_cons rfl (p_assign ?_)
        refine l_nil ?_
        refine k_blk_normal ?_
        refine k_seq_normal ?_
        refine ⟨rfl, ?_⟩
        simp only [Knows, put, upd_apply, Nat.reduceEqDiff, ↓reduceIte, and_true, true_and, eq_self]
        exact congrArg AV.bool (by unfold right; first | (simp_all; done) | (simp_all; omega) | (simp_all <;> intros <;> omega))
       ·skip
        have h9' := h9; (try simp only [decide_eq_true_eq, decide_eq_false_iff_not, Bool.not_eq_true', Bool.not_false, Bool.not_true, Bool.not_eq_false'] at h9')
        refine g_n rfl h9 ?_
        refine g_n rfl h9 ?_
        refine g_n rfl h9 ?_
        refine g_n rfl h9 ?_
        refine l_cons rfl (p_pickf h9 ?_)
        refine l_cons rfl (p_assign ?_)
        refine l_nil ?_
        refine k_blk_normal ?_
        refine k_seq_normal ?_
        refine ⟨rfl, ?_⟩
        simp only [Knows, put, upd_apply, Nat.reduceEqDiff, ↓reduceIte, and_true, true_and, eq_self]
        exact congrArg AV.bool (by unfold right; first | (simp_all; done) | (simp_all; omega) | (simp_all <;> intros <;> omega))
      ·skip
       have h8' := h8; (try simp only [decide_eq_true_eq, decide_eq_false_iff_not, Bool.not_eq_true', Bool.not_false, Bool.not_true, Bool.not_eq_false'] at h8')
       refine g_n rfl h8 ?_
       refine g_n rfl h8 ?_
       refine g_n rfl h8 ?_
       refine l_cons rfl (p_pickf h8 ?_)
       refine l_cons rfl (p_move ?_)
       refine g_n rfl rfl ?_
       refine g_n rfl rfl ?_
       refine g_n rfl rfl ?_
       refine g_n rfl rfl ?_
       refine g_n rfl rfl ?_
       refine l_cons rfl (p_pickf rfl ?_)
       refine l_cons rfl (p_assign ?_)
       refine l_nil ?_
       refine k_blk_normal ?_
       refine k_seq_normal ?_
       refine ⟨rfl, ?_⟩
       simp only [Knows, put, upd_apply, Nat.reduceEqDiff, ↓reduceIte, and_true, true_and, eq_self]
       exact congrArg AV.bool (by unfold right; first | (simp_all; done) | (simp_all; omega) | (simp_all <;> intros <;> omega))
     ·skip
      have h7' := h7; (try simp only [decide_eq_true_eq, decide_eq_false_iff_not, Bool.not_eq_true', Bool.not_false, Bool.not_true, Bool.not_eq_false'] at h7')
      refine w_seq ?_
      refine w_region ?_
      refine l_cons rfl (p_cmp ?_)
      refine l_cons rfl (p_assign ?_)
      refine l_nil ?_
      refine k_seq_normal ?_
      refine w_b (fun h10 => ?_) (fun h10 => ?_)
      ·skip
       have h10' := h10; (try simp only [decide_eq_true_eq, decide_eq_false_iff_not, Bool.not_eq_true', Bool.not_false, Bool.not_true, Bool.not_eq_false'] at h10')
       refine w_region ?_
       refine l_cons rfl (p_move ?_)
       refine l_cons rfl (p_move ?_)
       refine g_b rfl (fun h11 => ?_) (fun h11 => ?_)
       ·skip
        have h11' := h11; (try simp only [decide_eq_true_eq, decide_eq_false_iff_not, Bool.not_eq_true', Bool.not_false, Bool.not_true, Bool.not_eq_false'] at h11')
        refine (p_fap fa_29_2 ?_)
        refine g_y rfl h11 (p_loadp ty_27 ?_)
        first | refine g_y rfl h11 (p_lenl sl_27 ?_) | refine g_y rfl h11 (p_leno sl_27 ?_) | refine g_y rfl h11 (p_lenn sl_27 ?_)
        refine g_y rfl h11 (p_cmp ?_)
        refine l_cons rfl (p_pickt h11 ?_)
        refine l_cons rfl (p_move ?_)
        refine g_b rfl (fun h12 => ?_) (fun h12 => ?_)
        ·skip
         have h12' := h12; (try simp only [decide_eq_true_eq, decide_eq_false_iff_not, Bool.not_eq_true', Bool.not_false, Bool.not_true, Bool.not_eq_false'] at h12')
         refine (p_fap fa_29_2 ?_)
         refine g_y rfl h12 (p_loadp ty_27 ?_)
         refine g_y rfl h12 (p_buildList sl_48 ze_3 ?_)
         refine g_y rfl h12 (p_callr en_145 (bad_walk r.args [5, 1]) ?_)
         refine g_y rfl h12 (p_not ?_)
         refine l_cons rfl (p_pickt h12 ?_)
         refine l_cons rfl (p_move ?_)
         refine g_b rfl (fun h13 => ?_) (fun h13 => ?_)
         ·skip
          have h13' := h13; (try simp only [decide_eq_true_eq, decide_eq_false_iff_not, Bool.not_eq_true', Bool.not_false, Bool.not_true, Bool.not_eq_false'] at h13')
          refine (p_fap fa_29_2 ?_)
          refine g_y rfl h13 (p_loadp ty_27 ?_)
          refine g_y rfl h13 (p_callr en_146 (rising_walk hT r.args ho.args) ?_)
          refine l_cons rfl (p_pickt h13 ?_)
          refine l_cons rfl (p_assign ?_)
          refine l_nil ?_
          refine k_blk_normal ?_
          refine k_seq_normal ?_
          refine ⟨rfl, ?_⟩
          simp only [Knows, put, upd_apply, Nat.reduceEqDiff, ↓reduceIte, and_true, true_and, eq_self]
          exact congrArg AV.bool (by unfold right; first | (simp_all; done) | (simp_all; omega) | (simp_all <;> intros <;> omega))
         ·skip
          have h13' := h13; (try simp only [decide_eq_true_eq, decide_eq_false_iff_not, Bool.not_eq_true', Bool.not_false, Bool.not_true, Bool.not_eq_false'] at h13')
          refine g_n rfl h13 ?_
          refine g_n rfl h13 ?_
          refine l_cons rfl (p_pickf h13 ?_)
          refine l_cons rfl (p_assign ?_)
          refine l_nil ?_
          refine k_blk_normal ?_
          refine k_seq_normal ?_
          refine ⟨rfl, ?_⟩
          simp only [Knows, put, upd_apply, Nat.reduceEqDiff, ↓reduceIte, and_true, true_and, eq_self]
          exact congrArg AV.bool (by unfold right; first | (simp_all; done) | (simp_all; omega) | (simp_all <;> intros <;> omega))
        ·skip
         have h12' := h12; (try simp only [decide_eq_true_eq, decide_eq_false_iff_not, Bool.not_eq_true', Bool.not_false, Bool.not_true, Bool.not_eq_false'] at h12')
         refine g_n rfl h12 ?_
         refine g_n rfl h12 ?_
         refine g_n rfl h12 ?_
         refine g_n rfl h12 ?_
         refine l_cons rfl (p_pickf h12 ?_)
         refine l_cons rfl (p_move ?_)
         refine g_n rfl rfl ?_
         refine g_n rfl rfl ?_
         refine g_n rfl rfl ?_
         refine l_cons rfl (p_pickf rfl ?_)
         refine l_cons rfl (p_assign ?_)
         refine l_nil ?_
         refine k_blk_normal ?_
         refine k_seq_normal ?_
         refine ⟨rfl, ?_⟩
         simp only [Knows, put, upd_apply, Nat.reduceEqDiff, ↓reduceIte, and_true, true_and, eq_self]
         exact congrArg AV.bool (by unfold right; first | (simp_all; done) | (simp_all; omega) | (simp_all <;> intros <;> omega))
       ·skip
        have h11' := h11; (try simp only [decide_eq_true_eq, decide_eq_false_iff_not, Bool.not_eq_true', Bool.not_false, Bool.not_true, Bool.not_eq_false'] at h11')
        refine g_n rfl h11 ?_
        refine g_n rfl h11 ?_
        refine g_n rfl h11 ?_
        refine l_cons rfl (p_pickf h11 ?_)
        refine l_cons rfl (p_move ?_)
        refine g_n rfl rfl ?_
        refine g_n rfl rfl ?_
        refine g_n rfl rfl ?_
        refine g_n rfl rfl ?_
        refine g_n rfl rfl ?_
        refine l_cons rfl (p_pickf rfl ?_)
        refine l_cons rfl (p_move ?_)
        refine g_n rfl rfl ?_
        refine g_n rfl rfl ?_
        refine g_n rfl rfl ?_
        refine l_cons rfl (p_pickf rfl ?_)
        refine l_cons rfl (p_assign ?_)
        refine l_nil ?_
        refine k_blk_normal ?_
        refine k_seq_normal ?_
        refine ⟨rfl, ?_⟩
        simp only [Knows, put, upd_apply, Nat.reduceEqDiff, ↓reduceIte, and_true, true_and, eq_self]
        exact congrArg AV.bool (by unfold right; first | (simp_all; done) | (simp_all; omega) | (simp_all <;> intros <;> omega))
      ·skip
       have h10' := h10; (try simp only [decide_eq_true_eq, decide_eq_false_iff_not, Bool.not_eq_true', Bool.not_false, Bool.not_true, Bool.not_eq_false'] at h10')
       refine w_seq ?_
       refine w_region ?_
       refine l_cons rfl (p_cmp ?_)
       refine l_cons rfl (p_assign ?_)
       refine l_nil ?_
       refine k_seq_normal ?_
       refine w_b (fun h14 => ?_) (fun h14 => ?_)
       ·skip
        have h14' := h14; (try simp only [decide_eq_true_eq, decide_eq_false_iff_not, Bool.not_eq_true', Bool.not_false, Bool.not_true, Bool.not_eq_false'] at h14')
        refine w_region ?_
        refine l_cons rfl (p_move ?_)
        refine l_cons rfl (p_move ?_)
        refine g_b rfl (fun h15 => ?_) (fun h15 => ?_)
        ·skip
         have h15' := h15; (try simp only [decide_eq_true_eq, decide_eq_false_iff_not, Bool.not_eq_true', Bool.not_false, Bool.not_true, Bool.not_eq_false'] at h15')
         refine (p_fap fa_29_2 ?_)
         refine g_y rfl h15 (p_loadp ty_27 ?_)
         first | refine g_y rfl h15 (p_lenl sl_27 ?_) | refine g_y rfl h15 (p_leno sl_27 ?_) | refine g_y rfl h15 (p_lenn sl_27 ?_)
         refine g_y rfl h15 (p_cmp ?_)
         refine l_cons rfl (p_pickt h15 ?_)
         refine l_cons rfl (p_move ?_)
         refine g_b rfl (fun h16 => ?_) (fun h16 => ?_)
         ·skip
          have h16' := h16; (try simp only [decide_eq_true_eq, decide_eq_false_iff_not, Bool.not_eq_true', Bool.not_false, Bool.not_true, Bool.not_eq_false'] at h16')
          refine (p_fap fa_29_2 ?_)
          refine g_y rfl h16 (p_loadp ty_27 ?_)
          refine g_y rfl h16 (p_buildList sl_48 ze_3 ?_)
          refine g_y rfl h16 (p_callr en_145 (bad_walk r.args [6, 1, 2]) ?_)
          refine g_y rfl h16 (p_not ?_)
          refine l_cons rfl (p_pickt h16 ?_)
          refine l_cons rfl (p_assign ?_)
          refine l_nil ?_
          refine k_blk_normal ?_
          refine k_seq_normal ?_
          refine ⟨rfl, ?_⟩
          simp only [Knows, put, upd_apply, Nat.reduceEqDiff, ↓reduceIte, and_true, true_and, eq_self]
          exact congrArg AV.bool (by unfold right; first | (simp_all; done) | (simp_all; omega) | (simp_all <;> intros <;> omega))
         ·skip
          have h16' := h16; (try simp only [decide_eq_true_eq, decide_eq_false_iff_not, Bool.not_eq_true', Bool.not_false, Bool.not_true, Bool.not_eq_false'] at h16')
          refine g_n rfl h16 ?_
          refine g_n rfl h16 ?_
          refine g_n rfl h16 ?_
          refine g_n rfl h16 ?_
          refine l_cons rfl (p_pickf h16 ?_)
          refine l_cons rfl (p_assign ?_)
          refine l_nil ?_
          refine k_blk_normal ?_
          refine k_seq_normal ?_
          refine ⟨rfl, ?_⟩
          simp only [Knows, put, upd_apply, Nat.reduceEqDiff, ↓reduceIte, and_true, true_and, eq_self]
          exact congrArg AV.bool (by unfold right; first | (simp_all; done) | (simp_all; omega) | (simp_all <;> intros <;> omega))
        ·skip
         have h15' := h15; (try simp only [decide_eq_true_eq, decide_eq_false_iff_not, Bool.not_eq_true', Bool.not_false, Bool.not_true, Bool.not_eq_false'] at h15')
         refine g_n rfl h15 ?_
         refine g_n rfl h15 ?_
         refine g_n rfl h15 ?_
         refine l_cons rfl (p_pickf h15 ?_)
         refine l_cons rfl (p_move ?_)
         refine g_n rfl rfl ?_
         refine g_n rfl rfl ?_
         refine g_n rfl rfl ?_
         refine g_n rfl rfl ?_
         refine g_n rfl rfl ?_
         refine l_cons rfl (p_pickf rfl ?_)
         refine l_cons rfl (p_assign ?_)
         refine l_nil ?_
         refine k_blk_normal ?_
         refine k_seq_normal ?_
         refine ⟨rfl, ?_⟩
         simp only [Knows, put, upd_apply, Nat.reduceEqDiff, ↓reduceIte, and_true, true_and, eq_self]
         exact congrArg AV.bool (by unfold right; first | (simp_all; done) | (simp_all; omega) | (simp_all <;> intros <;> omega))
       ·skip
        have h14' := h14; (try simp only [decide_eq_true_eq, decide_eq_false_iff_not, Bool.not_eq_true', Bool.not_false, Bool.not_true, Bool.not_eq_false'] at h14')
        refine w_skip ?_
        refine k_blk_normal ?_
        refine k_seq_normal ?_
        refine ⟨rfl, ?_⟩
        simp only [Knows, put, upd_apply, Nat.reduceEqDiff, ↓reduceIte, and_true, true_and, eq_self]
        exact congrArg AV.bool (by unfold right; first | (simp_all; done) | (simp_all; omega) | (simp_all <;> intros <;> omega))
 ·skip
  rintro f es' ⟨rfl, hk⟩
  refine w_pins _ (Sub.refl _) (hk) ?_
  simp only [pins]
  refine w_seq ?_
  refine w_region ?_
  refine l_cons rfl (p_move ?_)
  refine l_cons rfl (p_move ?_)
  refine g_b rfl (fun h17 => ?_) (fun h17 => ?_)
  ·skip
   have h17' := h17; (try simp only [decide_eq_true_eq, decide_eq_false_iff_not, Bool.not_eq_true', Bool.not_false, Bool.not_true, Bool.not_eq_false'] at h17')
   refine (p_fap fa_29_2 ?_)
   refine g_y rfl h17 (p_loadp ty_27 ?_)
   refine g_y rfl h17 (p_callr en_140 (containsFuncR (l1 := []) (l2 := []) (fun x => !x.plain) en_147 (fun x hx => plain1_walk x (fun es => ih (B - 1) (by have := r.nodes_pos; omega) x es (by have := nodes_mem_lt hx; omega) (ho.args x hx)))) ?_)
   refine g_y rfl h17 (p_not ?_)
   refine l_cons rfl (p_pickt h17 ?_)
   refine l_cons rfl (p_assign ?_)
   refine l_nil ?_
   refine k_seq_normal ?_
   refine w_ret ?_
   refine ret1b rfl ?_ <;> exact ex2 subx ⟨by rw [plain_of]; simp_all, rfl⟩
  ·skip
   have h17' := h17; (try simp only [decide_eq_true_eq, decide_eq_false_iff_not, Bool.not_eq_true', Bool.not_false, Bool.not_true, Bool.not_eq_false'] at h17')
   refine g_n rfl h17 ?_
   refine g_n rfl h17 ?_
   refine g_n rfl h17 ?_
   refine l_cons rfl (p_pickf h17 ?_)
   refine l_cons rfl (p_assign ?_)
   refine l_nil ?_
   refine k_seq_normal ?_
   refine w_ret ?_
   refine ret1b rfl ?_ <;> exact ex2 subx ⟨by rw [plain_of]; simp_all, rfl⟩
theorem rxMay {w0 : World} (hT : Tab w0) {es : List Ent} (r : Rx) (hn : r.nodes ≤ 1048576) (ho : r.ok) : ACalls Tryd.prog w0 71 [.agg r.cells] es fun v es' => v = .int .i64 (mayR r) ∧ es' = es := by
 refine calls1 (N := 15) Tryd.func71 rfl rfl (by decide) ?_
 refine w_seq ?_
 refine w_region ?_
 refine l_cons rfl (p_box fun s1 => ?_)
 refine l_cons rfl (p_assign ?_)
 refine l_nil ?_
 refine k_seq_normal ?_
 refine w_seq ?_
 refine w_block ?_
 refine w_seq ?_
 refine w_region ?_
 refine l_cons rfl (p_loadp ty_29 ?_)
 refine l_cons rfl (p_callr en_108 (rxNodes _ r _ (Nat.le_refl _) hn) ?_)
 refine l_cons rfl (p_cmp ?_)
 refine l_cons rfl (p_assign ?_)
 refine l_nil ?_
 refine k_seq_normal ?_
 refine w_b (fun h1 => ?_) (fun h1 => ?_)
 ·skip
  have h1' := h1; (try simp only [decide_eq_true_eq, decide_eq_false_iff_not, Bool.not_eq_true', Bool.not_false, Bool.not_true, Bool.not_eq_false'] at h1')
  refine w_seq ?_
  refine w_region ?_
  refine l_cons rfl (p_assign ?_)
  refine l_nil ?_
  refine k_seq_normal ?_
  refine w_ret ?_
  refine k_blk_ret ?_
  refine k_seq_ret ?_
  refine ret1b rfl ?_ <;> exact ex2 subx ⟨by unfold mayR; rw [if_pos (by omega)], rfl⟩
 ·skip
  have h1' := h1; (try simp only [decide_eq_true_eq, decide_eq_false_iff_not, Bool.not_eq_true', Bool.not_false, Bool.not_true, Bool.not_eq_false'] at h1')
  refine w_seq ?_
  refine w_region ?_
  refine l_cons rfl (p_loadp ty_29 ?_)
  refine l_cons rfl (p_callr en_109 (rxDepth _ r _ (Nat.le_refl _) hn) ?_)
  refine l_cons rfl (p_cmp ?_)
  refine l_cons rfl (p_assign ?_)
  refine l_nil ?_
  refine k_seq_normal ?_
  refine w_b (fun h2 => ?_) (fun h2 => ?_)
  ·skip
   have h2' := h2; (try simp only [decide_eq_true_eq, decide_eq_false_iff_not, Bool.not_eq_true', Bool.not_false, Bool.not_true, Bool.not_eq_false'] at h2')
   refine w_seq ?_
   refine w_region ?_
   refine l_cons rfl (p_assign ?_)
   refine l_nil ?_
   refine k_seq_normal ?_
   refine w_ret ?_
   refine k_blk_ret ?_
   refine k_seq_ret ?_
   refine ret1b rfl ?_ <;> exact ex2 subx ⟨by unfold mayR; rw [if_neg (by omega), if_pos (by omega)], rfl⟩
  ·skip
   have h2' := h2; (try simp only [decide_eq_true_eq, decide_eq_false_iff_not, Bool.not_eq_true', Bool.not_false, Bool.not_true, Bool.not_eq_false'] at h2')
   refine w_seq ?_
   refine w_region ?_
   refine l_cons rfl (p_loadp ty_29 ?_)
   refine l_cons rfl (p_callr en_110 (rxPlain hT _ r _ (Nat.le_refl _) ho) ?_)
   refine l_cons rfl (p_not ?_)
   refine l_cons rfl (p_assign ?_)
   refine l_nil ?_
   refine k_seq_normal ?_
   refine w_b (fun h3 => ?_) (fun h3 => ?_)
   ·skip
    have h3' := h3; (try simp only [decide_eq_true_eq, decide_eq_false_iff_not, Bool.not_eq_true', Bool.not_false, Bool.not_true, Bool.not_eq_false'] at h3')
    refine w_seq ?_
    refine w_region ?_
    refine l_cons rfl (p_assign ?_)
    refine l_nil ?_
    refine k_seq_normal ?_
    refine w_ret ?_
    refine k_blk_ret ?_
    refine k_seq_ret ?_
    refine ret1b rfl ?_ <;> exact ex2 subx ⟨by unfold mayR; rw [if_neg (by omega), if_neg (by omega), if_neg (by simp_all)], rfl⟩
   ·skip
    have h3' := h3; (try simp only [decide_eq_true_eq, decide_eq_false_iff_not, Bool.not_eq_true', Bool.not_false, Bool.not_true, Bool.not_eq_false'] at h3')
    refine w_skip ?_
    refine k_blk_normal ?_
    refine k_seq_normal ?_
    refine w_seq ?_
    refine w_region ?_
    refine l_cons rfl (p_assign ?_)
    refine l_nil ?_
    refine k_seq_normal ?_
    refine w_ret ?_
    refine ret1b rfl ?_ <;> exact ex2 subx ⟨by unfold mayR; rw [if_neg (by omega), if_neg (by omega), if_pos (by simp_all)], rfl⟩
end Go.Proofs.YtfdgbghlanbddaaDoor.Av
set_option linter.unusedVariables false
set_option linter.unusedSimpArgs false
set_option maxRecDepth 8000
namespace Go.Proofs.YtfdgbghlanbddaaDoor.Av
open Go.RowKit Go.Proofs
theorem ACalls.weak {P : Program} {w0 : World} {fid : FuncId} {args : List AV} {es : List Ent} {a b : AV} (hw : ∀ (c : Core) (m : Option (List Ent)) (v : Value), Rep c m a v → Rep c m b v) (h : ACalls P w0 fid args es fun v es' => v = a ∧ es' = es) : ACalls P w0 fid args es fun v es' => v = b ∧ es' = es := by
 intro c vs ok rs
 refine (h c vs ok rs).mono fun e w' => ?_
 rintro ⟨v, c', es', r, h1, h2, h3, h4, h5, rfl, rfl⟩
 exact ⟨v, c', _, b, h1, h2, h3, h4, hw _ _ _ h5, rfl, rfl⟩
theorem rep_aggNil (sz : Nat) {c : Core} {m : Option (List Ent)} {l : List AV} {v : Value} (h : Rep c m (.agg l) v) : Rep c m (.agg (l.map (nilTo sz))) v := by
 simp only [Rep] at h ⊢
 obtain ⟨cs, e, h1, h2⟩ := h
 exact ⟨cs, e, reps_nilTo sz h1, h2⟩
theorem take_map_succ {α β : Type} {f : α → β} {l : List α} {k : Nat} (h : k < l.length) : (l.take (k + 1)).map f = (l.take k).map f ++ [f l[k]] := by
 rw [List.take_add_one, List.getElem?_eq_getElem h, List.map_append]; rfl
theorem cleans_cells (r : Rx) : cleans r.cells = true := by rw [Rx.cells_eq]; rfl
theorem cleans_rx (l : List Rx) : (l.map Rx.cells).all cleans = true := by
 rw [List.all_eq_true]
 intro x hx
 obtain ⟨r, _, rfl⟩ := List.mem_map.1 hx
 exact cleans_cells r
theorem args_load (r : Rx) : loadAV false 1 r.cells 5 = .list 6 (r.args.map Rx.cells) := by rw [Rx.cells_eq]; rfl
theorem flat_append (k : Int) (l m : List Rx) : flatR k (l ++ m) = flatR k l ++ flatR k m := by
 induction l with
 | nil => rfl
 | cons a t ih => simp only [List.cons_append, flatR, ih, List.append_assoc]
theorem flat_nodes (k : Int) : ∀ l : List Rx, Rx.nodesL (flatR k l) ≤ Rx.nodesL l
 | [] => by simp [flatR]
 | r :: t => by
  have ih := flat_nodes k t
  have happ : ∀ a b : List Rx, Rx.nodesL (a ++ b) = Rx.nodesL a + Rx.nodesL b := by
   intro a b
   induction a with
   | nil => simp [Rx.nodesL]
   | cons x y ih => simp only [List.cons_append, Rx.nodesL, ih]; omega
  simp only [flatR, happ, Rx.nodesL]
  have := r.nodes_eq
  split
  ·omega
  ·simp only [Rx.nodesL]; omega
theorem flat_take_nodes (k : Int) (l : List Rx) (j : Nat) : Rx.nodesL (flatR k (l.take j)) ≤ Rx.nodesL (l.take j) := flat_nodes k _
theorem flat_take_yes {kd : Int} {l : List Rx} {k : Nat} (h : k < l.length) (hk : (l[k]).kind = kd) : (flatR kd (l.take (k + 1))).map Rx.cells = (flatR kd (l.take k)).map Rx.cells ++ (l[k]).args.map Rx.cells := by
 rw [List.take_add_one, List.getElem?_eq_getElem h, flat_append, List.map_append]
 simp only [Option.toList_some, flatR, if_pos hk, List.append_nil]
theorem flat_take_no {kd : Int} {l : List Rx} {k : Nat} (h : k < l.length) (hk : ¬ (l[k]).kind = kd) : (flatR kd (l.take (k + 1))).map Rx.cells = (flatR kd (l.take k)).map Rx.cells ++ [(l[k]).cells] := by
 rw [List.take_add_one, List.getElem?_eq_getElem h, flat_append, List.map_append]
 simp only [Option.toList_some, flatR, if_neg hk, List.append_nil, List.map_cons, List.map_nil]
theorem none0_walk {w0 : World} {es : List Ent} : ACalls Tryd.prog w0 84 [] es fun v es' => v = .agg [.int .i64 1, .int .u64 0, .int .u64 0, .int .u64 0, .int .u64 0, .nil] ∧ es' = es := by
 refine calls0 (N := 2) Tryd.func84 rfl rfl ?_
 refine w_seq ?_
 refine w_region ?_
 refine l_cons rfl (p_alloc ze_29 fun s0 => ?_)
 refine l_nil ?_
 refine k_seq_normal ?_
 refine w_seq ?_
 refine w_region ?_
 refine l_cons rfl (p_build ze_29 pl_29 ?_)
 refine l_cons rfl (p_store ty_29 ?_)
 refine l_nil ?_
 refine k_seq_normal ?_
 refine w_ret ?_
 exact retc rfl ty_29 (by first | exact Sub.refl _ | exact sub1 _ _ | exact sub2 _ _ _ | exact sub3 _ _ _ _ | exact sub4 _ _ _ _ _ | exact sub5 _ _ _ _ _ _) ⟨rfl, rfl⟩
theorem empty0_walk {w0 : World} {es : List Ent} : ACalls Tryd.prog w0 85 [] es fun v es' => v = .agg [.int .i64 2, .int .u64 0, .int .u64 0, .int .u64 0, .int .u64 0, .nil] ∧ es' = es := by
 refine calls0 (N := 2) Tryd.func85 rfl rfl ?_
 refine w_seq ?_
 refine w_region ?_
 refine l_cons rfl (p_alloc ze_29 fun s0 => ?_)
 refine l_nil ?_
 refine k_seq_normal ?_
 refine w_seq ?_
 refine w_region ?_
 refine l_cons rfl (p_build ze_29 pl_29 ?_)
 refine l_cons rfl (p_store ty_29 ?_)
 refine l_nil ?_
 refine k_seq_normal ?_
 refine w_ret ?_
 exact retc rfl ty_29 (by first | exact Sub.refl _ | exact sub1 _ _ | exact sub2 _ _ _ | exact sub3 _ _ _ _ | exact sub4 _ _ _ _ _ | exact sub5 _ _ _ _ _ _) ⟨rfl, rfl⟩
theorem bytes0_walk {w0 : World} {es : List Ent} (s : W4) : ACalls Tryd.prog w0 67 [.agg s.row] es fun v es' => v = .agg (if s = noSet then [.int .i64 1, .int .u64 0, .int .u64 0, .int .u64 0, .int .u64 0, .nil] else [.int .i64 3, .int .u64 s.w0, .int .u64 s.w1, .int .u64 s.w2, .int .u64 s.w3, .nil]) ∧ es' = es := by
 unfold W4.row
 refine calls1 (N := 9) Tryd.func67 rfl rfl (by decide) ?_
 refine w_seq ?_
 refine w_region ?_
 refine l_cons rfl (p_box fun s1 => ?_)
 refine l_cons rfl (p_alloc ze_29 fun s2 => ?_)
 refine l_nil ?_
 refine k_seq_normal ?_
 refine w_seq ?_
 refine w_seq ?_
 refine w_region ?_
 refine l_cons rfl (p_loadp ty_26 ?_)
 refine l_cons rfl (p_buildArr ze_26 ar_26 ?_)
 refine l_cons rfl (p_eqa ai_26 ?_ (hb := eqA s noSet))
 refine l_nil ?_
 refine k_seq_normal ?_
 refine w_b (fun h1 => ?_) (fun h1 => ?_)
 ·skip
  have h1' := h1; (try simp only [decide_eq_true_eq, decide_eq_false_iff_not, Bool.not_eq_true', Bool.not_false, Bool.not_true, Bool.not_eq_false'] at h1')
  refine w_seq ?_
  refine w_region ?_
  refine l_cons rfl (p_callr en_84 (none0_walk) ?_)
  refine l_cons rfl (p_store ty_29 ?_)
  refine l_nil ?_
  refine k_seq_normal ?_
  refine w_ret ?_
  refine k_seq_ret ?_
  exact retc rfl ty_29 (by first | exact Sub.refl _ | exact sub1 _ _ | exact sub2 _ _ _ | exact sub3 _ _ _ _ | exact sub4 _ _ _ _ _ | exact sub5 _ _ _ _ _ _) ⟨by rw [if_pos h1'], rfl⟩
 ·skip
  have h1' := h1; (try simp only [decide_eq_true_eq, decide_eq_false_iff_not, Bool.not_eq_true', Bool.not_false, Bool.not_true, Bool.not_eq_false'] at h1')
  refine w_skip ?_
  refine k_seq_normal ?_
  refine w_seq ?_
  refine w_region ?_
  refine l_cons rfl (p_loadp ty_26 ?_)
  refine l_cons rfl (p_build ze_29 pl_29 ?_)
  refine l_cons rfl (p_store ty_29 ?_)
  refine l_nil ?_
  refine k_seq_normal ?_
  refine w_ret ?_
  exact retc rfl ty_29 (by first | exact Sub.refl _ | exact sub1 _ _ | exact sub2 _ _ _ | exact sub3 _ _ _ _ | exact sub4 _ _ _ _ _ | exact sub5 _ _ _ _ _ _) ⟨by rw [if_neg h1'], rfl⟩
theorem refNone {w0 : World} {es : List Ent} : ACalls Tryd.prog w0 84 [] es fun v es' => v = .agg noneR.cells ∧ es' = es := ACalls.weak (fun _ _ _ h => rep_aggNil 6 (l := [.int .i64 1, .int .u64 0, .int .u64 0, .int .u64 0, .int .u64 0, .nil]) h) none0_walk
theorem refEmpty {w0 : World} {es : List Ent} : ACalls Tryd.prog w0 85 [] es fun v es' => v = .agg emptyR.cells ∧ es' = es := ACalls.weak (fun _ _ _ h => rep_aggNil 6 (l := [.int .i64 2, .int .u64 0, .int .u64 0, .int .u64 0, .int .u64 0, .nil]) h) empty0_walk
theorem refBytes {w0 : World} {es : List Ent} (s : W4) : ACalls Tryd.prog w0 67 [.agg s.row] es fun v es' => v = .agg (bytesR s).cells ∧ es' = es := by
 refine ACalls.weak (fun _ _ _ h => ?_) (bytes0_walk s)
 have h2 := rep_aggNil 6 h
 unfold bytesR
 by_cases hs : s = noSet
 ·rw [if_pos hs] at h2 ⊢; exact h2
 ·rw [if_neg hs] at h2 ⊢; exact h2
theorem refCopy {w0 : World} : ∀ (B : Nat) (r : Rx) (es : List Ent), r.nodes ≤ B → B ≤ 1048576 → ACalls Tryd.prog w0 63 [.agg r.cells] es fun v es' => v = .agg r.cells ∧ es' = es := by
 intro B
 induction B using Nat.strongRecOn with
 | _ B ih => ?_
 intro r es hB hB2
 rw [Rx.cells_eq r]
 have hne := r.nodes_eq
 have hal := Rx.len_le r.args
 refine calls1 (N := 24) Tryd.func63 rfl rfl (by decide) ?_
 refine w_seq ?_
 refine w_region ?_
 refine l_cons rfl (p_box fun s1 => ?_)
 refine l_cons rfl (p_alloc ze_29 fun s2 => ?_)
 refine l_nil ?_
 refine k_seq_normal ?_
 refine w_seq ?_
 refine w_region ?_
 refine l_cons rfl (p_assign ?_)
 refine l_nil ?_
 refine k_seq_normal ?_
 refine w_seq ?_
 refine w_seq ?_
 refine w_adopt 3 29 6 rfl fun s3 => ?_
 simp only [upd_upd]
 refine w_region ?_
 refine l_cons rfl (p_assign ?_)
 refine l_nil ?_
 refine k_seq_normal ?_
 refine w_block ?_
 refine w_loop (fun m f es' => ∃ k s3, m = r.args.length - k ∧ k ≤ r.args.length ∧ es' = .row s3 29 6 ((r.args.take k).map Rx.cells) :: .row s2 29 6 [[.int .i64 0, .int .u64 0, .int .u64 0, .int .u64 0, .int .u64 0, .nil]] :: .row s1 29 6 [[.int .i64 r.kind, .int .u64 r.set.w0, .int .u64 r.set.w1, .int .u64 r.set.w2, .int .u64 r.set.w3, .list 6 (r.args.map Rx.cells)]] :: es ∧ Knows f [(1, .ptr es.length s1 0 0), (2, .ptr (es.length + 1) s2 0 0), (3, .own (es.length + 2) s3), (4, .int .i64 k)]) (r.args.length) (⟨0, s3, rfl, Nat.zero_le _, rfl, by simp only [Knows, put, upd_apply, Nat.reduceEqDiff, ↓reduceIte, and_true, true_and, eq_self] <;> and_intros <;> rfl⟩) ?_
 rintro m f es' ⟨k, s3, rfl, hk1, rfl, hk⟩
 refine w_pins _ (Sub.refl _) (hk) ?_
 simp only [pins]
 refine w_seq ?_
 refine w_seq ?_
 refine w_region ?_
 refine l_cons rfl (p_move ?_)
 refine l_cons rfl (p_fap fa_29_2 ?_)
 refine l_cons rfl (p_loadp ty_27 ?_)
 first | refine l_cons rfl (p_lenl sl_27 ?_) | refine l_cons rfl (p_leno sl_27 ?_) | refine l_cons rfl (p_lenn sl_27 ?_)
 refine l_cons rfl (p_cmp ?_)
 refine l_nil ?_
 refine k_seq_normal ?_
 refine w_b (fun h1 => ?_) (fun h1 => ?_)
 ·skip
  have h1' := h1; (try simp only [decide_eq_true_eq, decide_eq_false_iff_not, Bool.not_eq_true', Bool.not_false, Bool.not_true, Bool.not_eq_false'] at h1')
  refine w_skip ?_
  refine k_seq_normal ?_
  refine w_seq ?_
  refine w_block ?_
  refine w_region ?_
  refine l_cons rfl (p_move ?_)
  refine l_cons rfl (p_fap fa_29_2 ?_)
  refine l_cons rfl (p_loadp ty_27 ?_)
  refine l_cons rfl (p_move ?_)
  first | refine l_cons rfl (p_ixl sl_27 ?_) | refine l_cons rfl (p_ixo sl_27 ?_)
  first | refine l_cons rfl (p_loadf ty_29 ?_) | refine l_cons rfl (p_loadp ty_29 ?_)
  refine l_cons rfl (p_callr en_63 (ih (B - 1) (by omega) (r.args[k]'(by omega)) _ (by have := r.nodes_arg (k := k) (by omega); omega) (by omega)) ?_)
  refine l_cons rfl (p_buildList sl_27 ze_29 ?_)
  refine l_cons rfl (p_append sl_27 by_29 ze_29 (fun s20 => ?_) (hb := by simp only [List.length_map, List.length_take, List.length_append, List.length_cons, List.length_nil, most]; omega))
  refine l_cons rfl (p_assign ?_)
  refine l_nil ?_
  refine k_blk_normal ?_
  refine k_seq_normal ?_
  refine w_region ?_
  refine l_cons rfl (p_move ?_)
  refine l_cons rfl (p_arith ?_)
  refine l_cons rfl (p_assign ?_)
  refine l_nil ?_
  refine k_seq_normal ?_
  exact ⟨r.args.length - (k + 1), by omega, k + 1, s20, rfl, by omega, by rw [take_map_succ (by omega)]; rfl, by simp only [Knows, put, upd_apply, Nat.reduceEqDiff, ↓reduceIte, and_true, true_and, eq_self] <;> and_intros <;> rfl⟩
 ·skip
  have h1' := h1; (try simp only [decide_eq_true_eq, decide_eq_false_iff_not, Bool.not_eq_true', Bool.not_false, Bool.not_true, Bool.not_eq_false'] at h1')
  refine w_exit ?_
  refine k_seq_exit ?_
  refine k_seq_exit ?_
  refine k_blk_here ?_
  refine k_seq_normal ?_
  refine w_seq ?_
  refine w_freezeTop 3 ?_ (hclean := cleans_rx _)
  rw [show k = r.args.length by omega, List.take_length]
  refine w_region ?_
  refine l_cons rfl (p_move ?_)
  refine l_cons rfl (p_fap fa_29_2 ?_)
  refine l_cons rfl (p_store ty_27 ?_)
  refine l_nil ?_
  refine k_seq_normal ?_
  refine w_seq ?_
  refine w_region ?_
  refine l_cons rfl (p_loadp ty_29 ?_)
  refine l_cons rfl (p_store ty_29 ?_)
  refine l_nil ?_
  refine k_seq_normal ?_
  refine w_ret ?_
  exact retc rfl ty_29 (by first | exact Sub.refl _ | exact sub1 _ _ | exact sub2 _ _ _ | exact sub3 _ _ _ _ | exact sub4 _ _ _ _ _ | exact sub5 _ _ _ _ _ _) ⟨rfl, rfl⟩
theorem refFlat {w0 : World} {es : List Ent} (kd : Int) (l : List Rx) (hn : Rx.nodesL l ≤ 1048576) : ACalls Tryd.prog w0 83 [.int .i64 kd, .list 6 (l.map Rx.cells)] es fun v es' => v = .list 6 ((flatR kd l).map Rx.cells) ∧ es' = es := by
 refine calls2 (N := 35) Tryd.func83 rfl rfl (by decide) ?_
 refine w_seq ?_
 refine w_region ?_
 refine l_cons rfl (p_assign ?_)
 refine l_nil ?_
 refine k_seq_normal ?_
 refine w_seq ?_
 have hal := Rx.len_le l
 refine w_region ?_
 refine l_cons rfl (p_assign ?_)
 refine l_nil ?_
 refine k_seq_normal ?_
 refine w_seq ?_
 refine w_seq ?_
 refine w_adopt 5 29 6 rfl fun s5 => ?_
 simp only [upd_upd]
 refine w_region ?_
 refine l_cons rfl (p_assign ?_)
 refine l_nil ?_
 refine k_seq_normal ?_
 refine w_block ?_
 refine w_loop (fun m f es' => ∃ k s5, m = l.length - k ∧ k ≤ l.length ∧ es' = .row s5 29 6 ((flatR kd (l.take k)).map Rx.cells) :: es ∧ Knows f [(0, .int .i64 kd), (1, .list 6 (l.map Rx.cells)), (5, .own es.length s5), (6, .int .i64 k)]) (l.length) (⟨0, s5, rfl, Nat.zero_le _, rfl, by simp only [Knows, put, upd_apply, Nat.reduceEqDiff, ↓reduceIte, and_true, true_and, eq_self] <;> and_intros <;> rfl⟩) ?_
 rintro m f es' ⟨k, s5, rfl, hk1, rfl, hk⟩
 refine w_pins _ (Sub.refl _) (hk) ?_
 simp only [pins]
 refine w_seq ?_
 refine w_seq ?_
 refine w_region ?_
 refine l_cons rfl (p_move ?_)
 refine l_cons rfl (p_move ?_)
 refine l_cons rfl (p_lenl sl_27 ?_)
 refine l_cons rfl (p_cmp ?_)
 refine l_nil ?_
 refine k_seq_normal ?_
 refine w_b (fun h1 => ?_) (fun h1 => ?_)
 ·skip
  have h1' := h1; (try simp only [decide_eq_true_eq, decide_eq_false_iff_not, Bool.not_eq_true', Bool.not_false, Bool.not_true, Bool.not_eq_false'] at h1')
  refine w_skip ?_
  refine k_seq_normal ?_
  refine w_seq ?_
  refine w_block ?_
  refine w_seq ?_
  have hx1 := flat_take_nodes kd l k
  have hx2 := Rx.nodesL_take l k (by omega)
  have hx3 := Rx.nodesL_le l (k + 1)
  have hx4 := Rx.len_le (flatR kd (l.take k))
  have hx5 := (l[k]'(by omega)).nodes_eq
  have hx6 := Rx.len_le (l[k]'(by omega)).args
  refine w_region ?_
  refine l_cons rfl (p_move ?_)
  refine l_cons rfl (p_move ?_)
  refine l_cons rfl (p_ixl sl_27 ?_)
  refine l_cons rfl (p_faf fa_29_0 ?_)
  refine l_cons rfl (p_loadf ty_3 ?_)
  refine l_cons rfl (p_move ?_)
  refine l_cons rfl (p_cmp ?_)
  refine l_nil ?_
  refine k_seq_normal ?_
  refine w_b (fun h2 => ?_) (fun h2 => ?_)
  ·skip
   have h2' := h2; (try simp only [decide_eq_true_eq, decide_eq_false_iff_not, Bool.not_eq_true', Bool.not_false, Bool.not_true, Bool.not_eq_false'] at h2')
   refine w_region ?_
   refine l_cons rfl (p_move ?_)
   refine l_cons rfl (p_move ?_)
   refine l_cons rfl (p_move ?_)
   refine l_cons rfl (p_ixl sl_27 ?_)
   refine l_cons rfl (p_faf fa_29_2 ?_)
   refine l_cons rfl (p_loadf ty_27 (a := .list 6 ((l[k]'(by omega)).args.map Rx.cells)) ?_ (ha := args_load _))
   refine l_cons rfl (p_append sl_27 by_29 ze_29 (fun s26 => ?_) (hb := by simp only [List.length_map, List.length_take, List.length_append, List.length_cons, List.length_nil, most]; omega))
   refine l_cons rfl (p_assign ?_)
   refine l_nil ?_
   refine k_blk_normal ?_
   refine k_seq_normal ?_
   refine w_region ?_
   refine l_cons rfl (p_move ?_)
   refine l_cons rfl (p_arith ?_)
   refine l_cons rfl (p_assign ?_)
   refine l_nil ?_
   refine k_seq_normal ?_
   first
   | exact ⟨l.length - (k + 1), by omega, k + 1, s26, rfl, by omega, by rw [flat_take_yes (by omega) h2'] <;> rfl, by simp only [Knows, put, upd_apply, Nat.reduceEqDiff, ↓reduceIte, and_true, true_and, eq_self] <;> and_intros <;> rfl⟩
   | exact ⟨l.length - (k + 1), by omega, k + 1, s33, rfl, by omega, by rw [flat_take_no (by omega) h2'] <;> rfl, by simp only [Knows, put, upd_apply, Nat.reduceEqDiff, ↓reduceIte, and_true, true_and, eq_self] <;> and_intros <;> rfl⟩
  ·skip
   have h2' := h2; (try simp only [decide_eq_true_eq, decide_eq_false_iff_not, Bool.not_eq_true', Bool.not_false, Bool.not_true, Bool.not_eq_false'] at h2')
   refine w_region ?_
   refine l_cons rfl (p_move ?_)
   refine l_cons rfl (p_move ?_)
   refine l_cons rfl (p_move ?_)
   refine l_cons rfl (p_ixl sl_27 ?_)
   refine l_cons rfl (p_loadf ty_29 ?_)
   refine l_cons rfl (p_buildList sl_27 ze_29 ?_)
   refine l_cons rfl (p_append sl_27 by_29 ze_29 (fun s33 => ?_) (hb := by simp only [List.length_map, List.length_take, List.length_append, List.length_cons, List.length_nil, most]; omega))
   refine l_cons rfl (p_assign ?_)
   refine l_nil ?_
   refine k_blk_normal ?_
   refine k_seq_normal ?_
   refine w_region ?_
   refine l_cons rfl (p_move ?_)
   refine l_cons rfl (p_arith ?_)
   refine l_cons rfl (p_assign ?_)
   refine l_nil ?_
   refine k_seq_normal ?_
   first
   | exact ⟨l.length - (k + 1), by omega, k + 1, s26, rfl, by omega, by rw [flat_take_yes (by omega) h2'] <;> rfl, by simp only [Knows, put, upd_apply, Nat.reduceEqDiff, ↓reduceIte, and_true, true_and, eq_self] <;> and_intros <;> rfl⟩
   | exact ⟨l.length - (k + 1), by omega, k + 1, s33, rfl, by omega, by rw [flat_take_no (by omega) h2'] <;> rfl, by simp only [Knows, put, upd_apply, Nat.reduceEqDiff, ↓reduceIte, and_true, true_and, eq_self] <;> and_intros <;> rfl⟩
 ·skip
  have h1' := h1; (try simp only [decide_eq_true_eq, decide_eq_false_iff_not, Bool.not_eq_true', Bool.not_false, Bool.not_true, Bool.not_eq_false'] at h1')
  refine w_exit ?_
  refine k_seq_exit ?_
  refine k_seq_exit ?_
  refine k_blk_here ?_
  refine k_seq_normal ?_
  refine w_seq ?_
  refine w_freezeTop 5 ?_ (hclean := cleans_rx _)
  rw [show k = l.length by omega, List.take_length]
  refine w_region ?_
  refine l_cons rfl (p_move ?_)
  refine l_cons rfl (p_assign ?_)
  refine l_nil ?_
  refine k_seq_normal ?_
  refine w_ret ?_
  refine ret1b rfl ?_ <;> exact ex2 subx ⟨rfl, rfl⟩
end Go.Proofs.YtfdgbghlanbddaaDoor.Av
set_option linter.unusedVariables false
set_option linter.unusedSimpArgs false
namespace Go.Proofs.YtfdgbghlanbddaaDoor.Av
/-! ### sets, byte by byte -/
def listTo (s : W4) (k : Nat) : List Int := ((List.range k).filter s.has).map Int.ofNat
def listW (s : W4) : List Int := listTo s 256
def W4.setWd (s : W4) (q : Nat) (v : Int) : W4 := if q = 0 then { s with w0 := v } else if q = 1 then { s with w1 := v } else if q = 2 then { s with w2 := v } else { s with w3 := v }
def W4.add (s : W4) (b : Int) : W4 := s.setWd (b / 64).toNat (orI (s.wd (b / 64).toNat) (2 ^ (b % 64).toNat))
def ofW (l : List Int) : W4 := l.foldl W4.add noSet
theorem listTo_succ (s : W4) (k : Nat) : listTo s (k + 1) = listTo s k ++ (if s.has k = true then [(k : Int)] else []) := by
 unfold listTo
 rw [List.range_succ, List.filter_append, List.map_append]
 by_cases h : s.has k = true
 ·rw [if_pos h, List.filter_cons_of_pos (by simpa using h)]; rfl
 ·rw [if_neg h, List.filter_cons_of_neg (by simpa using h)]; rfl
theorem listTo_len (s : W4) (k : Nat) : (listTo s k).length ≤ k := by
 unfold listTo
 rw [List.length_map]
 have := List.length_filter_le s.has (List.range k)
 simpa using this
theorem listW_mem {s : W4} {n : Int} : n ∈ listW s ↔ ∃ i : Nat, n = i ∧ i < 256 ∧ s.has i = true := by
 unfold listW listTo
 simp only [List.mem_map, List.mem_filter, List.mem_range]
 constructor
 ·rintro ⟨i, ⟨h1, h2⟩, rfl⟩; exact ⟨i, rfl, h1, h2⟩
 ·rintro ⟨i, rfl, h1, h2⟩; exact ⟨i, ⟨h1, h2⟩, rfl⟩
theorem setWd_wd (s : W4) {q q' : Nat} (v : Int) (hq : q < 4) (hq' : q' < 4) : (s.setWd q v).wd q' = if q' = q then v else s.wd q' := by
 have h1 : q = 0 ∨ q = 1 ∨ q = 2 ∨ q = 3 := by omega
 have h2 : q' = 0 ∨ q' = 1 ∨ q' = 2 ∨ q' = 3 := by omega
 rcases h1 with rfl | rfl | rfl | rfl <;> rcases h2 with rfl | rfl | rfl | rfl <;> simp [W4.setWd, W4.wd]
theorem setWd_ok {s : W4} (h : s.ok) (q : Nat) {v : Int} (hv : 0 ≤ v ∧ v < 18446744073709551616) : (s.setWd q v).ok := by
 unfold W4.ok at *
 unfold W4.setWd
 split
 ·simp only; omega
 ·split
  ·simp only; omega
  ·split <;> simp only <;> omega
theorem two_lt {n : Nat} (h : n < 64) : (0 : Int) ≤ 2 ^ n ∧ (2 : Int) ^ n < 18446744073709551616 := by
 have e : ((2 : Int) ^ n) = ((2 ^ n : Nat) : Int) := by simp
 have : (2 : Nat) ^ n < 2 ^ 64 := Nat.pow_lt_pow_right (by omega) h
 rw [e]
 generalize (2 : Nat) ^ n = m at this
 omega
theorem add_ok {s : W4} (h : s.ok) {b : Int} (h0 : 0 ≤ b) (h1 : b < 256) : (s.add b).ok := by
 unfold W4.add
 exact setWd_ok h _ (or_lt (W4.wd_ok h _).2 (two_lt (by omega)).2)
theorem add_has {s : W4} (h : s.ok) {b : Int} (h0 : 0 ≤ b) (h1 : b < 256) {i : Nat} (hi : i < 256) : (s.add b).has i = (s.has i || decide ((i : Int) = b)) := by
 rw [W4.has_eq (add_ok h h0 h1) hi, W4.has_eq h hi]
 unfold W4.add
 rw [setWd_wd s _ (by omega) (by omega)]
 by_cases hq : i / 64 = (b / 64).toNat
 ·rw [if_pos hq, ← hq]
  unfold orI
  rw [Int.toNat_natCast, Nat.testBit_or]
  congr 1
  have e : ((2 : Int) ^ (b % 64).toNat).toNat = 2 ^ (b % 64).toNat := by
   have e : ((2 : Int) ^ (b % 64).toNat) = ((2 ^ (b % 64).toNat : Nat) : Int) := by simp
   rw [e, Int.toNat_natCast]
  rw [e, Nat.testBit_two_pow, decide_eq_decide]
  omega
 ·rw [if_neg hq, show decide ((i : Int) = b) = false from decide_eq_false (by omega)]
  simp
theorem ofW_from : ∀ {l : List Int} {s : W4}, s.ok → (∀ b ∈ l, 0 ≤ b ∧ b < 256) → (l.foldl W4.add s).ok ∧ ∀ i : Nat, i < 256 → (l.foldl W4.add s).has i = (s.has i || decide ((i : Int) ∈ l))
 | [], s, h, _ => ⟨h, fun i _ => by simp⟩
 | b :: t, s, h, hl => by
  have hb := hl b (by simp)
  obtain ⟨h1, h2⟩ := ofW_from (l := t) (add_ok h hb.1 hb.2) (fun x hx => hl x (by simp [hx]))
  refine ⟨h1, fun i hi => ?_⟩
  show (t.foldl W4.add (s.add b)).has i = _
  rw [h2 i hi, add_has h hb.1 hb.2 hi, Bool.or_assoc]
  congr 1
  rw [Bool.eq_iff_iff]
  simp
theorem noSet_has {i : Nat} (hi : i < 256) : noSet.has i = false := by
 rw [W4.has_eq noSet_ok hi]
 simp [noSet, W4.wd]
theorem ofW_ok {l : List Int} (h : ∀ b ∈ l, 0 ≤ b ∧ b < 256) : (ofW l).ok := (ofW_from noSet_ok h).1
theorem ofW_has {l : List Int} (h : ∀ b ∈ l, 0 ≤ b ∧ b < 256) {i : Nat} (hi : i < 256) : (ofW l).has i = decide ((i : Int) ∈ l) := by
 unfold ofW
 rw [(ofW_from noSet_ok h).2 i hi, noSet_has hi, Bool.false_or]
theorem or_has {a b : W4} (ha : a.ok) (hb : b.ok) {i : Nat} (hi : i < 256) : (a.or b).has i = (a.has i || b.has i) := by
 rw [W4.has_eq (or_ok ha hb) hi, W4.has_eq ha hi, W4.has_eq hb hi, ← Nat.testBit_or]
 congr 1
 have h4 : i / 64 = 0 ∨ i / 64 = 1 ∨ i / 64 = 2 ∨ i / 64 = 3 := by omega
 rcases h4 with h | h | h | h <;> rw [h] <;> simp [W4.or, W4.wd, orI]
theorem ofW_or {a b : W4} (ha : a.ok) (hb : b.ok) : ofW (listW a ++ listW b) = a.or b := by
 have hr : ∀ x ∈ listW a ++ listW b, 0 ≤ x ∧ x < 256 := by
  intro x hx
  rcases List.mem_append.1 hx with hx | hx <;> (obtain ⟨i, rfl, h1, _⟩ := listW_mem.1 hx; omega)
 refine W4.ext (ofW_ok hr) (or_ok ha hb) fun i hi => ?_
 rw [ofW_has hr hi, or_has ha hb hi, Bool.eq_iff_iff]
 simp only [decide_eq_true_eq, List.mem_append, Bool.or_eq_true]
 constructor
 ·rintro (h | h)
  ·obtain ⟨j, e, _, h2⟩ := listW_mem.1 h
   have : j = i := by omega
   exact .inl (this ▸ h2)
  ·obtain ⟨j, e, _, h2⟩ := listW_mem.1 h
   have : j = i := by omega
   exact .inr (this ▸ h2)
 ·rintro (h | h)
  ·exact .inl (listW_mem.2 ⟨i, rfl, hi, h⟩)
  ·exact .inr (listW_mem.2 ⟨i, rfl, hi, h⟩)
theorem ofW_take {l : List Int} {k : Nat} (h : k < l.length) : ofW (l.take (k + 1)) = (ofW (l.take k)).add l[k] := by
 unfold ofW
 rw [List.take_add_one, List.getElem?_eq_getElem h, List.foldl_append]
 rfl
theorem store_wd (s : W4) {q : Nat} (hq : q < 4) (v : Int) : [AV.int .u64 s.w0, .int .u64 s.w1, .int .u64 s.w2, .int .u64 s.w3].take q ++ [.int .u64 v] ++ [AV.int .u64 s.w0, .int .u64 s.w1, .int .u64 s.w2, .int .u64 s.w3].drop (q + 1) = [.int .u64 (s.setWd q v).w0, .int .u64 (s.setWd q v).w1, .int .u64 (s.setWd q v).w2, .int .u64 (s.setWd q v).w3] := by
 have h1 : q = 0 ∨ q = 1 ∨ q = 2 ∨ q = 3 := by omega
 rcases h1 with rfl | rfl | rfl | rfl <;> simp [W4.setWd]
theorem shl1 {b : Int} (h0 : 0 ≤ b) : IntKind.u64.wrap (1 * 2 ^ (min (b % 64).toNat IntKind.u64.bits)) = 2 ^ (b % 64).toNat := by
 have hb : (b % 64).toNat < 64 := by omega
 have : min (b % 64).toNat IntKind.u64.bits = (b % 64).toNat := by rw [show IntKind.u64.bits = 64 from rfl]; omega
 rw [this, Int.one_mul]
 exact wrap_u64_id (two_lt hb).1 (two_lt hb).2
/-! ### one more, in its order -/
theorem insR_at : ∀ {l : List Rx} {r : Rx} {k : Nat}, k ≤ l.length → (∀ j (hj : j < k) (h : j < l.length), l[j].cmp r = -1) → (∀ h : k < l.length, l[k].cmp r ≠ -1) →
  insR l r = if ∃ h : k < l.length, l[k].cmp r = 0 then l else l.take k ++ r :: l.drop k
 | [], r, k, hk, _, _ => by
  have : k = 0 := by simpa using hk
  subst this
  rw [if_neg (by rintro ⟨h, _⟩; simp at h)]
  simp [insR]
 | a :: t, r, 0, _, _, h2 => by
  have h2 := h2 (by simp)
  simp only [List.getElem_cons_zero] at h2
  simp only [insR]
  rw [if_neg h2]
  by_cases h0 : a.cmp r = 0
  ·rw [if_pos h0, if_pos ⟨by simp, by simpa using h0⟩]
  ·rw [if_neg h0, if_neg (by rintro ⟨_, h⟩; exact h0 (by simpa using h))]
   rfl
 | a :: t, r, k + 1, hk, h1, h2 => by
  have ha := h1 0 (by omega) (by simp)
  simp only [List.getElem_cons_zero] at ha
  simp only [insR]
  rw [if_pos ha, insR_at (l := t) (k := k) (by simpa using hk) (fun j hj h => h1 (j + 1) (by omega) (Nat.succ_lt_succ h)) (fun h => h2 (Nat.succ_lt_succ h))]
  by_cases h0 : ∃ h : k < t.length, t[k].cmp r = 0
  ·rw [if_pos h0, if_pos (by obtain ⟨h, e⟩ := h0; exact ⟨by simpa using h, by simpa using e⟩)]
  ·rw [if_neg h0, if_neg (by rintro ⟨h, e⟩; exact h0 ⟨by simpa using h, by simpa using e⟩)]
   rfl
theorem insR_nodes : ∀ (l : List Rx) (r : Rx), Rx.nodesL (insR l r) ≤ Rx.nodesL l + r.nodes
 | [], r => by simp [insR, Rx.nodesL]
 | a :: t, r => by
  have := insR_nodes t r
  simp only [insR]
  split
  ·simp only [Rx.nodesL]; omega
  ·split
   ·simp only [Rx.nodesL]; omega
   ·simp only [Rx.nodesL]; omega
theorem insR_ok {l : List Rx} {r : Rx} (h : ∀ x ∈ l, x.ok) (hr : r.ok) : ∀ x ∈ insR l r, x.ok := by
 induction l with
 | nil => intro x hx; simp [insR] at hx; exact hx ▸ hr
 | cons a t ih =>
  intro x hx
  simp only [insR] at hx
  split at hx
  ·rcases List.mem_cons.1 hx with rfl | hx
   ·exact h _ (by simp)
   ·exact ih (fun y hy => h y (by simp [hy])) x hx
  ·split at hx
   ·exact h x hx
   ·rcases List.mem_cons.1 hx with rfl | hx
    ·exact hr
    ·exact h x hx
theorem flat_ok {k : Int} {l : List Rx} (h : ∀ x ∈ l, x.ok) : ∀ x ∈ flatR k l, x.ok := by
 intro x hx
 rcases flat_mem hx with ⟨h1, _⟩ | ⟨r, h1, _, h3⟩
 ·exact h x h1
 ·exact (h r h1).args x h3
theorem altOuts_succ (l : List Rx) {k : Nat} (h : k < l.length) : altOuts [] (l.take (k + 1)) = if (l[k]).kind = 1 ∨ (l[k]).kind = 3 then altOuts [] (l.take k) else insR (altOuts [] (l.take k)) l[k] := by
 unfold altOuts
 rw [List.take_add_one, List.getElem?_eq_getElem h, List.foldl_append]
 rfl
theorem altSet_succ (l : List Rx) {k : Nat} (h : k < l.length) : altSet noSet (l.take (k + 1)) = if (l[k]).kind = 3 then (altSet noSet (l.take k)).or (l[k]).set else altSet noSet (l.take k) := by
 unfold altSet
 rw [List.take_add_one, List.getElem?_eq_getElem h, List.foldl_append]
 rfl
theorem altOuts_inv (l : List Rx) (h : ∀ x ∈ l, x.ok) : ∀ k, k ≤ l.length → (∀ x ∈ altOuts [] (l.take k), x.ok) ∧ Rx.nodesL (altOuts [] (l.take k)) ≤ Rx.nodesL (l.take k) ∧ (altSet noSet (l.take k)).ok
 | 0, _ => by simp [altOuts, altSet, Rx.nodesL]; exact noSet_ok
 | k + 1, hk => by
  obtain ⟨h1, h2, h3⟩ := altOuts_inv l h k (by omega)
  rw [altOuts_succ l (by omega), altSet_succ l (by omega), Rx.nodesL_take l k (by omega)]
  have hx := h l[k] (List.getElem_mem _)
  refine ⟨?_, ?_, ?_⟩
  ·split
   ·exact h1
   ·exact insR_ok h1 hx
  ·split
   ·omega
   ·have := insR_nodes (altOuts [] (l.take k)) l[k]
    omega
  ·split
   ·exact or_ok h3 hx.set
   ·exact h3
def catOuts (l : List Rx) : List Rx := l.filter fun r => decide (r.kind ≠ 2)
theorem catOuts_succ (l : List Rx) {k : Nat} (h : k < l.length) : catOuts (l.take (k + 1)) = catOuts (l.take k) ++ (if (l[k]).kind = 2 then [] else [l[k]]) := by
 unfold catOuts
 rw [List.take_add_one, List.getElem?_eq_getElem h, List.filter_append]
 congr 1
 by_cases hk : (l[k]).kind = 2
 ·rw [if_pos hk]; simp [hk]
 ·rw [if_neg hk]; simp [hk]
theorem catOuts_nodes (l : List Rx) : Rx.nodesL (catOuts l) ≤ Rx.nodesL l := by
 unfold catOuts
 induction l with
 | nil => simp
 | cons a t ih =>
  rw [List.filter_cons]
  split
  ·simp only [Rx.nodesL]; omega
  ·simp only [Rx.nodesL]; omega
theorem cat_none {l : List Rx} {k : Nat} (h : k < (flatR 4 l).length) (hk : ((flatR 4 l)[k]).kind = 1) : catR l = noneR := by
 unfold catR
 rw [if_pos]
 rw [List.any_eq_true]
 exact ⟨_, List.getElem_mem h, by simpa using hk⟩
theorem cat_some {l : List Rx} (h : ∀ j (hj : j < (flatR 4 l).length), ((flatR 4 l)[j]).kind ≠ 1) : catR l = catOf (catOuts (flatR 4 l)) := by
 unfold catR
 rw [if_neg]
 ·rfl
 ·intro e
  rw [List.any_eq_true] at e
  obtain ⟨x, hx, hk⟩ := e
  obtain ⟨j, hj, rfl⟩ := List.mem_iff_getElem.1 hx
  exact h j hj (by simpa using hk)
theorem catOf_nil {l : List Rx} (h : l.length = 0) : catOf l = emptyR := by rw [List.eq_nil_of_length_eq_zero h]; rfl
theorem catOf_one {l : List Rx} (h : l.length = 1) : catOf l = l[0]'(by omega) := by
 match l, h with
 | [x], _ => rfl
theorem altOf_nil {l : List Rx} (h : l.length = 0) : altOf l = noneR := by rw [List.eq_nil_of_length_eq_zero h]; rfl
theorem altOf_one {l : List Rx} (h : l.length = 1) : altOf l = l[0]'(by omega) := by
 match l, h with
 | [x], _ => rfl
end Go.Proofs.YtfdgbghlanbddaaDoor.Av
set_option linter.unusedVariables false
set_option linter.unusedSimpArgs false
set_option maxRecDepth 8000
namespace Go.Proofs.YtfdgbghlanbddaaDoor.Av
open Go.RowKit Go.Proofs
theorem take6 (r : Rx) : r.cells.take 6 = r.cells := rfl
theorem cleans_u8 (l : List Int) : (l.map fun n => [AV.int .u8 n]).all cleans = true := by
 rw [List.all_eq_true]
 intro x hx
 obtain ⟨r, _, rfl⟩ := List.mem_map.1 hx
 rfl
theorem add_at {s : W4} {b : Int} {q : Nat} (h : b / 64 = (q : Int)) : s.add b = s.setWd q (orI (s.wd q) (2 ^ (b % 64).toNat)) := by
 unfold W4.add
 rw [h, Int.toNat_natCast]
theorem listW_app (a b : W4) : ∀ x ∈ listW a ++ listW b, 0 ≤ x ∧ x < 256 := by
 intro x hx
 rcases List.mem_append.1 hx with hx | hx <;> (obtain ⟨i, rfl, h1, _⟩ := listW_mem.1 hx; omega)
theorem refList {w0 : World} {es : List Ent} (s : W4) (hs : s.ok) : ACalls Tryd.prog w0 120 [.agg s.row] es fun v es' => v = bytesAV (listW s) ∧ es' = es := by
 unfold W4.row bytesAV
 refine calls1 (N := 19) Tryd.func120 rfl rfl (by decide) ?_
 refine w_seq ?_
 refine w_region ?_
 refine l_cons rfl (p_box fun s1 => ?_)
 refine l_cons rfl (p_assign ?_)
 refine l_nil ?_
 refine k_seq_normal ?_
 refine w_seq ?_
 refine w_region ?_
 refine l_cons rfl (p_assign ?_)
 refine l_nil ?_
 refine k_seq_normal ?_
 refine w_seq ?_
 refine w_seq ?_
 refine w_adopt 3 5 1 rfl fun s3 => ?_
 simp only [upd_upd]
 refine w_region ?_
 refine l_cons rfl (p_assign ?_)
 refine l_nil ?_
 refine k_seq_normal ?_
 refine w_block ?_
 refine w_loop (fun m f es' => ∃ k s3, m = 256 - k ∧ k ≤ 256 ∧ es' = .row s3 5 1 ((listTo s k).map fun n => [.int .u8 n]) :: .row s1 26 4 [[.int .u64 s.w0, .int .u64 s.w1, .int .u64 s.w2, .int .u64 s.w3]] :: es ∧ Knows f [(1, .ptr es.length s1 0 0), (3, .own (es.length + 1) s3), (4, .int .i64 k)]) (256) (⟨0, s3, rfl, Nat.zero_le _, rfl, by simp only [Knows, put, upd_apply, Nat.reduceEqDiff, ↓reduceIte, and_true, true_and, eq_self] <;> and_intros <;> rfl⟩) ?_
 rintro m f es' ⟨k, s3, rfl, hk1, rfl, hk⟩
 refine w_pins _ (Sub.refl _) (hk) ?_
 simp only [pins]
 refine w_seq ?_
 refine w_seq ?_
 refine w_region ?_
 refine l_cons rfl (p_move ?_)
 refine l_cons rfl (p_cmp ?_)
 refine l_nil ?_
 refine k_seq_normal ?_
 refine w_b (fun h1 => ?_) (fun h1 => ?_)
 ·skip
  have h1' := h1; (try simp only [decide_eq_true_eq, decide_eq_false_iff_not, Bool.not_eq_true', Bool.not_false, Bool.not_true, Bool.not_eq_false'] at h1')
  refine w_skip ?_
  refine k_seq_normal ?_
  refine w_seq ?_
  refine w_block ?_
  refine w_seq ?_
  refine w_region ?_
  refine l_cons rfl (p_loadp ty_26 ?_)
  refine l_cons rfl (p_move ?_)
  refine l_cons rfl (p_conv in_3 in_5 ?_ (hb := wrap8 (n := (k : Int)) (by omega) (by omega)))
  refine l_cons rfl (p_callr en_55 (ref1Has s.w0 s.w1 s.w2 s.w3 (k : Int) (by omega) (by omega) hs.1 hs.2.1 hs.2.2.1 hs.2.2.2.1) ?_)
  refine l_nil ?_
  refine k_seq_normal ?_
  refine w_b (fun h2 => ?_) (fun h2 => ?_)
  ·skip
   have h2' := h2; (try simp only [decide_eq_true_eq, decide_eq_false_iff_not, Bool.not_eq_true', Bool.not_false, Bool.not_true, Bool.not_eq_false'] at h2')
   have hll := listTo_len s k
   refine w_region ?_
   refine l_cons rfl (p_move ?_)
   refine l_cons rfl (p_move ?_)
   refine l_cons rfl (p_conv in_3 in_5 ?_ (hb := wrap8 (n := (k : Int)) (by omega) (by omega)))
   refine l_cons rfl (p_buildList sl_22 ze_5 ?_)
   refine l_cons rfl (p_append sl_22 by_5 ze_5 (fun s17 => ?_) (hb := by simp only [List.length_map, List.length_take, List.length_drop, List.length_append, List.length_cons, List.length_nil, most]; omega))
   refine l_cons rfl (p_assign ?_)
   refine l_nil ?_
   refine k_blk_normal ?_
   refine k_seq_normal ?_
   refine w_region ?_
   refine l_cons rfl (p_move ?_)
   refine l_cons rfl (p_arith ?_)
   refine l_cons rfl (p_assign ?_)
   refine l_nil ?_
   refine k_seq_normal ?_
   first
   | exact ⟨256 - (k + 1), by omega, k + 1, s17, rfl, by omega, by rw [listTo_succ, if_pos (show s.has k = true from h2'), List.map_append] <;> rfl, by simp only [Knows, put, upd_apply, Nat.reduceEqDiff, ↓reduceIte, and_true, true_and, eq_self] <;> and_intros <;> rfl⟩
   | exact ⟨256 - (k + 1), by omega, k + 1, s3, rfl, by omega, by rw [listTo_succ, if_neg (show ¬ s.has k = true by unfold W4.has; rw [h2']; decide), List.append_nil] <;> rfl, by simp only [Knows, put, upd_apply, Nat.reduceEqDiff, ↓reduceIte, and_true, true_and, eq_self] <;> and_intros <;> rfl⟩
  ·skip
   have h2' := h2; (try simp only [decide_eq_true_eq, decide_eq_false_iff_not, Bool.not_eq_true', Bool.not_false, Bool.not_true, Bool.not_eq_false'] at h2')
   refine w_skip ?_
   refine k_blk_normal ?_
   refine k_seq_normal ?_
   refine w_region ?_
   refine l_cons rfl (p_move ?_)
   refine l_cons rfl (p_arith ?_)
   refine l_cons rfl (p_assign ?_)
   refine l_nil ?_
   refine k_seq_normal ?_
   first
   | exact ⟨256 - (k + 1), by omega, k + 1, s17, rfl, by omega, by rw [listTo_succ, if_pos (show s.has k = true from h2'), List.map_append] <;> rfl, by simp only [Knows, put, upd_apply, Nat.reduceEqDiff, ↓reduceIte, and_true, true_and, eq_self] <;> and_intros <;> rfl⟩
   | exact ⟨256 - (k + 1), by omega, k + 1, s3, rfl, by omega, by rw [listTo_succ, if_neg (show ¬ s.has k = true by unfold W4.has; rw [h2']; decide), List.append_nil] <;> rfl, by simp only [Knows, put, upd_apply, Nat.reduceEqDiff, ↓reduceIte, and_true, true_and, eq_self] <;> and_intros <;> rfl⟩
 ·skip
  have h1' := h1; (try simp only [decide_eq_true_eq, decide_eq_false_iff_not, Bool.not_eq_true', Bool.not_false, Bool.not_true, Bool.not_eq_false'] at h1')
  refine w_exit ?_
  refine k_seq_exit ?_
  refine k_seq_exit ?_
  refine k_blk_here ?_
  refine k_seq_normal ?_
  refine w_seq ?_
  refine w_freezeTop 3 ?_ (hclean := cleans_u8 _)
  rw [show k = 256 by omega]
  refine w_region ?_
  refine l_cons rfl (p_move ?_)
  refine l_cons rfl (p_assign ?_)
  refine l_nil ?_
  refine k_seq_normal ?_
  refine w_ret ?_
  refine ret1b rfl ?_ <;> exact ex2 subx ⟨rfl, rfl⟩
theorem refOf {w0 : World} {es : List Ent} (l : List Int) (hl : ∀ b ∈ l, 0 ≤ b ∧ b < 256) : ACalls Tryd.prog w0 68 [bytesAV l] es fun v es' => v = .agg (ofW l).row ∧ es' = es := by
 unfold bytesAV
 refine calls1 (N := 27) Tryd.func68 rfl rfl (by decide) ?_
 refine w_seq ?_
 refine w_region ?_
 refine l_cons rfl (p_alloc ze_26 fun s2 => ?_)
 refine l_nil ?_
 refine k_seq_normal ?_
 refine w_seq ?_
 refine w_len 0 fun hll => ?_
 rw [List.length_map] at hll
 simp only [most] at hll
 refine w_region ?_
 refine l_cons rfl (p_alloc ze_26 fun s3 => ?_)
 refine l_nil ?_
 refine k_seq_normal ?_
 refine w_seq ?_
 refine w_seq ?_
 refine w_region ?_
 refine l_cons rfl (p_assign ?_)
 refine l_nil ?_
 refine k_seq_normal ?_
 refine w_block ?_
 refine w_loop (fun m f es' => ∃ k, m = l.length - k ∧ k ≤ l.length ∧ es' = .row s3 26 4 [[.int .u64 (ofW (l.take k)).w0, .int .u64 (ofW (l.take k)).w1, .int .u64 (ofW (l.take k)).w2, .int .u64 (ofW (l.take k)).w3]] :: .row s2 26 4 [[.int .u64 0, .int .u64 0, .int .u64 0, .int .u64 0]] :: es ∧ Knows f [(0, .list 1 (l.map fun n => [.int .u8 n])), (2, .ptr es.length s2 0 0), (3, .ptr (es.length + 1) s3 0 0), (4, .int .i64 k)]) (l.length) (⟨0, rfl, Nat.zero_le _, rfl, by simp only [Knows, put, upd_apply, Nat.reduceEqDiff, ↓reduceIte, and_true, true_and, eq_self] <;> and_intros <;> rfl⟩) ?_
 rintro m f es' ⟨k, rfl, hk1, rfl, hk⟩
 refine w_pins _ (Sub.refl _) (hk) ?_
 simp only [pins]
 refine w_seq ?_
 refine w_seq ?_
 refine w_region ?_
 refine l_cons rfl (p_move ?_)
 refine l_cons rfl (p_move ?_)
 refine l_cons rfl (p_lenl sl_22 ?_)
 refine l_cons rfl (p_cmp ?_)
 refine l_nil ?_
 refine k_seq_normal ?_
 refine w_b (fun h1 => ?_) (fun h1 => ?_)
 ·skip
  have h1' := h1; (try simp only [decide_eq_true_eq, decide_eq_false_iff_not, Bool.not_eq_true', Bool.not_false, Bool.not_true, Bool.not_eq_false'] at h1')
  refine w_skip ?_
  refine k_seq_normal ?_
  refine w_seq ?_
  refine w_block ?_
  have hb := hl (l[k]'(by omega)) (List.getElem_mem _)
  obtain ⟨q, hq4, hq⟩ : ∃ q : Nat, q < 4 ∧ (l[k]'(by omega)) / 64 = (q : Int) := ⟨((l[k]'(by omega)) / 64).toNat, by omega, by omega⟩
  have hsk : (ofW (l.take k)).ok := ofW_ok fun b hb => hl b (List.mem_of_mem_take hb)
  refine w_drawn 13 [] (fun e => e = _) mixed (by kernel_rfl) rfl ?_
  refine q1 0 (hg := rfl) (hu := rfl) (h := by rintro f _ rfl; exact p_move ⟨rfl, rfl⟩) (k := ?_)
  refine q1 4 (hg := rfl) (hu := rfl) (h := by rintro f _ rfl; exact p_move ⟨rfl, rfl⟩) (k := ?_)
  refine q2 11 12 (hg := rfl) (hu := rfl) (h := by rintro f _ rfl; exact p_ixl sl_22 ⟨rfl, rfl⟩) (k := ?_)
  refine q1 13 (hg := rfl) (hu := rfl) (h := by rintro f _ rfl; exact p_loadf ty_5 ⟨rfl, rfl⟩) (k := ?_)
  refine q1 14 (hg := rfl) (hu := rfl) (h := by rintro f _ rfl; exact p_arith ⟨rfl, rfl⟩ (hb := (quo64 hb.1 hb.2).trans (congrArg some hq))) (k := ?_)
  refine q2 3 15 (hg := rfl) (hu := rfl) (h := by rintro f _ rfl; exact p_ixa ar_26 (a := .ptr (es.length + 1) s3 0 q) ⟨rfl, rfl⟩ (h0 := by omega) (h1 := by omega) (ho := by simp)) (k := ?_)
  refine q1 16 (hg := rfl) (hu := rfl) (h := by rintro f _ rfl; exact p_loadp ty_24 (a := .int .u64 ((ofW (l.take k)).wd q)) ⟨rfl, rfl⟩ (hl := by simp only [List.length_cons, List.length_nil]; omega) (ha := wd_load (ofW (l.take k)) hq4)) (k := ?_)
  refine q1 0 (hg := rfl) (hu := rfl) (h := by rintro f _ rfl; exact p_move ⟨rfl, rfl⟩) (k := ?_)
  refine q1 4 (hg := rfl) (hu := rfl) (h := by rintro f _ rfl; exact p_move ⟨rfl, rfl⟩) (k := ?_)
  refine q2 18 19 (hg := rfl) (hu := rfl) (h := by rintro f _ rfl; exact p_ixl sl_22 ⟨rfl, rfl⟩) (k := ?_)
  refine q1 20 (hg := rfl) (hu := rfl) (h := by rintro f _ rfl; exact p_loadf ty_5 ⟨rfl, rfl⟩) (k := ?_)
  refine q1 21 (hg := rfl) (hu := rfl) (h := by rintro f _ rfl; exact p_arith ⟨rfl, rfl⟩ (hb := rem64 hb.1)) (k := ?_)
  refine q1 22 (hg := rfl) (hu := rfl) (h := by rintro f _ rfl; exact p_shl ⟨rfl, rfl⟩ (hb := shl1 hb.1)) (k := ?_)
  refine q_end ?_
  refine m_end ?_
  refine l_cons rfl (p_arith ?_ (hb := arith_or64 (W4.wd_ok hsk q) (two_lt (by omega))))
  refine l_cons rfl (p_ixa ar_26 (a := .ptr (es.length + 1) s3 0 q) ?_ (h0 := by omega) (h1 := by omega) (ho := by simp))
  refine l_cons rfl (p_store ty_24 (r' := [.int .u64 ((ofW (l.take k)).setWd q (orI ((ofW (l.take k)).wd q) (2 ^ ((l[k]'(by omega)) % 64).toNat))).w0, .int .u64 ((ofW (l.take k)).setWd q (orI ((ofW (l.take k)).wd q) (2 ^ ((l[k]'(by omega)) % 64).toNat))).w1, .int .u64 ((ofW (l.take k)).setWd q (orI ((ofW (l.take k)).wd q) (2 ^ ((l[k]'(by omega)) % 64).toNat))).w2, .int .u64 ((ofW (l.take k)).setWd q (orI ((ofW (l.take k)).wd q) (2 ^ ((l[k]'(by omega)) % 64).toNat))).w3]) ?_ (hl := by simp only [List.length_cons, List.length_nil]; omega) (hr' := store_wd (ofW (l.take k)) hq4 _))
  refine l_nil ?_
  refine k_blk_normal ?_
  refine k_seq_normal ?_
  refine w_region ?_
  refine l_cons rfl (p_move ?_)
  refine l_cons rfl (p_arith ?_)
  refine l_cons rfl (p_assign ?_)
  refine l_nil ?_
  refine k_seq_normal ?_
  exact ⟨l.length - (k + 1), by omega, k + 1, rfl, by omega, by rw [ofW_take (by omega), add_at hq] <;> rfl, by simp only [Knows, put, upd_apply, Nat.reduceEqDiff, ↓reduceIte, and_true, true_and, eq_self] <;> and_intros <;> rfl⟩
 ·skip
  have h1' := h1; (try simp only [decide_eq_true_eq, decide_eq_false_iff_not, Bool.not_eq_true', Bool.not_false, Bool.not_true, Bool.not_eq_false'] at h1')
  refine w_exit ?_
  refine k_seq_exit ?_
  refine k_seq_exit ?_
  refine k_blk_here ?_
  refine k_seq_normal ?_
  refine w_seq ?_
  obtain rfl : k = l.length := by omega
  rw [List.take_length]
  refine w_region ?_
  refine l_cons rfl (p_loadp ty_26 ?_)
  refine l_cons rfl (p_store ty_26 ?_)
  refine l_nil ?_
  refine k_seq_normal ?_
  refine w_ret ?_
  exact retc rfl ty_26 (by first | exact Sub.refl _ | exact sub1 _ _ | exact sub2 _ _ _ | exact sub3 _ _ _ _ | exact sub4 _ _ _ _ _ | exact sub5 _ _ _ _ _ _) ⟨rfl, rfl⟩
theorem refInsert {w0 : World} {es : List Ent} (l : List Rx) (r : Rx) (hl : ∀ x ∈ l, x.ok) (hr : r.ok) (hn : l.length ≤ 1048576) : ACalls Tryd.prog w0 87 [.list 6 (l.map Rx.cells), .agg r.cells] es fun v es' => v = .list 6 ((insR l r).map Rx.cells) ∧ es' = es := by
 have hcr : Rx.cells r = [.int .i64 r.kind, .int .u64 r.set.w0, .int .u64 r.set.w1, .int .u64 r.set.w2, .int .u64 r.set.w3, .list 6 (r.args.map Rx.cells)] := Rx.cells_eq r
 refine calls2 (N := 46) Tryd.func87 rfl rfl (by decide) ?_
 refine w_seq ?_
 refine w_region ?_
 refine l_cons rfl (p_box fun s3 => ?_)
 refine l_cons rfl (p_assign ?_)
 refine l_nil ?_
 refine k_seq_normal ?_
 refine w_seq ?_
 refine w_region ?_
 refine l_cons rfl (p_assign ?_)
 refine l_nil ?_
 refine k_seq_normal ?_
 refine w_seq ?_
 refine w_block ?_
 refine w_loop (fun m f es' => ∃ k, m = l.length - k ∧ k ≤ l.length ∧ (∀ j (hj : j < k) (h : j < l.length), l[j].cmp r = -1) ∧ es' = .row s3 29 6 [r.cells] :: es ∧ Knows f [(0, .list 6 (l.map Rx.cells)), (3, .ptr es.length s3 0 0), (5, .int .i64 k)]) (l.length) (⟨0, rfl, Nat.zero_le _, fun j hj => absurd hj (Nat.not_lt_zero _), rfl, by simp only [Knows, put, upd_apply, Nat.reduceEqDiff, ↓reduceIte, and_true, true_and, eq_self] <;> and_intros <;> rfl⟩) ?_
 rintro m f es' ⟨k, rfl, hk1, hk2, rfl, hk⟩
 refine w_pins _ (Sub.refl _) (hk) ?_
 simp only [pins]
 refine w_seq ?_
 refine w_seq ?_
 refine w_drawn 10 [] (fun e => e = _) mixed (by kernel_rfl) rfl ?_
 refine q1 5 (hg := rfl) (hu := rfl) (h := by rintro f _ rfl; exact p_move ⟨rfl, rfl⟩) (k := ?_)
 refine q1 0 (hg := rfl) (hu := rfl) (h := by rintro f _ rfl; exact p_move ⟨rfl, rfl⟩) (k := ?_)
 refine q1 7 (hg := rfl) (hu := rfl) (h := by rintro f _ rfl; exact p_lenl sl_27 ⟨rfl, rfl⟩) (k := ?_)
 refine q2 6 8 (hg := rfl) (hu := rfl) (h := by rintro f _ rfl; exact p_cmp ⟨rfl, rfl⟩) (k := ?_)
 refine q1 9 (hg := rfl) (hu := rfl) (h := by rintro f _ rfl; exact p_move ⟨rfl, rfl⟩) (k := ?_)
 refine qsplit 10 (fun h1 => ?_) (fun h1 => ?_)
 ·skip
  have h1' := h1; (try simp only [decide_eq_true_eq, decide_eq_false_iff_not, Bool.not_eq_true', Bool.not_false, Bool.not_true, Bool.not_eq_false'] at h1')
  refine qy1 0 (hg := rfl) (hw := h1) (hu := rfl) (h := by rintro f _ rfl; exact p_move ⟨rfl, rfl⟩) (k := ?_)
  refine qy1 5 (hg := rfl) (hw := h1) (hu := rfl) (h := by rintro f _ rfl; exact p_move ⟨rfl, rfl⟩) (k := ?_)
  refine qy2 11 12 (hg := rfl) (hw := h1) (hu := rfl) (h := by rintro f _ rfl; exact p_ixl sl_27 ⟨rfl, rfl⟩) (k := ?_)
  refine qy1 13 (hg := rfl) (hw := h1) (hu := rfl) (h := by rintro f _ rfl; exact p_loadf ty_29 ⟨rfl, rfl⟩) (k := ?_)
  refine qy1 3 (hg := rfl) (hw := h1) (hu := rfl) (h := by rintro f _ rfl; exact p_loadp ty_29 ⟨rfl, rfl⟩) (k := ?_)
  refine q_end ?_
  refine m_end ?_
  refine g_y rfl h1 (p_callr en_121 (refCompare _ (l[k]'(by omega)) r _ (Nat.le_refl _) (hl _ (List.getElem_mem _)) hr) ?_)
  refine g_y rfl h1 (p_cmp ?_)
  refine l_cons rfl (p_pickt h1 ?_)
  refine l_nil ?_
  refine k_seq_normal ?_
  refine w_b (fun h2 => ?_) (fun h2 => ?_)
  ·skip
   have h2' := h2; (try simp only [decide_eq_true_eq, decide_eq_false_iff_not, Bool.not_eq_true', Bool.not_false, Bool.not_true, Bool.not_eq_false'] at h2')
   refine w_skip ?_
   refine k_seq_normal ?_
   refine w_block ?_
   refine w_region ?_
   refine l_cons rfl (p_move ?_)
   refine l_cons rfl (p_arith ?_)
   refine l_cons rfl (p_assign ?_)
   refine l_nil ?_
   refine k_blk_normal ?_
   refine k_seq_normal ?_
   exact ⟨l.length - (k + 1), by omega, k + 1, rfl, by omega, fun j hj h => by
    rcases Nat.lt_or_eq_of_le (Nat.le_of_lt_succ hj) with h9 | h9
    ·exact hk2 j h9 h
    ·subst h9; have := Rx.cmp_range (l[j]'(by omega)) r; omega, rfl, by simp only [Knows, put, upd_apply, Nat.reduceEqDiff, ↓reduceIte, and_true, true_and, eq_self] <;> and_intros <;> rfl⟩
  ·skip
   have h2' := h2; (try simp only [decide_eq_true_eq, decide_eq_false_iff_not, Bool.not_eq_true', Bool.not_false, Bool.not_true, Bool.not_eq_false'] at h2')
   refine w_exit ?_
   refine k_seq_exit ?_
   refine k_seq_exit ?_
   refine k_blk_here ?_
   have hins := insR_at (l := l) (r := r) hk1 hk2 (by intro hx; first | omega | (have := Rx.cmp_range (l[k]'(by omega)) r; omega))
   refine k_seq_normal ?_
   refine w_seq ?_
   refine w_seq ?_
   refine w_drawn 10 [] (fun e => e = _) mixed (by kernel_rfl) rfl ?_
   refine q1 5 (hg := rfl) (hu := rfl) (h := by rintro f _ rfl; exact p_move ⟨rfl, rfl⟩) (k := ?_)
   refine q1 0 (hg := rfl) (hu := rfl) (h := by rintro f _ rfl; exact p_move ⟨rfl, rfl⟩) (k := ?_)
   refine q1 22 (hg := rfl) (hu := rfl) (h := by rintro f _ rfl; exact p_lenl sl_27 ⟨rfl, rfl⟩) (k := ?_)
   refine q2 21 23 (hg := rfl) (hu := rfl) (h := by rintro f _ rfl; exact p_cmp ⟨rfl, rfl⟩) (k := ?_)
   refine q1 24 (hg := rfl) (hu := rfl) (h := by rintro f _ rfl; exact p_move ⟨rfl, rfl⟩) (k := ?_)
   refine qsplit 25 (fun h3 => ?_) (fun h3 => ?_)
   ·skip
    have h3' := h3; (try simp only [decide_eq_true_eq, decide_eq_false_iff_not, Bool.not_eq_true', Bool.not_false, Bool.not_true, Bool.not_eq_false'] at h3')
    refine qy1 0 (hg := rfl) (hw := h3) (hu := rfl) (h := by rintro f _ rfl; exact p_move ⟨rfl, rfl⟩) (k := ?_)
    refine qy1 5 (hg := rfl) (hw := h3) (hu := rfl) (h := by rintro f _ rfl; exact p_move ⟨rfl, rfl⟩) (k := ?_)
    refine qy2 26 27 (hg := rfl) (hw := h3) (hu := rfl) (h := by rintro f _ rfl; exact p_ixl sl_27 ⟨rfl, rfl⟩) (k := ?_)
    refine qy1 28 (hg := rfl) (hw := h3) (hu := rfl) (h := by rintro f _ rfl; exact p_loadf ty_29 ⟨rfl, rfl⟩) (k := ?_)
    refine qy1 3 (hg := rfl) (hw := h3) (hu := rfl) (h := by rintro f _ rfl; exact p_loadp ty_29 ⟨rfl, rfl⟩) (k := ?_)
    refine q_end ?_
    refine m_end ?_
    refine g_y rfl h3 (p_callr en_122 (refEqual (l[k]'(by omega)) r (hl _ (List.getElem_mem _)) hr) ?_)
    refine l_cons rfl (p_pickt h3 ?_)
    refine l_nil ?_
    refine k_seq_normal ?_
    refine w_b (fun h4 => ?_) (fun h4 => ?_)
    ·skip
     have h4' := h4; (try simp only [decide_eq_true_eq, decide_eq_false_iff_not, Bool.not_eq_true', Bool.not_false, Bool.not_true, Bool.not_eq_false'] at h4')
     refine w_seq ?_
     refine w_region ?_
     refine l_cons rfl (p_move ?_)
     refine l_cons rfl (p_assign ?_)
     refine l_nil ?_
     refine k_seq_normal ?_
     refine w_ret ?_
     refine k_seq_ret ?_
     refine ret1b rfl ?_ <;> exact ex2 subx ⟨by rw [hins, if_pos ⟨by omega, by assumption⟩] <;> rfl, rfl⟩
    ·skip
     have h4' := h4; (try simp only [decide_eq_true_eq, decide_eq_false_iff_not, Bool.not_eq_true', Bool.not_false, Bool.not_true, Bool.not_eq_false'] at h4')
     refine w_skip ?_
     refine k_seq_normal ?_
     refine w_seq ?_
     refine w_drawn 12 [0, 4, 7, 11] (fun e => at_ e es.length = some (.row s3 29 6 [r.cells])) mixed (by kernel_rfl) (at_hit _ _) ?_
     refine q1 0 (hg := rfl) (hu := rfl) (h := by rintro f _ hG; exact p_move ⟨rfl, rfl⟩) (k := ?_)
     refine q1 5 (hg := rfl) (hu := rfl) (h := by rintro f _ hG; exact p_move ⟨rfl, rfl⟩) (k := ?_)
     refine q2 35 36 (hg := rfl) (hu := rfl) (h := by rintro f _ hG; exact p_slicel (l := 0) (h := k) sl_27 ⟨rfl, rfl⟩) (k := ?_)
     refine q1 3 (hg := rfl) (hu := rfl) (h := by rintro f _ hG; exact p_loadp ty_29 ⟨rfl, rfl⟩) (k := ?_)
     refine q1 39 (hg := rfl) (hu := rfl) (h := by rintro f _ hG; exact p_buildList sl_27 ze_29 ⟨rfl, rfl⟩) (k := ?_)
     refine q1 0 (hg := rfl) (hu := rfl) (h := by rintro f _ hG; exact p_move ⟨rfl, rfl⟩) (k := ?_)
     refine q1 5 (hg := rfl) (hu := rfl) (h := by rintro f _ hG; exact p_move ⟨rfl, rfl⟩) (k := ?_)
     refine q2 42 43 (hg := rfl) (hu := rfl) (h := by rintro f _ hG; exact p_slicel (l := k) (h := (l.map Rx.cells).length) sl_27 ⟨rfl, rfl⟩ (hlh := by simp only [List.length_map]; omega)) (k := ?_)
     refine q_end ?_
     refine m0  (hu := rfl) (h := fun f => p_buildSlice sl_27 ze_29 fun s34 => ?_)
     refine ⟨_, rfl, at_miss _ (at_hit _ _), ?_⟩
     refine m2 34 37 (hu := rfl) (h := fun f => p_append sl_27 by_29 ze_29 (fun s38 => ?_) (hb := by simp only [List.length_map, List.length_take, List.length_drop, List.length_append, List.length_cons, List.length_nil, most]; omega))
     refine ⟨_, rfl, at_miss _ (at_hit _ _), ?_⟩
     refine m2 38 40 (hu := rfl) (h := fun f => p_append sl_27 by_29 ze_29 (fun s41 => ?_) (hb := by simp only [List.length_map, List.length_take, List.length_drop, List.length_append, List.length_cons, List.length_nil, most]; omega))
     refine ⟨_, rfl, at_miss _ (at_hit _ _), ?_⟩
     refine m2 41 44 (hu := rfl) (h := fun f => p_append sl_27 by_29 ze_29 (fun s45 => ?_) (hb := by simp only [List.length_map, List.length_take, List.length_drop, List.length_append, List.length_cons, List.length_nil, most]; omega))
     refine ⟨_, rfl, at_miss _ (at_hit _ _), ?_⟩
     refine m_end ?_
     refine l_cons rfl (p_assign ?_)
     refine l_nil ?_
     refine k_seq_normal ?_
     refine w_freezeTop 4 ?_ (hclean := by simp only [take6, List.take_length, List.nil_append, ← List.map_take, ← List.map_drop, ← List.map_append, ← List.map_cons, List.all_append, cleans_rx, cleans_cells, List.all_cons, List.all_nil, Bool.and_self, Bool.and_true])
     refine w_ret ?_
     refine ret1b rfl ?_ <;> exact ex2 subx ⟨by rw [hins, if_neg (by rintro ⟨hx, hy⟩; first | omega | exact absurd hy (by simp_all))]; simp [take6, List.take_of_length_le], rfl⟩
   ·skip
    have h3' := h3; (try simp only [decide_eq_true_eq, decide_eq_false_iff_not, Bool.not_eq_true', Bool.not_false, Bool.not_true, Bool.not_eq_false'] at h3')
    refine qn rfl h3 ?_
    refine qn rfl h3 ?_
    refine qn rfl h3 ?_
    refine qn rfl h3 ?_
    refine qn rfl h3 ?_
    refine q_end ?_
    refine m_end ?_
    refine g_n rfl h3 ?_
    refine l_cons rfl (p_pickf h3 ?_)
    refine l_nil ?_
    refine k_seq_normal ?_
    refine w_f rfl ?_
    refine w_skip ?_
    refine k_seq_normal ?_
    refine w_seq ?_
    refine w_drawn 12 [0, 4, 7, 11] (fun e => at_ e es.length = some (.row s3 29 6 [r.cells])) mixed (by kernel_rfl) (at_hit _ _) ?_
    refine q1 0 (hg := rfl) (hu := rfl) (h := by rintro f _ hG; exact p_move ⟨rfl, rfl⟩) (k := ?_)
    refine q1 5 (hg := rfl) (hu := rfl) (h := by rintro f _ hG; exact p_move ⟨rfl, rfl⟩) (k := ?_)
    refine q2 35 36 (hg := rfl) (hu := rfl) (h := by rintro f _ hG; exact p_slicel (l := 0) (h := k) sl_27 ⟨rfl, rfl⟩) (k := ?_)
    refine q1 3 (hg := rfl) (hu := rfl) (h := by rintro f _ hG; exact p_loadp ty_29 ⟨rfl, rfl⟩) (k := ?_)
    refine q1 39 (hg := rfl) (hu := rfl) (h := by rintro f _ hG; exact p_buildList sl_27 ze_29 ⟨rfl, rfl⟩) (k := ?_)
    refine q1 0 (hg := rfl) (hu := rfl) (h := by rintro f _ hG; exact p_move ⟨rfl, rfl⟩) (k := ?_)
    refine q1 5 (hg := rfl) (hu := rfl) (h := by rintro f _ hG; exact p_move ⟨rfl, rfl⟩) (k := ?_)
    refine q2 42 43 (hg := rfl) (hu := rfl) (h := by rintro f _ hG; exact p_slicel (l := k) (h := (l.map Rx.cells).length) sl_27 ⟨rfl, rfl⟩ (hlh := by simp only [List.length_map]; omega)) (k := ?_)
    refine q_end ?_
    refine m0  (hu := rfl) (h := fun f => p_buildSlice sl_27 ze_29 fun s34 => ?_)
    refine ⟨_, rfl, at_miss _ (at_hit _ _), ?_⟩
    refine m2 34 37 (hu := rfl) (h := fun f => p_append sl_27 by_29 ze_29 (fun s38 => ?_) (hb := by simp only [List.length_map, List.length_take, List.length_drop, List.length_append, List.length_cons, List.length_nil, most]; omega))
    refine ⟨_, rfl, at_miss _ (at_hit _ _), ?_⟩
    refine m2 38 40 (hu := rfl) (h := fun f => p_append sl_27 by_29 ze_29 (fun s41 => ?_) (hb := by simp only [List.length_map, List.length_take, List.length_drop, List.length_append, List.length_cons, List.length_nil, most]; omega))
    refine ⟨_, rfl, at_miss _ (at_hit _ _), ?_⟩
    refine m2 41 44 (hu := rfl) (h := fun f => p_append sl_27 by_29 ze_29 (fun s45 => ?_) (hb := by simp only [List.length_map, List.length_take, List.length_drop, List.length_append, List.length_cons, List.length_nil, most]; omega))
    refine ⟨_, rfl, at_miss _ (at_hit _ _), ?_⟩
    refine m_end ?_
    refine l_cons rfl (p_assign ?_)
    refine l_nil ?_
    refine k_seq_normal ?_
    refine w_freezeTop 4 ?_ (hclean := by simp only [take6, List.take_length, List.nil_append, ← List.map_take, ← List.map_drop, ← List.map_append, ← List.map_cons, List.all_append, cleans_rx, cleans_cells, List.all_cons, List.all_nil, Bool.and_self, Bool.and_true])
    refine w_ret ?_
    refine ret1b rfl ?_ <;> exact ex2 subx ⟨by rw [hins, if_neg (by rintro ⟨hx, hy⟩; first | omega | exact absurd hy (by simp_all))]; simp [take6, List.take_of_length_le], rfl⟩
 ·skip
  have h1' := h1; (try simp only [decide_eq_true_eq, decide_eq_false_iff_not, Bool.not_eq_true', Bool.not_false, Bool.not_true, Bool.not_eq_false'] at h1')
  refine qn rfl h1 ?_
  refine qn rfl h1 ?_
  refine qn rfl h1 ?_
  refine qn rfl h1 ?_
  refine qn rfl h1 ?_
  refine q_end ?_
  refine m_end ?_
  refine g_n rfl h1 ?_
  refine g_n rfl h1 ?_
  refine l_cons rfl (p_pickf h1 ?_)
  refine l_nil ?_
  refine k_seq_normal ?_
  refine w_f rfl ?_
  refine w_exit ?_
  refine k_seq_exit ?_
  refine k_seq_exit ?_
  refine k_blk_here ?_
  have hins := insR_at (l := l) (r := r) hk1 hk2 (by intro hx; first | omega | (have := Rx.cmp_range (l[k]'(by omega)) r; omega))
  refine k_seq_normal ?_
  refine w_seq ?_
  refine w_seq ?_
  refine w_drawn 10 [] (fun e => e = _) mixed (by kernel_rfl) rfl ?_
  refine q1 5 (hg := rfl) (hu := rfl) (h := by rintro f _ rfl; exact p_move ⟨rfl, rfl⟩) (k := ?_)
  refine q1 0 (hg := rfl) (hu := rfl) (h := by rintro f _ rfl; exact p_move ⟨rfl, rfl⟩) (k := ?_)
  refine q1 22 (hg := rfl) (hu := rfl) (h := by rintro f _ rfl; exact p_lenl sl_27 ⟨rfl, rfl⟩) (k := ?_)
  refine q2 21 23 (hg := rfl) (hu := rfl) (h := by rintro f _ rfl; exact p_cmp ⟨rfl, rfl⟩) (k := ?_)
  refine q1 24 (hg := rfl) (hu := rfl) (h := by rintro f _ rfl; exact p_move ⟨rfl, rfl⟩) (k := ?_)
  refine qsplit 25 (fun h5 => ?_) (fun h5 => ?_)
  ·skip
   have h5' := h5; (try simp only [decide_eq_true_eq, decide_eq_false_iff_not, Bool.not_eq_true', Bool.not_false, Bool.not_true, Bool.not_eq_false'] at h5')
   refine qy1 0 (hg := rfl) (hw := h5) (hu := rfl) (h := by rintro f _ rfl; exact p_move ⟨rfl, rfl⟩) (k := ?_)
   refine qy1 5 (hg := rfl) (hw := h5) (hu := rfl) (h := by rintro f _ rfl; exact p_move ⟨rfl, rfl⟩) (k := ?_)
   refine qy2 26 27 (hg := rfl) (hw := h5) (hu := rfl) (h := by rintro f _ rfl; exact p_ixl sl_27 ⟨rfl, rfl⟩) (k := ?_)
   refine qy1 28 (hg := rfl) (hw := h5) (hu := rfl) (h := by rintro f _ rfl; exact p_loadf ty_29 ⟨rfl, rfl⟩) (k := ?_)
   refine qy1 3 (hg := rfl) (hw := h5) (hu := rfl) (h := by rintro f _ rfl; exact p_loadp ty_29 ⟨rfl, rfl⟩) (k := ?_)
   refine q_end ?_
   refine m_end ?_
   refine g_y rfl h5 (p_callr en_122 (refEqual (l[k]'(by omega)) r (hl _ (List.getElem_mem _)) hr) ?_)
   refine l_cons rfl (p_pickt h5 ?_)
   refine l_nil ?_
   refine k_seq_normal ?_
   refine w_b (fun h6 => ?_) (fun h6 => ?_)
   ·skip
    have h6' := h6; (try simp only [decide_eq_true_eq, decide_eq_false_iff_not, Bool.not_eq_true', Bool.not_false, Bool.not_true, Bool.not_eq_false'] at h6')
    refine w_seq ?_
    refine w_region ?_
    refine l_cons rfl (p_move ?_)
    refine l_cons rfl (p_assign ?_)
    refine l_nil ?_
    refine k_seq_normal ?_
    refine w_ret ?_
    refine k_seq_ret ?_
    refine ret1b rfl ?_ <;> exact ex2 subx ⟨by rw [hins, if_pos ⟨by omega, by assumption⟩] <;> rfl, rfl⟩
   ·skip
    have h6' := h6; (try simp only [decide_eq_true_eq, decide_eq_false_iff_not, Bool.not_eq_true', Bool.not_false, Bool.not_true, Bool.not_eq_false'] at h6')
    refine w_skip ?_
    refine k_seq_normal ?_
    refine w_seq ?_
    refine w_drawn 12 [0, 4, 7, 11] (fun e => at_ e es.length = some (.row s3 29 6 [r.cells])) mixed (by kernel_rfl) (at_hit _ _) ?_
    refine q1 0 (hg := rfl) (hu := rfl) (h := by rintro f _ hG; exact p_move ⟨rfl, rfl⟩) (k := ?_)
    refine q1 5 (hg := rfl) (hu := rfl) (h := by rintro f _ hG; exact p_move ⟨rfl, rfl⟩) (k := ?_)
    refine q2 35 36 (hg := rfl) (hu := rfl) (h := by rintro f _ hG; exact p_slicel (l := 0) (h := k) sl_27 ⟨rfl, rfl⟩) (k := ?_)
    refine q1 3 (hg := rfl) (hu := rfl) (h := by rintro f _ hG; exact p_loadp ty_29 ⟨rfl, rfl⟩) (k := ?_)
    refine q1 39 (hg := rfl) (hu := rfl) (h := by rintro f _ hG; exact p_buildList sl_27 ze_29 ⟨rfl, rfl⟩) (k := ?_)
    refine q1 0 (hg := rfl) (hu := rfl) (h := by rintro f _ hG; exact p_move ⟨rfl, rfl⟩) (k := ?_)
    refine q1 5 (hg := rfl) (hu := rfl) (h := by rintro f _ hG; exact p_move ⟨rfl, rfl⟩) (k := ?_)
    refine q2 42 43 (hg := rfl) (hu := rfl) (h := by rintro f _ hG; exact p_slicel (l := k) (h := (l.map Rx.cells).length) sl_27 ⟨rfl, rfl⟩ (hlh := by simp only [List.length_map]; omega)) (k := ?_)
    refine q_end ?_
    refine m0  (hu := rfl) (h := fun f => p_buildSlice sl_27 ze_29 fun s34 => ?_)
    refine ⟨_, rfl, at_miss _ (at_hit _ _), ?_⟩
    refine m2 34 37 (hu := rfl) (h := fun f => p_append sl_27 by_29 ze_29 (fun s38 => ?_) (hb := by simp only [List.length_map, List.length_take, List.length_drop, List.length_append, List.length_cons, List.length_nil, most]; omega))
    refine ⟨_, rfl, at_miss _ (at_hit _ _), ?_⟩
    refine m2 38 40 (hu := rfl) (h := fun f => p_append sl_27 by_29 ze_29 (fun s41 => ?_) (hb := by simp only [List.length_map, List.length_take, List.length_drop, List.length_append, List.length_cons, List.length_nil, most]; omega))
    refine ⟨_, rfl, at_miss _ (at_hit _ _), ?_⟩
    refine m2 41 44 (hu := rfl) (h := fun f => p_append sl_27 by_29 ze_29 (fun s45 => ?_) (hb := by simp only [List.length_map, List.length_take, List.length_drop, List.length_append, List.length_cons, List.length_nil, most]; omega))
    refine ⟨_, rfl, at_miss _ (at_hit _ _), ?_⟩
    refine m_end ?_
    refine l_cons rfl (p_assign ?_)
    refine l_nil ?_
    refine k_seq_normal ?_
    refine w_freezeTop 4 ?_ (hclean := by simp only [take6, List.take_length, List.nil_append, ← List.map_take, ← List.map_drop, ← List.map_append, ← List.map_cons, List.all_append, cleans_rx, cleans_cells, List.all_cons, List.all_nil, Bool.and_self, Bool.and_true])
    refine w_ret ?_
    refine ret1b rfl ?_ <;> exact ex2 subx ⟨by rw [hins, if_neg (by rintro ⟨hx, hy⟩; first | omega | exact absurd hy (by simp_all))]; simp [take6, List.take_of_length_le], rfl⟩
  ·skip
   have h5' := h5; (try simp only [decide_eq_true_eq, decide_eq_false_iff_not, Bool.not_eq_true', Bool.not_false, Bool.not_true, Bool.not_eq_false'] at h5')
   refine qn rfl h5 ?_
   refine qn rfl h5 ?_
   refine qn rfl h5 ?_
   refine qn rfl h5 ?_
   refine qn rfl h5 ?_
   refine q_end ?_
   refine m_end ?_
   refine g_n rfl h5 ?_
   refine l_cons rfl (p_pickf h5 ?_)
   refine l_nil ?_
   refine k_seq_normal ?_
   refine w_f rfl ?_
   refine w_skip ?_
   refine k_seq_normal ?_
   refine w_seq ?_
   refine w_drawn 12 [0, 4, 7, 11] (fun e => at_ e es.length = some (.row s3 29 6 [r.cells])) mixed (by kernel_rfl) (at_hit _ _) ?_
   refine q1 0 (hg := rfl) (hu := rfl) (h := by rintro f _ hG; exact p_move ⟨rfl, rfl⟩) (k := ?_)
   refine q1 5 (hg := rfl) (hu := rfl) (h := by rintro f _ hG; exact p_move ⟨rfl, rfl⟩) (k := ?_)
   refine q2 35 36 (hg := rfl) (hu := rfl) (h := by rintro f _ hG; exact p_slicel (l := 0) (h := k) sl_27 ⟨rfl, rfl⟩) (k := ?_)
   refine q1 3 (hg := rfl) (hu := rfl) (h := by rintro f _ hG; exact p_loadp ty_29 ⟨rfl, rfl⟩) (k := ?_)
   refine q1 39 (hg := rfl) (hu := rfl) (h := by rintro f _ hG; exact p_buildList sl_27 ze_29 ⟨rfl, rfl⟩) (k := ?_)
   refine q1 0 (hg := rfl) (hu := rfl) (h := by rintro f _ hG; exact p_move ⟨rfl, rfl⟩) (k := ?_)
   refine q1 5 (hg := rfl) (hu := rfl) (h := by rintro f _ hG; exact p_move ⟨rfl, rfl⟩) (k := ?_)
   refine q2 42 43 (hg := rfl) (hu := rfl) (h := by rintro f _ hG; exact p_slicel (l := k) (h := (l.map Rx.cells).length) sl_27 ⟨rfl, rfl⟩ (hlh := by simp only [List.length_map]; omega)) (k := ?_)
   refine q_end ?_
   refine m0  (hu := rfl) (h := fun f => p_buildSlice sl_27 ze_29 fun s34 => ?_)
   refine ⟨_, rfl, at_miss _ (at_hit _ _), ?_⟩
   refine m2 34 37 (hu := rfl) (h := fun f => p_append sl_27 by_29 ze_29 (fun s38 => ?_) (hb := by simp only [List.length_map, List.length_take, List.length_drop, List.length_append, List.length_cons, List.length_nil, most]; omega))
   refine ⟨_, rfl, at_miss _ (at_hit _ _), ?_⟩
   refine m2 38 40 (hu := rfl) (h := fun f => p_append sl_27 by_29 ze_29 (fun s41 => ?_) (hb := by simp only [List.length_map, List.length_take, List.length_drop, List.length_append, List.length_cons, List.length_nil, most]; omega))
   refine ⟨_, rfl, at_miss _ (at_hit _ _), ?_⟩
   refine m2 41 44 (hu := rfl) (h := fun f => p_append sl_27 by_29 ze_29 (fun s45 => ?_) (hb := by simp only [List.length_map, List.length_take, List.length_drop, List.length_append, List.length_cons, List.length_nil, most]; omega))
   refine ⟨_, rfl, at_miss _ (at_hit _ _), ?_⟩
   refine m_end ?_
   refine l_cons rfl (p_assign ?_)
   refine l_nil ?_
   refine k_seq_normal ?_
   refine w_freezeTop 4 ?_ (hclean := by simp only [take6, List.take_length, List.nil_append, ← List.map_take, ← List.map_drop, ← List.map_append, ← List.map_cons, List.all_append, cleans_rx, cleans_cells, List.all_cons, List.all_nil, Bool.and_self, Bool.and_true])
   refine w_ret ?_
   refine ret1b rfl ?_ <;> exact ex2 subx ⟨by rw [hins, if_neg (by rintro ⟨hx, hy⟩; first | omega | exact absurd hy (by simp_all))]; simp [take6, List.take_of_length_le], rfl⟩
end Go.Proofs.YtfdgbghlanbddaaDoor.Av
set_option linter.unusedVariables false
set_option linter.unusedSimpArgs false
set_option maxRecDepth 8000
namespace Go.Proofs.YtfdgbghlanbddaaDoor.Av
open Go.RowKit Go.Proofs
theorem alt_res_yes {l : List Rx} (h : ¬ altSet noSet ((flatR 5 l).take (flatR 5 l).length) = noSet) : altR l = altOf (insR (altOuts [] ((flatR 5 l).take (flatR 5 l).length)) (bytesR (altSet noSet ((flatR 5 l).take (flatR 5 l).length)))) := by
 rw [List.take_length] at h ⊢
 unfold altR altFin bytesR
 rw [if_neg h, if_neg h]
theorem alt_res_no {l : List Rx} (h : altSet noSet ((flatR 5 l).take (flatR 5 l).length) = noSet) : altR l = altOf (altOuts [] ((flatR 5 l).take (flatR 5 l).length)) := by
 rw [List.take_length] at h ⊢
 unfold altR altFin
 rw [if_pos h]
theorem sub_dead2 (a b : Ent) (es : List Ent) : Sub (a :: .dead :: es) (a :: b :: es) := by
 intro id x hx h
 simp only [at_, List.length_cons] at h ⊢
 by_cases h1 : id = es.length + 1
 ·rw [if_pos h1] at h ⊢; exact h
 ·rw [if_neg h1] at h ⊢
  by_cases h2 : id = es.length
  ·rw [if_pos h2] at h
   injection h with h
   exact absurd h.symm hx
  ·rw [if_neg h2] at h ⊢; exact h
theorem bytesR_ok {s : W4} (h : s.ok) : (bytesR s).ok := by
 unfold bytesR
 split
 ·simp [noneR, Rx.ok, Rx.oks, noSet_ok]
 ·simp [Rx.ok, Rx.oks, h]
theorem set_load (r : Rx) : loadAV true 4 r.cells 1 = .agg r.set.row := by rw [Rx.cells_eq]; rfl
theorem refListOwn {w0 : World} {es : List Ent} (s : W4) (hs : s.ok) : ACalls Tryd.prog w0 120 [.agg s.row] es fun v es' => ∃ t, v = .own (es.length + 1) t ∧ es' = .row t 5 1 ((listW s).map fun n => [.int .u8 n]) :: .dead :: es := by
 unfold W4.row
 refine calls1 (N := 19) Tryd.func120 rfl rfl (by decide) ?_
 refine w_seq ?_
 refine w_region ?_
 refine l_cons rfl (p_box fun s1 => ?_)
 refine l_cons rfl (p_assign ?_)
 refine l_nil ?_
 refine k_seq_normal ?_
 refine w_seq ?_
 refine w_region ?_
 refine l_cons rfl (p_assign ?_)
 refine l_nil ?_
 refine k_seq_normal ?_
 refine w_seq ?_
 refine w_seq ?_
 refine w_adopt 3 5 1 rfl fun s3 => ?_
 simp only [upd_upd]
 refine w_region ?_
 refine l_cons rfl (p_assign ?_)
 refine l_nil ?_
 refine k_seq_normal ?_
 refine w_block ?_
 refine w_loop (fun m f es' => ∃ k s3, m = 256 - k ∧ k ≤ 256 ∧ es' = .row s3 5 1 ((listTo s k).map fun n => [.int .u8 n]) :: .row s1 26 4 [[.int .u64 s.w0, .int .u64 s.w1, .int .u64 s.w2, .int .u64 s.w3]] :: es ∧ Knows f [(1, .ptr es.length s1 0 0), (3, .own (es.length + 1) s3), (4, .int .i64 k)]) (256) (⟨0, s3, rfl, Nat.zero_le _, rfl, by simp only [Knows, put, upd_apply, Nat.reduceEqDiff, ↓reduceIte, and_true, true_and, eq_self] <;> and_intros <;> rfl⟩) ?_
 rintro m f es' ⟨k, s3, rfl, hk1, rfl, hk⟩
 refine w_pins _ (Sub.refl _) (hk) ?_
 simp only [pins]
 refine w_seq ?_
 refine w_seq ?_
 refine w_region ?_
 refine l_cons rfl (p_move ?_)
 refine l_cons rfl (p_cmp ?_)
 refine l_nil ?_
 refine k_seq_normal ?_
 refine w_b (fun h1 => ?_) (fun h1 => ?_)
 ·skip
  have h1' := h1; (try simp only [decide_eq_true_eq, decide_eq_false_iff_not, Bool.not_eq_true', Bool.not_false, Bool.not_true, Bool.not_eq_false'] at h1')
  refine w_skip ?_
  refine k_seq_normal ?_
  refine w_seq ?_
  refine w_block ?_
  refine w_seq ?_
  refine w_region ?_
  refine l_cons rfl (p_loadp ty_26 ?_)
  refine l_cons rfl (p_move ?_)
  refine l_cons rfl (p_conv in_3 in_5 ?_ (hb := wrap8 (n := (k : Int)) (by omega) (by omega)))
  refine l_cons rfl (p_callr en_55 (ref1Has s.w0 s.w1 s.w2 s.w3 (k : Int) (by omega) (by omega) hs.1 hs.2.1 hs.2.2.1 hs.2.2.2.1) ?_)
  refine l_nil ?_
  refine k_seq_normal ?_
  refine w_b (fun h2 => ?_) (fun h2 => ?_)
  ·skip
   have h2' := h2; (try simp only [decide_eq_true_eq, decide_eq_false_iff_not, Bool.not_eq_true', Bool.not_false, Bool.not_true, Bool.not_eq_false'] at h2')
   have hll := listTo_len s k
   refine w_region ?_
   refine l_cons rfl (p_move ?_)
   refine l_cons rfl (p_move ?_)
   refine l_cons rfl (p_conv in_3 in_5 ?_ (hb := wrap8 (n := (k : Int)) (by omega) (by omega)))
   refine l_cons rfl (p_buildList sl_22 ze_5 ?_)
   refine l_cons rfl (p_append sl_22 by_5 ze_5 (fun s17 => ?_) (hb := by simp only [List.length_map, List.length_take, List.length_drop, List.length_append, List.length_cons, List.length_nil, most]; omega))
   refine l_cons rfl (p_assign ?_)
   refine l_nil ?_
   refine k_blk_normal ?_
   refine k_seq_normal ?_
   refine w_region ?_
   refine l_cons rfl (p_move ?_)
   refine l_cons rfl (p_arith ?_)
   refine l_cons rfl (p_assign ?_)
   refine l_nil ?_
   refine k_seq_normal ?_
   first
   | exact ⟨256 - (k + 1), by omega, k + 1, s17, rfl, by omega, by rw [listTo_succ, if_pos (show s.has k = true from h2'), List.map_append] <;> rfl, by simp only [Knows, put, upd_apply, Nat.reduceEqDiff, ↓reduceIte, and_true, true_and, eq_self] <;> and_intros <;> rfl⟩
   | exact ⟨256 - (k + 1), by omega, k + 1, s3, rfl, by omega, by rw [listTo_succ, if_neg (show ¬ s.has k = true by unfold W4.has; rw [h2']; decide), List.append_nil] <;> rfl, by simp only [Knows, put, upd_apply, Nat.reduceEqDiff, ↓reduceIte, and_true, true_and, eq_self] <;> and_intros <;> rfl⟩
  ·skip
   have h2' := h2; (try simp only [decide_eq_true_eq, decide_eq_false_iff_not, Bool.not_eq_true', Bool.not_false, Bool.not_true, Bool.not_eq_false'] at h2')
   refine w_skip ?_
   refine k_blk_normal ?_
   refine k_seq_normal ?_
   refine w_region ?_
   refine l_cons rfl (p_move ?_)
   refine l_cons rfl (p_arith ?_)
   refine l_cons rfl (p_assign ?_)
   refine l_nil ?_
   refine k_seq_normal ?_
   first
   | exact ⟨256 - (k + 1), by omega, k + 1, s17, rfl, by omega, by rw [listTo_succ, if_pos (show s.has k = true from h2'), List.map_append] <;> rfl, by simp only [Knows, put, upd_apply, Nat.reduceEqDiff, ↓reduceIte, and_true, true_and, eq_self] <;> and_intros <;> rfl⟩
   | exact ⟨256 - (k + 1), by omega, k + 1, s3, rfl, by omega, by rw [listTo_succ, if_neg (show ¬ s.has k = true by unfold W4.has; rw [h2']; decide), List.append_nil] <;> rfl, by simp only [Knows, put, upd_apply, Nat.reduceEqDiff, ↓reduceIte, and_true, true_and, eq_self] <;> and_intros <;> rfl⟩
 ·skip
  have h1' := h1; (try simp only [decide_eq_true_eq, decide_eq_false_iff_not, Bool.not_eq_true', Bool.not_false, Bool.not_true, Bool.not_eq_false'] at h1')
  refine w_exit ?_
  refine k_seq_exit ?_
  refine k_seq_exit ?_
  refine k_blk_here ?_
  refine k_seq_normal ?_
  refine w_seq ?_
  refine w_region ?_
  refine l_cons rfl (p_move ?_)
  refine l_cons rfl (p_assign ?_)
  refine l_nil ?_
  refine k_seq_normal ?_
  refine w_ret ?_
  obtain rfl : k = 256 := by omega
  exact ret1 rfl (by simp only [ev_tmp, ev_const, ev_func, ofConst_int, ofConst_bool, ofConst_str, ofConst_nil, upd_apply, Nat.reduceEqDiff, ↓reduceIte] <;> exact rfl) (sub_dead2 _ _ _) ⟨_, rfl, rfl⟩
theorem refOr {w0 : World} {es : List Ent} (a b : W4) (ha : a.ok) (hb : b.ok) : ACalls Tryd.prog w0 86 [.agg a.row, .agg b.row] es fun v es' => v = .agg (a.or b).row ∧ es' = es := by
 unfold W4.row
 have hx1 := listTo_len a 256
 have hx2 := listTo_len b 256
 refine calls2 (N := 11) Tryd.func86 rfl rfl (by decide) ?_
 refine w_seq ?_
 refine w_region ?_
 refine l_cons rfl (p_box fun s2 => ?_)
 refine l_cons rfl (p_box fun s3 => ?_)
 refine l_cons rfl (p_alloc ze_26 fun s4 => ?_)
 refine l_nil ?_
 refine k_seq_normal ?_
 refine w_seq ?_
 refine w_drawn 4 [1] (fun e => at_ e es.length = some (.row s2 26 4 [[.int .u64 a.w0, .int .u64 a.w1, .int .u64 a.w2, .int .u64 a.w3]]) ∧ at_ e (es.length + 1) = some (.row s3 26 4 [[.int .u64 b.w0, .int .u64 b.w1, .int .u64 b.w2, .int .u64 b.w3]])) mixed (by kernel_rfl) ⟨at_miss _ (at_miss _ (at_hit _ _)), at_miss _ (at_hit _ _)⟩ ?_
 refine q1 2 (hg := rfl) (hu := rfl) (h := by rintro f _ ⟨hG, hG'⟩; exact p_loadp ty_26 ⟨rfl, rfl⟩) (k := ?_)
 refine q1 3 (hg := rfl) (hu := rfl) (h := by rintro f _ ⟨hG, hG'⟩; exact p_loadp ty_26 ⟨rfl, rfl⟩) (k := ?_)
 refine q1 7 (hg := rfl) (hu := rfl) (h := by rintro f _ ⟨hG, hG'⟩; exact p_callr en_120 (refList b hb) ⟨rfl, rfl⟩) (k := ?_)
 refine q_end ?_
 refine m1 5 (hu := rfl) (h := fun f => p_call en_120 ((refListOwn a ha).mono fun v es' hv => ?_))
 obtain ⟨s6, rfl, rfl⟩ := hv
 refine ⟨_, rfl, ⟨at_miss _ (at_miss _ (at_miss _ (at_miss _ (at_hit _ _)))), at_miss _ (at_miss _ (at_miss _ (at_hit _ _)))⟩, ?_⟩
 refine m_end ?_
 refine l_cons rfl (p_append sl_22 by_5 ze_5 (fun s9 => ?_) (hb := by simp only [List.length_map, most]; unfold listW; omega))
 refine l_freeze 9 rfl loc_hit (by rw [List.all_append, cleans_u8, cleans_u8]; rfl) ?_
 refine l_retell 9 (b := bytesAV (listW a ++ listW b)) (fun c m' v h => by simpa [bytesAV] using h) ?_
 refine l_cons rfl (p_callr en_68 (refOf (listW a ++ listW b) (listW_app a b)) ?_)
 refine l_cons rfl (p_store ty_26 ?_)
 refine l_nil ?_
 refine k_seq_normal ?_
 refine w_ret ?_
 rw [ofW_or ha hb]
 exact retc rfl ty_26 (by first | exact Sub.refl _ | exact sub1 _ _ | exact sub2 _ _ _ | exact sub3 _ _ _ _ | exact sub4 _ _ _ _ _ | exact sub5 _ _ _ _ _ _) ⟨rfl, rfl⟩
theorem refCat {w0 : World} {es : List Ent} (l : List Rx) (hn : Rx.nodesL l ≤ 1048576) : ACalls Tryd.prog w0 39 [.list 6 (l.map Rx.cells)] es fun v es' => v = .agg (catR l).cells ∧ es' = es := by
 refine calls1 (N := 47) Tryd.func39 rfl rfl (by decide) ?_
 refine w_seq ?_
 refine w_region ?_
 refine l_cons rfl (p_alloc ze_29 fun s2 => ?_)
 refine l_nil ?_
 refine k_seq_normal ?_
 refine w_seq ?_
 have hfn := flat_nodes 4 l
 have hfl := Rx.len_le (flatR 4 l)
 refine w_region ?_
 refine l_cons rfl (p_assign ?_)
 refine l_nil ?_
 refine k_seq_normal ?_
 refine w_seq ?_
 refine w_adopt 3 29 6 rfl fun s3 => ?_
 simp only [upd_upd]
 refine w_region ?_
 refine l_cons rfl (p_move ?_)
 refine l_cons rfl (p_callr en_83 (refFlat 4 l hn) ?_)
 refine l_cons rfl (p_assign ?_)
 refine l_nil ?_
 refine k_seq_normal ?_
 refine w_seq ?_
 refine w_seq ?_
 refine w_region ?_
 refine l_cons rfl (p_assign ?_)
 refine l_nil ?_
 refine k_seq_normal ?_
 refine w_block ?_
 refine w_loop (fun m f es' => ∃ k s3, m = (flatR 4 l).length - k ∧ k ≤ (flatR 4 l).length ∧ (∀ j (hj : j < k) (h : j < (flatR 4 l).length), ((flatR 4 l)[j]).kind ≠ 1) ∧ es' = .row s3 29 6 ((catOuts ((flatR 4 l).take k)).map Rx.cells) :: .row s2 29 6 [[.int .i64 0, .int .u64 0, .int .u64 0, .int .u64 0, .int .u64 0, .nil]] :: es ∧ Knows f [(2, .ptr es.length s2 0 0), (3, .own (es.length + 1) s3), (4, .list 6 ((flatR 4 l).map Rx.cells)), (5, .int .i64 k)]) ((flatR 4 l).length) (⟨0, s3, rfl, Nat.zero_le _, fun j hj => absurd hj (Nat.not_lt_zero _), rfl, by simp only [Knows, put, upd_apply, Nat.reduceEqDiff, ↓reduceIte, and_true, true_and, eq_self] <;> and_intros <;> rfl⟩) ?_
 rintro m f es' ⟨k, s3, rfl, hk1, hk2, rfl, hk⟩
 refine w_pins _ (Sub.refl _) (hk) ?_
 simp only [pins]
 refine w_seq ?_
 refine w_seq ?_
 refine w_region ?_
 refine l_cons rfl (p_move ?_)
 refine l_cons rfl (p_move ?_)
 refine l_cons rfl (p_lenl sl_27 ?_)
 refine l_cons rfl (p_cmp ?_)
 refine l_nil ?_
 refine k_seq_normal ?_
 refine w_b (fun h1 => ?_) (fun h1 => ?_)
 ·skip
  have h1' := h1; (try simp only [decide_eq_true_eq, decide_eq_false_iff_not, Bool.not_eq_true', Bool.not_false, Bool.not_true, Bool.not_eq_false'] at h1')
  refine w_skip ?_
  refine k_seq_normal ?_
  refine w_seq ?_
  refine w_block ?_
  refine w_seq ?_
  refine w_seq ?_
  refine w_region ?_
  refine l_cons rfl (p_move ?_)
  refine l_cons rfl (p_move ?_)
  refine l_cons rfl (p_ixl sl_27 ?_)
  refine l_cons rfl (p_faf fa_29_0 ?_)
  refine l_cons rfl (p_loadf ty_3 ?_)
  refine l_cons rfl (p_cmp ?_)
  refine l_nil ?_
  refine k_seq_normal ?_
  refine w_b (fun h2 => ?_) (fun h2 => ?_)
  ·skip
   have h2' := h2; (try simp only [decide_eq_true_eq, decide_eq_false_iff_not, Bool.not_eq_true', Bool.not_false, Bool.not_true, Bool.not_eq_false'] at h2')
   refine w_seq ?_
   refine w_region ?_
   refine l_cons rfl (p_callr en_84 (refNone) ?_)
   refine l_cons rfl (p_store ty_29 ?_)
   refine l_nil ?_
   refine k_seq_normal ?_
   refine w_ret ?_
   refine k_seq_ret ?_
   refine k_blk_ret ?_
   refine k_seq_ret ?_
   refine k_seq_ret ?_
   refine k_blk_ret ?_
   refine k_seq_ret ?_
   rw [← cat_none (l := l) (k := k) (by omega) h2']
   exact retc rfl ty_29 (by first | exact Sub.refl _ | exact sub1 _ _ | exact sub2 _ _ _ | exact sub3 _ _ _ _ | exact sub4 _ _ _ _ _ | exact sub5 _ _ _ _ _ _) ⟨rfl, rfl⟩
  ·skip
   have h2' := h2; (try simp only [decide_eq_true_eq, decide_eq_false_iff_not, Bool.not_eq_true', Bool.not_false, Bool.not_true, Bool.not_eq_false'] at h2')
   refine w_skip ?_
   refine k_seq_normal ?_
   refine w_seq ?_
   refine w_region ?_
   refine l_cons rfl (p_move ?_)
   refine l_cons rfl (p_move ?_)
   refine l_cons rfl (p_ixl sl_27 ?_)
   refine l_cons rfl (p_faf fa_29_0 ?_)
   refine l_cons rfl (p_loadf ty_3 ?_)
   refine l_cons rfl (p_cmp ?_)
   refine l_nil ?_
   refine k_seq_normal ?_
   refine w_b (fun h3 => ?_) (fun h3 => ?_)
   ·skip
    have h3' := h3; (try simp only [decide_eq_true_eq, decide_eq_false_iff_not, Bool.not_eq_true', Bool.not_false, Bool.not_true, Bool.not_eq_false'] at h3')
    have hcl := catOuts_nodes ((flatR 4 l).take k)
    have hcl2 := Rx.len_le (catOuts ((flatR 4 l).take k))
    have hcl3 := Rx.nodesL_le (flatR 4 l) k
    refine w_region ?_
    refine l_cons rfl (p_move ?_)
    refine l_cons rfl (p_move ?_)
    refine l_cons rfl (p_move ?_)
    refine l_cons rfl (p_ixl sl_27 ?_)
    refine l_cons rfl (p_loadf ty_29 ?_)
    refine l_cons rfl (p_callr en_63 (refCopy _ ((flatR 4 l)[k]'(by omega)) _ (Nat.le_refl _) (by have := Rx.nodes_mem (l := (flatR 4 l)) (k := k) (by omega); omega)) ?_)
    refine l_cons rfl (p_buildList sl_27 ze_29 ?_)
    refine l_cons rfl (p_append sl_27 by_29 ze_29 (fun s34 => ?_) (hb := by simp only [List.length_map, List.length_take, List.length_drop, List.length_append, List.length_cons, List.length_nil, most]; omega))
    refine l_cons rfl (p_assign ?_)
    refine l_nil ?_
    refine k_blk_normal ?_
    refine k_seq_normal ?_
    refine w_region ?_
    refine l_cons rfl (p_move ?_)
    refine l_cons rfl (p_arith ?_)
    refine l_cons rfl (p_assign ?_)
    refine l_nil ?_
    refine k_seq_normal ?_
    have hk2' : ∀ j (hj : j < k + 1) (h : j < (flatR 4 l).length), ((flatR 4 l)[j]).kind ≠ 1 := fun j hj h => by
     rcases Nat.lt_or_eq_of_le (Nat.le_of_lt_succ hj) with h9 | h9
     ·exact hk2 j h9 h
     ·subst h9; assumption
    first
    | exact ⟨(flatR 4 l).length - (k + 1), by omega, k + 1, s34, rfl, by omega, hk2', by rw [catOuts_succ _ (by omega), if_neg h3', List.map_append] <;> rfl, by simp only [Knows, put, upd_apply, Nat.reduceEqDiff, ↓reduceIte, and_true, true_and, eq_self] <;> and_intros <;> rfl⟩
    | exact ⟨(flatR 4 l).length - (k + 1), by omega, k + 1, s3, rfl, by omega, hk2', by rw [catOuts_succ _ (by omega), if_pos h3', List.append_nil] <;> rfl, by simp only [Knows, put, upd_apply, Nat.reduceEqDiff, ↓reduceIte, and_true, true_and, eq_self] <;> and_intros <;> rfl⟩
   ·skip
    have h3' := h3; (try simp only [decide_eq_true_eq, decide_eq_false_iff_not, Bool.not_eq_true', Bool.not_false, Bool.not_true, Bool.not_eq_false'] at h3')
    refine w_skip ?_
    refine k_blk_normal ?_
    refine k_seq_normal ?_
    refine w_region ?_
    refine l_cons rfl (p_move ?_)
    refine l_cons rfl (p_arith ?_)
    refine l_cons rfl (p_assign ?_)
    refine l_nil ?_
    refine k_seq_normal ?_
    have hk2' : ∀ j (hj : j < k + 1) (h : j < (flatR 4 l).length), ((flatR 4 l)[j]).kind ≠ 1 := fun j hj h => by
     rcases Nat.lt_or_eq_of_le (Nat.le_of_lt_succ hj) with h9 | h9
     ·exact hk2 j h9 h
     ·subst h9; assumption
    first
    | exact ⟨(flatR 4 l).length - (k + 1), by omega, k + 1, s34, rfl, by omega, hk2', by rw [catOuts_succ _ (by omega), if_neg h3', List.map_append] <;> rfl, by simp only [Knows, put, upd_apply, Nat.reduceEqDiff, ↓reduceIte, and_true, true_and, eq_self] <;> and_intros <;> rfl⟩
    | exact ⟨(flatR 4 l).length - (k + 1), by omega, k + 1, s3, rfl, by omega, hk2', by rw [catOuts_succ _ (by omega), if_pos h3', List.append_nil] <;> rfl, by simp only [Knows, put, upd_apply, Nat.reduceEqDiff, ↓reduceIte, and_true, true_and, eq_self] <;> and_intros <;> rfl⟩
 ·skip
  have h1' := h1; (try simp only [decide_eq_true_eq, decide_eq_false_iff_not, Bool.not_eq_true', Bool.not_false, Bool.not_true, Bool.not_eq_false'] at h1')
  refine w_exit ?_
  refine k_seq_exit ?_
  refine k_seq_exit ?_
  refine k_blk_here ?_
  refine k_seq_normal ?_
  refine w_seq ?_
  refine w_seq ?_
  refine w_freezeTop 3 ?_ (hclean := cleans_rx _)
  obtain rfl : k = (flatR 4 l).length := by omega
  rw [List.take_length]
  have hcs := cat_some (l := l) (fun j hj => hk2 j hj hj)
  refine w_region ?_
  refine l_cons rfl (p_move ?_)
  refine l_cons rfl (p_lenl sl_27 ?_)
  refine l_cons rfl (p_cmp ?_)
  refine l_nil ?_
  refine k_seq_normal ?_
  refine w_b (fun h4 => ?_) (fun h4 => ?_)
  ·skip
   have h4' := h4; (try simp only [decide_eq_true_eq, decide_eq_false_iff_not, Bool.not_eq_true', Bool.not_false, Bool.not_true, Bool.not_eq_false'] at h4')
   refine w_seq ?_
   refine w_region ?_
   refine l_cons rfl (p_callr en_85 (refEmpty) ?_)
   refine l_cons rfl (p_store ty_29 ?_)
   refine l_nil ?_
   refine k_seq_normal ?_
   refine w_ret ?_
   refine k_seq_ret ?_
   rw [← catOf_nil (l := catOuts (flatR 4 l)) (by omega), ← hcs]
   exact retc rfl ty_29 (by first | exact Sub.refl _ | exact sub1 _ _ | exact sub2 _ _ _ | exact sub3 _ _ _ _ | exact sub4 _ _ _ _ _ | exact sub5 _ _ _ _ _ _) ⟨rfl, rfl⟩
  ·skip
   have h4' := h4; (try simp only [decide_eq_true_eq, decide_eq_false_iff_not, Bool.not_eq_true', Bool.not_false, Bool.not_true, Bool.not_eq_false'] at h4')
   refine w_skip ?_
   refine k_seq_normal ?_
   refine w_seq ?_
   refine w_seq ?_
   refine w_region ?_
   refine l_cons rfl (p_move ?_)
   refine l_cons rfl (p_lenl sl_27 ?_)
   refine l_cons rfl (p_cmp ?_)
   refine l_nil ?_
   refine k_seq_normal ?_
   refine w_b (fun h5 => ?_) (fun h5 => ?_)
   ·skip
    have h5' := h5; (try simp only [decide_eq_true_eq, decide_eq_false_iff_not, Bool.not_eq_true', Bool.not_false, Bool.not_true, Bool.not_eq_false'] at h5')
    refine w_seq ?_
    refine w_region ?_
    refine l_cons rfl (p_move ?_)
    refine l_cons rfl (p_ixl sl_27 ?_)
    refine l_cons rfl (p_loadf ty_29 ?_)
    refine l_cons rfl (p_store ty_29 ?_)
    refine l_nil ?_
    refine k_seq_normal ?_
    refine w_ret ?_
    refine k_seq_ret ?_
    rw [hcs, catOf_one (by omega)]
    exact retc rfl ty_29 (by first | exact Sub.refl _ | exact sub1 _ _ | exact sub2 _ _ _ | exact sub3 _ _ _ _ | exact sub4 _ _ _ _ _ | exact sub5 _ _ _ _ _ _) ⟨rfl, rfl⟩
   ·skip
    have h5' := h5; (try simp only [decide_eq_true_eq, decide_eq_false_iff_not, Bool.not_eq_true', Bool.not_false, Bool.not_true, Bool.not_eq_false'] at h5')
    refine w_skip ?_
    refine k_seq_normal ?_
    refine w_seq ?_
    refine w_region ?_
    refine l_cons rfl (p_move ?_)
    refine l_cons rfl (p_build ze_29 pl_29 ?_)
    refine l_cons rfl (p_store ty_29 ?_)
    refine l_nil ?_
    refine k_seq_normal ?_
    refine w_ret ?_
    rw [hcs, catOf_two (by omega), Rx.cells_eq]
    exact retc rfl ty_29 (by first | exact Sub.refl _ | exact sub1 _ _ | exact sub2 _ _ _ | exact sub3 _ _ _ _ | exact sub4 _ _ _ _ _ | exact sub5 _ _ _ _ _ _) ⟨rfl, rfl⟩
theorem refAlt {w0 : World} {es : List Ent} (l : List Rx) (ho : ∀ r ∈ l, r.ok) (hn : Rx.nodesL l ≤ 1048000) : ACalls Tryd.prog w0 40 [.list 6 (l.map Rx.cells)] es fun v es' => v = .agg (altR l).cells ∧ es' = es := by
 refine calls1 (N := 57) Tryd.func40 rfl rfl (by decide) ?_
 refine w_seq ?_
 refine w_region ?_
 refine l_cons rfl (p_alloc ze_29 fun s2 => ?_)
 refine l_nil ?_
 refine k_seq_normal ?_
 refine w_seq ?_
 have hfn := flat_nodes 5 l
 have hfl := Rx.len_le (flatR 5 l)
 have hfo := flat_ok (k := 5) ho
 refine w_region ?_
 refine l_cons rfl (p_assign ?_)
 refine l_nil ?_
 refine k_seq_normal ?_
 refine w_seq ?_
 refine w_nilList 3 6 ?_
 simp only [upd_upd]
 refine w_region ?_
 refine l_cons rfl (p_alloc ze_26 fun s4 => ?_)
 refine l_nil ?_
 refine k_seq_normal ?_
 refine w_seq ?_
 refine w_region ?_
 refine l_cons rfl (p_move ?_)
 refine l_cons rfl (p_callr en_83 (refFlat 5 l (by omega)) ?_)
 refine l_cons rfl (p_assign ?_)
 refine l_nil ?_
 refine k_seq_normal ?_
 refine w_seq ?_
 refine w_seq ?_
 refine w_region ?_
 refine l_cons rfl (p_assign ?_)
 refine l_nil ?_
 refine k_seq_normal ?_
 refine w_block ?_
 refine w_loop (fun m f es' => ∃ k, m = (flatR 5 l).length - k ∧ k ≤ (flatR 5 l).length ∧ es' = .row s4 26 4 [[.int .u64 (altSet noSet ((flatR 5 l).take k)).w0, .int .u64 (altSet noSet ((flatR 5 l).take k)).w1, .int .u64 (altSet noSet ((flatR 5 l).take k)).w2, .int .u64 (altSet noSet ((flatR 5 l).take k)).w3]] :: .row s2 29 6 [[.int .i64 0, .int .u64 0, .int .u64 0, .int .u64 0, .int .u64 0, .nil]] :: es ∧ Knows f [(2, .ptr es.length s2 0 0), (3, .list 6 ((altOuts [] ((flatR 5 l).take k)).map Rx.cells)), (4, .ptr (es.length + 1) s4 0 0), (5, .list 6 ((flatR 5 l).map Rx.cells)), (6, .int .i64 k)]) ((flatR 5 l).length) (⟨0, rfl, Nat.zero_le _, rfl, by simp only [Knows, put, upd_apply, Nat.reduceEqDiff, ↓reduceIte, and_true, true_and, eq_self] <;> and_intros <;> rfl⟩) ?_
 rintro m f es' ⟨k, rfl, hk1, rfl, hk⟩
 obtain ⟨hi1, hi2, hi3⟩ := altOuts_inv (flatR 5 l) hfo k hk1
 have hi4 := Rx.nodesL_le (flatR 5 l) k
 have hi5 := Rx.len_le (altOuts [] ((flatR 5 l).take k))
 refine w_pins _ (Sub.refl _) (hk) ?_
 simp only [pins]
 refine w_seq ?_
 refine w_seq ?_
 refine w_region ?_
 refine l_cons rfl (p_move ?_)
 refine l_cons rfl (p_move ?_)
 refine l_cons rfl (p_lenl sl_27 ?_)
 refine l_cons rfl (p_cmp ?_)
 refine l_nil ?_
 refine k_seq_normal ?_
 refine w_b (fun h1 => ?_) (fun h1 => ?_)
 ·skip
  have h1' := h1; (try simp only [decide_eq_true_eq, decide_eq_false_iff_not, Bool.not_eq_true', Bool.not_false, Bool.not_true, Bool.not_eq_false'] at h1')
  refine w_skip ?_
  refine k_seq_normal ?_
  refine w_seq ?_
  refine w_block ?_
  refine w_seq ?_
  refine w_region ?_
  refine l_cons rfl (p_move ?_)
  refine l_cons rfl (p_move ?_)
  refine l_cons rfl (p_ixl sl_27 ?_)
  refine l_cons rfl (p_faf fa_29_0 ?_)
  refine l_cons rfl (p_loadf ty_3 ?_)
  refine l_nil ?_
  refine k_seq_normal ?_
  refine w_block ?_
  refine w_seq ?_
  refine w_region ?_
  refine l_cons rfl (p_cmp ?_)
  refine l_cons rfl (p_assign ?_)
  refine l_nil ?_
  refine k_seq_normal ?_
  refine w_b (fun h2 => ?_) (fun h2 => ?_)
  ·skip
   have h2' := h2; (try simp only [decide_eq_true_eq, decide_eq_false_iff_not, Bool.not_eq_true', Bool.not_false, Bool.not_true, Bool.not_eq_false'] at h2')
   refine w_skip ?_
   refine k_blk_normal ?_
   refine k_blk_normal ?_
   refine k_seq_normal ?_
   refine w_region ?_
   refine l_cons rfl (p_move ?_)
   refine l_cons rfl (p_arith ?_)
   refine l_cons rfl (p_assign ?_)
   refine l_nil ?_
   refine k_seq_normal ?_
   refine ⟨(flatR 5 l).length - (k + 1), by omega, k + 1, rfl, by omega, ?_, ?_⟩
   ·rw [altSet_succ _ (by omega)]
    first | rw [if_neg (by omega)] | (rw [if_pos (by omega)] <;> rfl)
   ·rw [altOuts_succ _ (by omega)]
    first
    | (rw [if_pos (by omega)]; exact by simp only [Knows, put, upd_apply, Nat.reduceEqDiff, ↓reduceIte, and_true, true_and, eq_self] <;> and_intros <;> rfl)
    | (rw [if_neg (by omega)]; exact by simp only [Knows, put, upd_apply, Nat.reduceEqDiff, ↓reduceIte, and_true, true_and, eq_self] <;> and_intros <;> rfl)
  ·skip
   have h2' := h2; (try simp only [decide_eq_true_eq, decide_eq_false_iff_not, Bool.not_eq_true', Bool.not_false, Bool.not_true, Bool.not_eq_false'] at h2')
   refine w_seq ?_
   refine w_region ?_
   refine l_cons rfl (p_cmp ?_)
   refine l_cons rfl (p_assign ?_)
   refine l_nil ?_
   refine k_seq_normal ?_
   refine w_b (fun h3 => ?_) (fun h3 => ?_)
   ·skip
    have h3' := h3; (try simp only [decide_eq_true_eq, decide_eq_false_iff_not, Bool.not_eq_true', Bool.not_false, Bool.not_true, Bool.not_eq_false'] at h3')
    refine w_drawn 6 [] (fun e => e = _) mixed (by kernel_rfl) rfl ?_
    refine q1 4 (hg := rfl) (hu := rfl) (h := by rintro f _ rfl; exact p_loadp ty_26 ⟨rfl, rfl⟩) (k := ?_)
    refine q1 5 (hg := rfl) (hu := rfl) (h := by rintro f _ rfl; exact p_move ⟨rfl, rfl⟩) (k := ?_)
    refine q1 6 (hg := rfl) (hu := rfl) (h := by rintro f _ rfl; exact p_move ⟨rfl, rfl⟩) (k := ?_)
    refine q2 32 33 (hg := rfl) (hu := rfl) (h := by rintro f _ rfl; exact p_ixl sl_27 ⟨rfl, rfl⟩) (k := ?_)
    refine q1 34 (hg := rfl) (hu := rfl) (h := by rintro f _ rfl; exact p_faf fa_29_1 ⟨rfl, rfl⟩) (k := ?_)
    refine q1 35 (hg := rfl) (hu := rfl) (h := by rintro f _ rfl; exact p_loadf ty_26 (a := .agg ((flatR 5 l)[k]'(by omega)).set.row) ⟨rfl, rfl⟩ (ha := set_load _)) (k := ?_)
    refine q_end ?_
    refine m_end ?_
    refine l_cons rfl (p_callr en_86 (refOr (altSet noSet ((flatR 5 l).take k)) ((flatR 5 l)[k]'(by omega)).set hi3 (hfo _ (List.getElem_mem _)).set) ?_)
    refine l_cons rfl (p_store ty_26 ?_)
    refine l_nil ?_
    refine k_blk_normal ?_
    refine k_blk_normal ?_
    refine k_seq_normal ?_
    refine w_region ?_
    refine l_cons rfl (p_move ?_)
    refine l_cons rfl (p_arith ?_)
    refine l_cons rfl (p_assign ?_)
    refine l_nil ?_
    refine k_seq_normal ?_
    refine ⟨(flatR 5 l).length - (k + 1), by omega, k + 1, rfl, by omega, ?_, ?_⟩
    ·rw [altSet_succ _ (by omega)]
     first | rw [if_neg (by omega)] | (rw [if_pos (by omega)] <;> rfl)
    ·rw [altOuts_succ _ (by omega)]
     first
     | (rw [if_pos (by omega)]; exact by simp only [Knows, put, upd_apply, Nat.reduceEqDiff, ↓reduceIte, and_true, true_and, eq_self] <;> and_intros <;> rfl)
     | (rw [if_neg (by omega)]; exact by simp only [Knows, put, upd_apply, Nat.reduceEqDiff, ↓reduceIte, and_true, true_and, eq_self] <;> and_intros <;> rfl)
   ·skip
    have h3' := h3; (try simp only [decide_eq_true_eq, decide_eq_false_iff_not, Bool.not_eq_true', Bool.not_false, Bool.not_true, Bool.not_eq_false'] at h3')
    refine w_region ?_
    refine l_cons rfl (p_move ?_)
    refine l_cons rfl (p_move ?_)
    refine l_cons rfl (p_move ?_)
    refine l_cons rfl (p_ixl sl_27 ?_)
    refine l_cons rfl (p_loadf ty_29 ?_)
    refine l_cons rfl (p_callr en_63 (refCopy _ ((flatR 5 l)[k]'(by omega)) _ (Nat.le_refl _) (by have := Rx.nodes_mem (l := (flatR 5 l)) (k := k) (by omega); omega)) ?_)
    refine l_cons rfl (p_callr en_87 (refInsert (altOuts [] ((flatR 5 l).take k)) ((flatR 5 l)[k]'(by omega)) hi1 (hfo _ (List.getElem_mem _)) (by omega)) ?_)
    refine l_cons rfl (p_assign ?_)
    refine l_nil ?_
    refine k_blk_normal ?_
    refine k_blk_normal ?_
    refine k_seq_normal ?_
    refine w_region ?_
    refine l_cons rfl (p_move ?_)
    refine l_cons rfl (p_arith ?_)
    refine l_cons rfl (p_assign ?_)
    refine l_nil ?_
    refine k_seq_normal ?_
    refine ⟨(flatR 5 l).length - (k + 1), by omega, k + 1, rfl, by omega, ?_, ?_⟩
    ·rw [altSet_succ _ (by omega)]
     first | rw [if_neg (by omega)] | (rw [if_pos (by omega)] <;> rfl)
    ·rw [altOuts_succ _ (by omega)]
     first
     | (rw [if_pos (by omega)]; exact by simp only [Knows, put, upd_apply, Nat.reduceEqDiff, ↓reduceIte, and_true, true_and, eq_self] <;> and_intros <;> rfl)
     | (rw [if_neg (by omega)]; exact by simp only [Knows, put, upd_apply, Nat.reduceEqDiff, ↓reduceIte, and_true, true_and, eq_self] <;> and_intros <;> rfl)
 ·skip
  have h1' := h1; (try simp only [decide_eq_true_eq, decide_eq_false_iff_not, Bool.not_eq_true', Bool.not_false, Bool.not_true, Bool.not_eq_false'] at h1')
  refine w_exit ?_
  refine k_seq_exit ?_
  refine k_seq_exit ?_
  refine k_blk_here ?_
  refine k_seq_normal ?_
  refine w_seq ?_
  refine w_seq ?_
  obtain rfl : k = (flatR 5 l).length := by omega
  refine w_region ?_
  refine l_cons rfl (p_loadp ty_26 ?_)
  refine l_cons rfl (p_buildArr ze_26 ar_26 ?_)
  refine l_cons rfl (p_nea ai_26 ?_ (hb := neA (altSet noSet ((flatR 5 l).take (flatR 5 l).length)) noSet))
  refine l_nil ?_
  refine k_seq_normal ?_
  refine w_b (fun h4 => ?_) (fun h4 => ?_)
  ·skip
   have h4' := h4; (try simp only [decide_eq_true_eq, decide_eq_false_iff_not, Bool.not_eq_true', Bool.not_false, Bool.not_true, Bool.not_eq_false'] at h4')
   have hfin := alt_res_yes (l := l) h4'
   refine w_region ?_
   refine l_cons rfl (p_move ?_)
   refine l_cons rfl (p_loadp ty_26 ?_)
   refine l_cons rfl (p_callr en_67 (refBytes (altSet noSet ((flatR 5 l).take (flatR 5 l).length))) ?_)
   refine l_cons rfl (p_callr en_87 (refInsert (altOuts [] ((flatR 5 l).take (flatR 5 l).length)) (bytesR (altSet noSet ((flatR 5 l).take (flatR 5 l).length))) hi1 (bytesR_ok hi3) (by omega)) ?_)
   refine l_cons rfl (p_assign ?_)
   refine l_nil ?_
   refine k_seq_normal ?_
   refine w_seq ?_
   refine w_seq ?_
   refine w_region ?_
   refine l_cons rfl (p_move ?_)
   refine l_cons rfl (p_lenl sl_27 ?_)
   refine l_cons rfl (p_cmp ?_)
   refine l_nil ?_
   refine k_seq_normal ?_
   refine w_b (fun h5 => ?_) (fun h5 => ?_)
   ·skip
    have h5' := h5; (try simp only [decide_eq_true_eq, decide_eq_false_iff_not, Bool.not_eq_true', Bool.not_false, Bool.not_true, Bool.not_eq_false'] at h5')
    refine w_seq ?_
    refine w_region ?_
    refine l_cons rfl (p_callr en_84 (refNone) ?_)
    refine l_cons rfl (p_store ty_29 ?_)
    refine l_nil ?_
    refine k_seq_normal ?_
    refine w_ret ?_
    refine k_seq_ret ?_
    rw [hfin, altOf_nil (by omega)]
    exact retc rfl ty_29 (by first | exact Sub.refl _ | exact sub1 _ _ | exact sub2 _ _ _ | exact sub3 _ _ _ _ | exact sub4 _ _ _ _ _ | exact sub5 _ _ _ _ _ _) ⟨rfl, rfl⟩
   ·skip
    have h5' := h5; (try simp only [decide_eq_true_eq, decide_eq_false_iff_not, Bool.not_eq_true', Bool.not_false, Bool.not_true, Bool.not_eq_false'] at h5')
    refine w_skip ?_
    refine k_seq_normal ?_
    refine w_seq ?_
    refine w_seq ?_
    refine w_region ?_
    refine l_cons rfl (p_move ?_)
    refine l_cons rfl (p_lenl sl_27 ?_)
    refine l_cons rfl (p_cmp ?_)
    refine l_nil ?_
    refine k_seq_normal ?_
    refine w_b (fun h6 => ?_) (fun h6 => ?_)
    ·skip
     have h6' := h6; (try simp only [decide_eq_true_eq, decide_eq_false_iff_not, Bool.not_eq_true', Bool.not_false, Bool.not_true, Bool.not_eq_false'] at h6')
     refine w_seq ?_
     refine w_region ?_
     refine l_cons rfl (p_move ?_)
     refine l_cons rfl (p_ixl sl_27 ?_)
     refine l_cons rfl (p_loadf ty_29 ?_)
     refine l_cons rfl (p_store ty_29 ?_)
     refine l_nil ?_
     refine k_seq_normal ?_
     refine w_ret ?_
     refine k_seq_ret ?_
     rw [hfin, altOf_one (by omega)]
     exact retc rfl ty_29 (by first | exact Sub.refl _ | exact sub1 _ _ | exact sub2 _ _ _ | exact sub3 _ _ _ _ | exact sub4 _ _ _ _ _ | exact sub5 _ _ _ _ _ _) ⟨rfl, rfl⟩
    ·skip
     have h6' := h6; (try simp only [decide_eq_true_eq, decide_eq_false_iff_not, Bool.not_eq_true', Bool.not_false, Bool.not_true, Bool.not_eq_false'] at h6')
     refine w_skip ?_
     refine k_seq_normal ?_
     refine w_seq ?_
     refine w_region ?_
     refine l_cons rfl (p_move ?_)
     refine l_cons rfl (p_build ze_29 pl_29 ?_)
     refine l_cons rfl (p_store ty_29 ?_)
     refine l_nil ?_
     refine k_seq_normal ?_
     refine w_ret ?_
     rw [hfin, altOf_two (by omega), Rx.cells_eq]
     exact retc rfl ty_29 (by first | exact Sub.refl _ | exact sub1 _ _ | exact sub2 _ _ _ | exact sub3 _ _ _ _ | exact sub4 _ _ _ _ _ | exact sub5 _ _ _ _ _ _) ⟨rfl, rfl⟩
  ·skip
   have h4' := h4; (try simp only [decide_eq_true_eq, decide_eq_false_iff_not, Bool.not_eq_true', Bool.not_false, Bool.not_true, Bool.not_eq_false'] at h4')
   have hfin := alt_res_no (l := l) h4'
   refine w_skip ?_
   refine k_seq_normal ?_
   refine w_seq ?_
   refine w_seq ?_
   refine w_region ?_
   refine l_cons rfl (p_move ?_)
   refine l_cons rfl (p_lenl sl_27 ?_)
   refine l_cons rfl (p_cmp ?_)
   refine l_nil ?_
   refine k_seq_normal ?_
   refine w_b (fun h7 => ?_) (fun h7 => ?_)
   ·skip
    have h7' := h7; (try simp only [decide_eq_true_eq, decide_eq_false_iff_not, Bool.not_eq_true', Bool.not_false, Bool.not_true, Bool.not_eq_false'] at h7')
    refine w_seq ?_
    refine w_region ?_
    refine l_cons rfl (p_callr en_84 (refNone) ?_)
    refine l_cons rfl (p_store ty_29 ?_)
    refine l_nil ?_
    refine k_seq_normal ?_
    refine w_ret ?_
    refine k_seq_ret ?_
    rw [hfin, altOf_nil (by omega)]
    exact retc rfl ty_29 (by first | exact Sub.refl _ | exact sub1 _ _ | exact sub2 _ _ _ | exact sub3 _ _ _ _ | exact sub4 _ _ _ _ _ | exact sub5 _ _ _ _ _ _) ⟨rfl, rfl⟩
   ·skip
    have h7' := h7; (try simp only [decide_eq_true_eq, decide_eq_false_iff_not, Bool.not_eq_true', Bool.not_false, Bool.not_true, Bool.not_eq_false'] at h7')
    refine w_skip ?_
    refine k_seq_normal ?_
    refine w_seq ?_
    refine w_seq ?_
    refine w_region ?_
    refine l_cons rfl (p_move ?_)
    refine l_cons rfl (p_lenl sl_27 ?_)
    refine l_cons rfl (p_cmp ?_)
    refine l_nil ?_
    refine k_seq_normal ?_
    refine w_b (fun h8 => ?_) (fun h8 => ?_)
    ·skip
     have h8' := h8; (try simp only [decide_eq_true_eq, decide_eq_false_iff_not, Bool.not_eq_true', Bool.not_false, Bool.not_true, Bool.not_eq_false'] at h8')
     refine w_seq ?_
     refine w_region ?_
     refine l_cons rfl (p_move ?_)
     refine l_cons rfl (p_ixl sl_27 ?_)
     refine l_cons rfl (p_loadf ty_29 ?_)
     refine l_cons rfl (p_store ty_29 ?_)
     refine l_nil ?_
     refine k_seq_normal ?_
     refine w_ret ?_
     refine k_seq_ret ?_
     rw [hfin, altOf_one (by omega)]
     exact retc rfl ty_29 (by first | exact Sub.refl _ | exact sub1 _ _ | exact sub2 _ _ _ | exact sub3 _ _ _ _ | exact sub4 _ _ _ _ _ | exact sub5 _ _ _ _ _ _) ⟨rfl, rfl⟩
    ·skip
     have h8' := h8; (try simp only [decide_eq_true_eq, decide_eq_false_iff_not, Bool.not_eq_true', Bool.not_false, Bool.not_true, Bool.not_eq_false'] at h8')
     refine w_skip ?_
     refine k_seq_normal ?_
     refine w_seq ?_
     refine w_region ?_
     refine l_cons rfl (p_move ?_)
     refine l_cons rfl (p_build ze_29 pl_29 ?_)
     refine l_cons rfl (p_store ty_29 ?_)
     refine l_nil ?_
     refine k_seq_normal ?_
     refine w_ret ?_
     rw [hfin, altOf_two (by omega), Rx.cells_eq]
     exact retc rfl ty_29 (by first | exact Sub.refl _ | exact sub1 _ _ | exact sub2 _ _ _ | exact sub3 _ _ _ _ | exact sub4 _ _ _ _ _ | exact sub5 _ _ _ _ _ _) ⟨rfl, rfl⟩
end Go.Proofs.YtfdgbghlanbddaaDoor.Av
set_option linter.unusedVariables false
set_option linter.unusedSimpArgs false
set_option maxRecDepth 8000
namespace Go.Proofs.YtfdgbghlanbddaaDoor.Av
open Go.RowKit Go.Proofs
theorem cells1 {P : Program} {w0 : World} {fid : FuncId} {r : Rx} {es : List Ent} {R : AV → List Ent → Prop} (h : ACalls P w0 fid [.agg r.cells] es R) : ACalls P w0 fid [.agg [.int .i64 r.kind, .int .u64 r.set.w0, .int .u64 r.set.w1, .int .u64 r.set.w2, .int .u64 r.set.w3, .list 6 (r.args.map Rx.cells)]] es R := by
 rw [← Rx.cells_eq r]; exact h
end Go.Proofs.YtfdgbghlanbddaaDoor.Av
set_option linter.unusedVariables false
set_option linter.unusedSimpArgs false
namespace Go.Proofs.YtfdgbghlanbddaaDoor.Av
/-! ### the machine of an expression -/
def stF (l : List Int) : St := ⟨0, 0, 0, 0, -1, l⟩
def st0 : St := stF []
def addFree (s : St) (j : Nat) : St := ⟨s.w0, s.w1, s.w2, s.w3, s.to, s.free ++ [(j : Int)]⟩
def bFree (ns : List St) (i j : Nat) : List St := match ns[i]? with
 | some s => ns.set i (addFree s j)
 | none => ns
theorem bFree_len (ns : List St) (i j : Nat) : (bFree ns i j).length = ns.length := by
 unfold bFree
 split
 ·rw [List.length_set]
 ·rfl
theorem bFree_eq {ns : List St} {i : Nat} (h : i < ns.length) (j : Nat) : bFree ns i j = ns.set i (addFree ns[i] j) := by
 unfold bFree
 rw [List.getElem?_eq_getElem h]
mutual
def bPart : Rx → List St → List St × Nat × Nat
 | .mk k s l, ns =>
  if k = 3 then (ns ++ [st0, ⟨s.w0, s.w1, s.w2, s.w3, (ns.length : Int), []⟩], ns.length + 1, ns.length)
  else if k = 4 then bCat l ns
  else if k = 5 then bAltGo l (ns ++ [st0]) none ns.length
  else if k = 6 then bStar l ns
  else if k = 2 then (bFree (ns ++ [st0, st0]) ns.length (ns.length + 1), ns.length, ns.length + 1)
  else (ns ++ [st0, st0], ns.length, ns.length + 1)
def bStar : List Rx → List St → List St × Nat × Nat
 | [], ns => (ns, 0, 0)
 | a :: _, ns => (bFree (bFree (bFree (bPart a (ns ++ [st0, st0])).1 ns.length (bPart a (ns ++ [st0, st0])).2.1) (bPart a (ns ++ [st0, st0])).2.2 ns.length) ns.length (ns.length + 1), ns.length, ns.length + 1)
def bCat : List Rx → List St → List St × Nat × Nat
 | [], ns => (ns, 0, 0)
 | a :: t, ns => bCatGo t (bPart a ns).1 (bPart a ns).2.1 (bPart a ns).2.2
def bCatGo : List Rx → List St → Nat → Nat → List St × Nat × Nat
 | [], ns, f, t => (ns, f, t)
 | a :: r, ns, f, t => bCatGo r (bFree (bPart a ns).1 t (bPart a ns).2.1) f (bPart a ns).2.2
def bAltGo : List Rx → List St → Option (Nat × Nat) → Nat → List St × Nat × Nat
 | [], ns, fl, t => (ns, (fl.getD (0, 0)).1, t)
 | a :: r, ns, none, t => bAltGo r (bFree (bPart a ns).1 (bPart a ns).2.2 t ++ [stF [((bPart a ns).2.1 : Int)]]) (some ((bPart a ns).1.length, (bPart a ns).1.length)) t
 | a :: r, ns, some (f, l), t => bAltGo r (bFree (bFree (bPart a ns).1 (bPart a ns).2.2 t ++ [stF [((bPart a ns).2.1 : Int)]]) l (bPart a ns).1.length) (some (f, (bPart a ns).1.length)) t
end
/-- How great a machine is: its states, and their ways. -/
def wt (ns : List St) : Nat := ns.length + (ns.map fun s => s.free.length).sum
theorem wt_append (a b : List St) : wt (a ++ b) = wt a + wt b := by
 unfold wt
 rw [List.length_append, List.map_append, List.sum_append]
 omega
theorem wt_free (ns : List St) (i j : Nat) : wt (bFree ns i j) ≤ wt ns + 1 := by
 by_cases h : i < ns.length
 ·rw [bFree_eq h]
  unfold wt
  rw [List.length_set]
  have : ∀ (l : List St) (i : Nat) (h : i < l.length) (s : St), ((l.set i s).map fun s => s.free.length).sum + l[i].free.length = (l.map fun s => s.free.length).sum + s.free.length := by
   intro l
   induction l with
   | nil => intro i h; simp at h
   | cons a t ih =>
    intro i h s
    cases i with
    | zero => simp; omega
    | succ i =>
     have := ih i (by simpa using h) s
     simp only [List.set_cons_succ, List.map_cons, List.sum_cons, List.getElem_cons_succ]
     omega
  have h2 := this ns i h (addFree ns[i] j)
  simp only [addFree, List.length_append, List.length_cons, List.length_nil] at h2
  simp only [addFree]
  omega
 ·unfold bFree
  rw [List.getElem?_eq_none (by omega)]
  simp only
  omega
theorem wt_len (ns : List St) : ns.length ≤ wt ns := by unfold wt; omega
theorem wt_mem {ns : List St} {k : Nat} (h : k < ns.length) : ns[k].free.length ≤ wt ns := by
 unfold wt
 have : ns[k].free.length ≤ (ns.map fun s => s.free.length).sum := by
  have : ∀ (l : List St) (k : Nat) (h : k < l.length), l[k].free.length ≤ (l.map fun s => s.free.length).sum := by
   intro l
   induction l with
   | nil => intro k h; simp at h
   | cons a t ih =>
    intro k h
    cases k with
    | zero => simp
    | succ k =>
     have := ih k (by simpa using h)
     simp only [List.map_cons, List.sum_cons, List.getElem_cons_succ]
     omega
  exact this ns k h
 omega
theorem wt_st0 : wt [st0] = 1 := rfl
theorem wt_st00 : wt [st0, st0] = 2 := rfl
/-- Whatever must have a part has one. -/
def okArgs (k : Int) (l : List Rx) : Prop := (k = 4 → l ≠ []) ∧ (k = 5 → l ≠ []) ∧ (k = 6 → l ≠ [])
mutual
def Rx.fit : Rx → Prop
 | .mk k _ l => okArgs k l ∧ Rx.fitL l
def Rx.fitL : List Rx → Prop
 | [] => True
 | r :: t => r.fit ∧ Rx.fitL t
end
theorem Rx.fitL_iff : ∀ l : List Rx, Rx.fitL l ↔ ∀ r ∈ l, r.fit
 | [] => by simp [Rx.fitL]
 | r :: t => by simp [Rx.fitL, Rx.fitL_iff t]
/-- What is so of each step of the building. -/
structure Built (ns : List St) (B : Nat) (p : List St × Nat × Nat) : Prop where
 len : ns.length ≤ p.1.length
 f : p.2.1 < p.1.length
 t : p.2.2 < p.1.length
 wt : wt p.1 ≤ wt ns + B
mutual
theorem built_part : ∀ (r : Rx) (ns : List St), r.fit → Built ns (8 * r.nodes - 4) (bPart r ns)
 | .mk k s l, ns, h => by
  simp only [Rx.fit] at h
  simp only [bPart, Rx.nodes]
  split
  ·refine ⟨by simp, by simp, by simp, ?_⟩
   rw [wt_append]
   have : wt [st0, ⟨s.w0, s.w1, s.w2, s.w3, (ns.length : Int), []⟩] = 2 := rfl
   omega
  ·split
   ·rename_i hk
    have := built_cat l ns h.2 (h.1.1 hk)
    exact ⟨this.len, this.f, this.t, by have := this.wt; omega⟩
   ·split
    ·rename_i hk
     have := built_alt l (ns ++ [st0]) none ns.length h.2 (by simp) (.inl (h.1.2.1 hk)) (fun f l e => by cases e)
     have h2 := this.len
     rw [List.length_append] at h2
     refine ⟨by simp at h2; omega, this.f, this.t, ?_⟩
     have h3 := this.wt
     rw [wt_append, wt_st0] at h3
     omega
    ·split
     ·rename_i hk
      have := built_star l ns h.2 (h.1.2.2 hk)
      exact ⟨this.len, this.f, this.t, by have := this.wt; omega⟩
     ·split
      ·refine ⟨by simp [bFree_len], by simp [bFree_len], by simp [bFree_len], ?_⟩
       have := wt_free (ns ++ [st0, st0]) ns.length (ns.length + 1)
       rw [wt_append, wt_st00] at this
       simp only
       omega
      ·refine ⟨by simp, by simp, by simp, ?_⟩
       rw [wt_append, wt_st00]
       omega
theorem built_star : ∀ (l : List Rx) (ns : List St), Rx.fitL l → l ≠ [] → Built ns (8 * Rx.nodesL l + 4) (bStar l ns)
 | [], ns, _, h => absurd rfl h
 | a :: t, ns, h, _ => by
  simp only [Rx.fitL] at h
  have p := built_part a (ns ++ [st0, st0]) h.1
  have hnp := a.nodes_pos
  have h1 := p.len
  have h2 := p.wt
  rw [wt_append, wt_st00] at h2
  simp only [List.length_append, List.length_cons, List.length_nil] at h1
  simp only [bStar, Rx.nodesL]
  refine ⟨by simp only [bFree_len]; omega, by simp only [bFree_len]; omega, by simp only [bFree_len]; omega, ?_⟩
  simp only
  have w1 := wt_free (bPart a (ns ++ [st0, st0])).1 ns.length (bPart a (ns ++ [st0, st0])).2.1
  have w2 := wt_free (bFree (bPart a (ns ++ [st0, st0])).1 ns.length (bPart a (ns ++ [st0, st0])).2.1) (bPart a (ns ++ [st0, st0])).2.2 ns.length
  have w3 := wt_free (bFree (bFree (bPart a (ns ++ [st0, st0])).1 ns.length (bPart a (ns ++ [st0, st0])).2.1) (bPart a (ns ++ [st0, st0])).2.2 ns.length) ns.length (ns.length + 1)
  omega
theorem built_cat : ∀ (l : List Rx) (ns : List St), Rx.fitL l → l ≠ [] → Built ns (8 * Rx.nodesL l) (bCat l ns)
 | [], ns, _, h => absurd rfl h
 | a :: t, ns, h, _ => by
  simp only [Rx.fitL] at h
  have p := built_part a ns h.1
  have hnp := a.nodes_pos
  have q := built_catGo t (bPart a ns).1 (bPart a ns).2.1 (bPart a ns).2.2 h.2 p.f p.t
  simp only [bCat, Rx.nodesL, List.length_cons]
  exact ⟨Nat.le_trans p.len q.len, q.f, q.t, by have := p.wt; have := q.wt; omega⟩
theorem built_catGo : ∀ (l : List Rx) (ns : List St) (f t : Nat), Rx.fitL l → f < ns.length → t < ns.length → Built ns (8 * Rx.nodesL l) (bCatGo l ns f t)
 | [], ns, f, t, _, hf, ht => by simp only [bCatGo]; exact ⟨Nat.le_refl _, hf, ht, Nat.le_add_right _ _⟩
 | a :: r, ns, f, t, h, hf, ht => by
  simp only [Rx.fitL] at h
  have p := built_part a ns h.1
  have hnp := a.nodes_pos
  have h1 := p.len
  have h2 := p.f
  have h3 := p.t
  have q := built_catGo r (bFree (bPart a ns).1 t (bPart a ns).2.1) f (bPart a ns).2.2 h.2 (by rw [bFree_len]; omega) (by rw [bFree_len]; omega)
  simp only [bCatGo, Rx.nodesL, List.length_cons]
  have h4 := q.len
  rw [bFree_len] at h4
  have w1 := wt_free (bPart a ns).1 t (bPart a ns).2.1
  exact ⟨by omega, q.f, q.t, by have := p.wt; have := q.wt; omega⟩
theorem built_alt : ∀ (l : List Rx) (ns : List St) (fl : Option (Nat × Nat)) (t : Nat), Rx.fitL l → t < ns.length → (l ≠ [] ∨ fl ≠ none) → (∀ f l, fl = some (f, l) → f < ns.length ∧ l < ns.length) → Built ns (8 * Rx.nodesL l) (bAltGo l ns fl t)
 | [], ns, fl, t, _, ht, he, hfl => by
  simp only [bAltGo]
  match fl, he, hfl with
  | none, he, _ => simp at he
  | some (f, l), _, hfl => exact ⟨Nat.le_refl _, (hfl f l rfl).1, ht, Nat.le_add_right _ _⟩
 | a :: r, ns, none, t, h, ht, _, _ => by
  simp only [Rx.fitL] at h
  have p := built_part a ns h.1
  have hnp := a.nodes_pos
  have h1 := p.len
  have q := built_alt r (bFree (bPart a ns).1 (bPart a ns).2.2 t ++ [stF [((bPart a ns).2.1 : Int)]]) (some ((bPart a ns).1.length, (bPart a ns).1.length)) t h.2 (by simp [bFree_len]; omega) (.inr (by simp)) (fun f l e => by
   simp only [Option.some.injEq, Prod.mk.injEq] at e
   obtain ⟨rfl, rfl⟩ := e
   simp [bFree_len])
  simp only [bAltGo, Rx.nodesL, List.length_cons]
  have h4 := q.len
  simp only [List.length_append, bFree_len, List.length_cons, List.length_nil] at h4
  have h5 := q.wt
  rw [wt_append] at h5
  have w1 := wt_free (bPart a ns).1 (bPart a ns).2.2 t
  have w2 : wt [stF [((bPart a ns).2.1 : Int)]] = 2 := rfl
  exact ⟨by omega, q.f, q.t, by have := p.wt; omega⟩
 | a :: r, ns, some (f0, l0), t, h, ht, _, hfl => by
  simp only [Rx.fitL] at h
  have p := built_part a ns h.1
  have hnp := a.nodes_pos
  have h1 := p.len
  obtain ⟨g1, g2⟩ := hfl f0 l0 rfl
  have q := built_alt r (bFree (bFree (bPart a ns).1 (bPart a ns).2.2 t ++ [stF [((bPart a ns).2.1 : Int)]]) l0 (bPart a ns).1.length) (some (f0, (bPart a ns).1.length)) t h.2 (by simp [bFree_len]; omega) (.inr (by simp)) (fun f l e => by
   simp only [Option.some.injEq, Prod.mk.injEq] at e
   obtain ⟨rfl, rfl⟩ := e
   simp [bFree_len]; omega)
  simp only [bAltGo, Rx.nodesL, List.length_cons]
  have h4 := q.len
  simp only [List.length_append, bFree_len, List.length_cons, List.length_nil] at h4
  have h5 := q.wt
  have w0 := wt_free (bFree (bPart a ns).1 (bPart a ns).2.2 t ++ [stF [((bPart a ns).2.1 : Int)]]) l0 (bPart a ns).1.length
  rw [wt_append] at w0
  have w1 := wt_free (bPart a ns).1 (bPart a ns).2.2 t
  have w2 : wt [stF [((bPart a ns).2.1 : Int)]] = 2 := rfl
  exact ⟨by omega, q.f, q.t, by have := p.wt; omega⟩
end
mutual
theorem plain_fit : ∀ r : Rx, r.plain = true → r.fit
 | .mk k s l, h => by
  simp only [Rx.plain, Bool.and_eq_true] at h
  simp only [Rx.fit]
  refine ⟨⟨fun hk => ?_, fun hk => ?_, fun hk => ?_⟩, plain_fitL l h.2⟩
  ·subst hk; have := h.1; simp [right] at this; intro e; simp [e] at this
  ·subst hk; have := h.1; simp [right] at this; intro e; simp [e] at this
  ·subst hk; have := h.1; simp [right] at this; intro e; simp [e] at this
theorem plain_fitL : ∀ l : List Rx, Rx.plainL l = true → Rx.fitL l
 | [], _ => by simp [Rx.fitL]
 | r :: t, h => by
  simp only [Rx.plainL, Bool.and_eq_true] at h
  simp only [Rx.fitL]
  exact ⟨plain_fit r h.1, plain_fitL t h.2⟩
end
end Go.Proofs.YtfdgbghlanbddaaDoor.Av
set_option linter.unusedVariables false
set_option linter.unusedSimpArgs false
namespace Go.Proofs.YtfdgbghlanbddaaDoor.Av
open Go.RowKit
/-! ### the builder's rows -/
def bRow (s : St) (m : Nat × Nat) : List AV := [.int .u64 s.w0, .int .u64 s.w1, .int .u64 s.w2, .int .u64 s.w3, .int .i64 s.to, .own m.1 m.2]
def bRows (ns : List St) (ms : List (Nat × Nat)) : List (List AV) := List.zipWith bRow ns ms
def frow (l : List Int) : List (List AV) := l.map fun n => [.int .i64 n]
def ids (ib iS : Nat) (ms : List (Nat × Nat)) : List Nat := ib :: iS :: ms.map Prod.fst
structure BI (es : List Ent) (ib sb iS sS : Nat) (ms : List (Nat × Nat)) (ns : List St) : Prop where
 b : at_ es ib = some (.row sb 94 1 [[.own iS sS]])
 s : at_ es iS = some (.row sS 75 6 (bRows ns ms))
 len : ms.length = ns.length
 f : ∀ k (h1 : k < ns.length) (h2 : k < ms.length), at_ es ms[k].1 = some (.row ms[k].2 3 1 (frow ns[k].free))
 nd : (ids ib iS ms).Nodup
def BF (es : List Ent) (ib sb : Nat) (F : List Nat) (ns : List St) : Prop := ∃ iS sS ms, BI es ib sb iS sS ms ns ∧ F = ids ib iS ms
/-- From es on to es', where the builder has ns: its rows were F, are F'. -/
structure BG (es es' : List Ent) (ib sb : Nat) (F F' : List Nat) (ns : List St) : Prop where
 bf : BF es' ib sb F' ns
 keep : ∀ id, id ∉ F → id < es.length → at_ es' id = at_ es id ∧ id ∉ F'
 len : es.length ≤ es'.length
theorem bRows_len {ns : List St} {ms : List (Nat × Nat)} (h : ms.length = ns.length) : (bRows ns ms).length = ns.length := by
 unfold bRows
 rw [List.length_zipWith]
 omega
theorem bRows_at {ns : List St} {ms : List (Nat × Nat)} (h : ms.length = ns.length) {k : Nat} (hk : k < ns.length) : (bRows ns ms)[k]? = some (bRow ns[k] (ms[k]'(by omega))) := by
 unfold bRows
 rw [List.getElem?_zipWith, List.getElem?_eq_getElem hk, List.getElem?_eq_getElem (by omega : k < ms.length)]
theorem bRows_app {ns : List St} {ms : List (Nat × Nat)} (h : ms.length = ns.length) (s : St) (m : Nat × Nat) : bRows (ns ++ [s]) (ms ++ [m]) = bRows ns ms ++ [bRow s m] := by
 unfold bRows
 rw [List.zipWith_append h.symm]
 rfl
theorem bRows_set {ns : List St} {ms : List (Nat × Nat)} (k : Nat) (s : St) (m : Nat × Nat) : bRows (ns.set k s) (ms.set k m) = (bRows ns ms).set k (bRow s m) := by
 unfold bRows
 refine List.ext_getElem? fun i => ?_
 rw [List.getElem?_zipWith, List.getElem?_set, List.getElem?_set, List.getElem?_set, List.getElem?_zipWith, List.length_zipWith]
 by_cases hi : k = i
 ·subst hi
  simp only [if_true]
  by_cases h1 : k < ns.length
  ·by_cases h2 : k < ms.length
   ·rw [if_pos h1, if_pos h2, if_pos (by omega)]
   ·rw [if_pos h1, if_neg h2, if_neg (by omega)]
  ·rw [if_neg h1, if_neg (show ¬ k < min ns.length ms.length by omega)]
 ·simp only [if_neg hi]
theorem ms_set_same {ms : List (Nat × Nat)} {k : Nat} (h : k < ms.length) : ms.set k ms[k] = ms := List.set_getElem_self h
theorem BF.lt {es : List Ent} {ib sb : Nat} {F : List Nat} {ns : List St} (h : BF es ib sb F ns) : ∀ id ∈ F, id < es.length := by
 obtain ⟨iS, sS, ms, hb, rfl⟩ := h
 intro id hid
 simp only [ids, List.mem_cons, List.mem_map] at hid
 rcases hid with rfl | rfl | ⟨m, hm, rfl⟩
 ·exact at_lt hb.b
 ·exact at_lt hb.s
 ·obtain ⟨k, hk, rfl⟩ := List.mem_iff_getElem.1 hm
  exact at_lt (hb.f k (by have := hb.len; omega) hk)
theorem BI.push {es : List Ent} {ib sb iS sS : Nat} {ms : List (Nat × Nat)} {ns : List St} (x : Ent) (h : BI es ib sb iS sS ms ns) : BI (x :: es) ib sb iS sS ms ns :=
 ⟨at_miss _ h.b, at_miss _ h.s, h.len, fun k h1 h2 => at_miss _ (h.f k h1 h2), h.nd⟩
theorem BF.push {es : List Ent} {ib sb : Nat} {F : List Nat} {ns : List St} (x : Ent) (h : BF es ib sb F ns) : BF (x :: es) ib sb F ns := by
 obtain ⟨iS, sS, ms, hb, rfl⟩ := h
 exact ⟨iS, sS, ms, hb.push x, rfl⟩
theorem at_push {es : List Ent} {id : Nat} (x : Ent) (h : id < es.length) : at_ (x :: es) id = at_ es id := by
 simp only [at_]
 rw [if_neg (by omega)]
theorem BG.refl {es : List Ent} {ib sb : Nat} {F : List Nat} {ns : List St} (h : BF es ib sb F ns) : BG es es ib sb F F ns := ⟨h, fun _ hid _ => ⟨rfl, hid⟩, Nat.le_refl _⟩
theorem BG.trans {es1 es2 es3 : List Ent} {ib sb : Nat} {F1 F2 F3 : List Nat} {n2 n3 : List St} (h : BG es1 es2 ib sb F1 F2 n2) (k : BG es2 es3 ib sb F2 F3 n3) : BG es1 es3 ib sb F1 F3 n3 := by
 refine ⟨k.bf, fun id hid hl => ?_, Nat.le_trans h.len k.len⟩
 obtain ⟨a1, a2⟩ := h.keep id hid hl
 obtain ⟨b1, b2⟩ := k.keep id a2 (Nat.lt_of_lt_of_le hl h.len)
 exact ⟨b1.trans a1, b2⟩
/-- The same, seen from below. -/
theorem BG.pop {x : Ent} {es es' : List Ent} {ib sb : Nat} {F F' : List Nat} {ns : List St} (h : BG (x :: es) es' ib sb F F' ns) : BG es es' ib sb F F' ns := by
 refine ⟨h.bf, fun id hid hl => ?_, by have := h.len; simp only [List.length_cons] at this; omega⟩
 obtain ⟨a1, a2⟩ := h.keep id hid (by simp only [List.length_cons]; omega)
 exact ⟨a1.trans (at_push x hl), a2⟩
theorem BG.top {x : Ent} {es es' : List Ent} {ib sb : Nat} {F F' : List Nat} {ns n0 : List St} (h0 : BF es ib sb F n0) (h : BG (x :: es) es' ib sb F F' ns) : at_ es' es.length = some x ∧ es.length ∉ F' := by
 obtain ⟨a1, a2⟩ := h.keep es.length (fun hm => absurd (h0.lt _ hm) (Nat.lt_irrefl _)) (by simp)
 exact ⟨a1.trans (at_hit _ _), a2⟩
/-- What is pushed on top is not the builder's. -/
theorem BG.up {es es' : List Ent} {ib sb : Nat} {F F' : List Nat} {ns : List St} (x : Ent) (h : BG es es' ib sb F F' ns) : BG es (x :: es') ib sb F F' ns := by
 refine ⟨h.bf.push x, fun id hid hl => ?_, by have := h.len; simp only [List.length_cons]; omega⟩
 obtain ⟨a1, a2⟩ := h.keep id hid hl
 exact ⟨(at_push x (Nat.lt_of_lt_of_le hl h.len)).trans a1, a2⟩
theorem nodup_ne {ib iS : Nat} {ms : List (Nat × Nat)} (h : (ids ib iS ms).Nodup) : ib ≠ iS ∧ (∀ k (hk : k < ms.length), ms[k].1 ≠ ib ∧ ms[k].1 ≠ iS) ∧ ∀ k j (hk : k < ms.length) (hj : j < ms.length), ms[k].1 = ms[j].1 → k = j := by
 simp only [ids, List.nodup_cons, List.mem_cons, not_or] at h
 obtain ⟨⟨h1, h2⟩, h3, h4⟩ := h
 refine ⟨h1, fun k hk => ⟨fun e => h2 (e ▸ List.mem_map.2 ⟨ms[k], List.getElem_mem hk, rfl⟩), fun e => h3 (e ▸ List.mem_map.2 ⟨ms[k], List.getElem_mem hk, rfl⟩)⟩, fun k j hk hj e => ?_⟩
 have := (List.nodup_iff_pairwise_ne.1 h4)
 rw [List.pairwise_iff_getElem] at this
 rcases Nat.lt_trichotomy k j with hlt | heq | hgt
 ·exact absurd (by rw [List.getElem_map, List.getElem_map]; exact e) (this k j (by simpa using hk) (by simpa using hj) hlt)
 ·exact heq
 ·exact absurd (by rw [List.getElem_map, List.getElem_map]; exact e.symm) (this j k (by simpa using hj) (by simpa using hk) hgt)
/-- A state more: its ways lie in the row on top. -/
theorem bi_state {es : List Ent} {ib sb iS sS sj s' : Nat} {ms : List (Nat × Nat)} {ns : List St} (l : List Int) (h : BI es ib sb iS sS ms ns) :
  BI (.row sj 3 1 (frow l) :: setAt (setAt es iS (.row s' 75 6 (bRows ns ms ++ [bRow (stF l) (es.length, sj)]))) ib (.row sb 94 1 [[.own iS s']])) ib sb iS s' (ms ++ [(es.length, sj)]) (ns ++ [stF l]) := by
 obtain ⟨hne, hd, hinj⟩ := nodup_ne h.nd
 have hb := at_lt h.b
 have hs := at_lt h.s
 have hl : (setAt (setAt es iS (.row s' 75 6 (bRows ns ms ++ [bRow (stF l) (es.length, sj)]))) ib (.row sb 94 1 [[.own iS s']])).length = es.length := by rw [setAt_len, setAt_len]
 refine ⟨?_, ?_, by simp [h.len], fun k h1 h2 => ?_, ?_⟩
 ·rw [at_push _ (by rw [hl]; exact hb), at_setAt, if_pos ⟨rfl, by rw [setAt_len]; exact hb⟩]
 ·rw [at_push _ (by rw [hl]; exact hs), at_setAt_ne _ (Ne.symm hne), at_setAt, if_pos ⟨rfl, hs⟩, bRows_app h.len]
 ·simp only [List.length_append, List.length_cons, List.length_nil] at h1
  by_cases hk : k < ns.length
  ·have hk2 : k < ms.length := by rw [h.len]; exact hk
   have e1 : (ms ++ [(es.length, sj)])[k] = ms[k] := List.getElem_append_left hk2
   have e2 : (ns ++ [stF l])[k] = ns[k] := List.getElem_append_left hk
   have hfk := h.f k hk hk2
   rw [e1, e2, at_push _ (by rw [hl]; exact at_lt hfk), at_setAt_ne _ (hd k hk2).1, at_setAt_ne _ (hd k hk2).2]
   exact hfk
  ·have hk' : k = ns.length := by omega
   subst hk'
   have e1 : (ms ++ [(es.length, sj)])[ns.length] = (es.length, sj) := by
    rw [List.getElem_append_right (by rw [h.len]; exact Nat.le_refl _)]
    simp [h.len]
   have e2 : (ns ++ [stF l])[ns.length] = stF l := by simp
   rw [e1, e2]
   have := at_hit (.row sj 3 1 (frow l)) (setAt (setAt es iS (.row s' 75 6 (bRows ns ms ++ [bRow (stF l) (es.length, sj)]))) ib (.row sb 94 1 [[.own iS s']]))
   rw [hl] at this
   exact this
 ·have hnew : es.length ∉ ids ib iS ms := fun hm => absurd (BF.lt ⟨iS, sS, ms, h, rfl⟩ _ hm) (Nat.lt_irrefl _)
  have : ids ib iS (ms ++ [(es.length, sj)]) = ids ib iS ms ++ [es.length] := by simp [ids]
  rw [this, List.nodup_append]
  exact ⟨h.nd, by simp, fun a ha b hb e => by simp at hb; subst hb; subst e; exact hnew ha⟩
theorem bg_state {es : List Ent} {ib sb iS sS sj s' : Nat} {ms : List (Nat × Nat)} {ns : List St} (l : List Int) (h : BI es ib sb iS sS ms ns) :
  BG es (.row sj 3 1 (frow l) :: setAt (setAt es iS (.row s' 75 6 (bRows ns ms ++ [bRow (stF l) (es.length, sj)]))) ib (.row sb 94 1 [[.own iS s']])) ib sb (ids ib iS ms) (ids ib iS (ms ++ [(es.length, sj)])) (ns ++ [stF l]) := by
 refine ⟨⟨iS, s', _, bi_state l h, rfl⟩, fun id hid hl => ?_, by simp [setAt_len]⟩
 have h1 : id ≠ ib := fun e => hid (by simp [ids, e])
 have h2 : id ≠ iS := fun e => hid (by simp [ids, e])
 refine ⟨by rw [at_push _ (by rw [setAt_len, setAt_len]; exact hl), at_setAt_ne _ h1, at_setAt_ne _ h2], ?_⟩
 simp only [ids, List.map_append, List.mem_cons, List.mem_append, not_or] at hid ⊢
 exact ⟨h1, h2, hid.2.2, by simp; omega⟩
/-- A state is told otherwise, its ways al' they were. -/
theorem bi_set {es : List Ent} {ib sb iS sS : Nat} {ms : List (Nat × Nat)} {ns : List St} (h : BI es ib sb iS sS ms ns) {k : Nat} (hk : k < ns.length) (s : St) (hs : s.free = ns[k].free) :
  BI (setAt es iS (.row sS 75 6 ((bRows ns ms).set k (bRow s (ms[k]'(by rw [h.len]; exact hk)))))) ib sb iS sS ms (ns.set k s) := by
 obtain ⟨hne, hd, hinj⟩ := nodup_ne h.nd
 have hk2 : k < ms.length := by rw [h.len]; exact hk
 refine ⟨by rw [at_setAt_ne _ hne]; exact h.b, ?_, by simp [h.len], fun j h1 h2 => ?_, h.nd⟩
 ·rw [at_setAt_same _ h.s, ← bRows_set, ms_set_same hk2]
 ·rw [at_setAt_ne _ (hd j h2).2, h.f j (by simpa using h1) h2]
  by_cases hj : k = j
  ·subst hj; simp [hs]
  ·simp [List.getElem_set_ne hj]
theorem bg_set {es : List Ent} {ib sb iS sS : Nat} {ms : List (Nat × Nat)} {ns : List St} (h : BI es ib sb iS sS ms ns) {k : Nat} (hk : k < ns.length) (s : St) (hs : s.free = ns[k].free) :
  BG es (setAt es iS (.row sS 75 6 ((bRows ns ms).set k (bRow s (ms[k]'(by rw [h.len]; exact hk)))))) ib sb (ids ib iS ms) (ids ib iS ms) (ns.set k s) := by
 refine ⟨⟨iS, sS, _, bi_set h hk s hs, rfl⟩, fun id hid hl => ⟨?_, hid⟩, by rw [setAt_len]; exact Nat.le_refl _⟩
 rw [at_setAt_ne _ (fun e => hid (by simp [ids, e]))]
/-- A way more. -/
theorem bi_free {es : List Ent} {ib sb iS sS s' : Nat} {ms : List (Nat × Nat)} {ns : List St} (h : BI es ib sb iS sS ms ns) {k : Nat} (hk : k < ns.length) (j : Nat) :
  BI (setAt (setAt es (ms[k]'(by rw [h.len]; exact hk)).1 (.row s' 3 1 (frow ns[k].free ++ [[.int .i64 j]]))) iS (.row sS 75 6 ((bRows ns ms).set k (bRow ns[k] ((ms[k]'(by rw [h.len]; exact hk)).1, s'))))) ib sb iS sS (ms.set k ((ms[k]'(by rw [h.len]; exact hk)).1, s')) (bFree ns k j) := by
 obtain ⟨hne, hd, hinj⟩ := nodup_ne h.nd
 have hk2 : k < ms.length := by rw [h.len]; exact hk
 have hids : (ms.set k (ms[k].1, s')).map Prod.fst = ms.map Prod.fst := by
  rw [List.map_set]
  have : (ms.map Prod.fst).set k ((ms.map Prod.fst)[k]'(by simpa using hk2)) = ms.map Prod.fst := List.set_getElem_self _
  simpa using this
 rw [bFree_eq hk]
 refine ⟨?_, ?_, by simp [h.len], fun i h1 h2 => ?_, ?_⟩
 ·rw [at_setAt_ne _ hne, at_setAt_ne _ (Ne.symm (hd k hk2).1)]; exact h.b
 ·rw [at_setAt, if_pos ⟨rfl, by rw [setAt_len]; exact at_lt h.s⟩, bRows_set]
  rfl
 ·by_cases hi : k = i
  ·subst hi
   simp only [List.getElem_set_self]
   rw [at_setAt_ne _ (hd k hk2).2, at_setAt_same _ (h.f k hk hk2)]
   simp [addFree, frow]
  ·have h2' : i < ms.length := by simpa using h2
   have h1' : i < ns.length := by simpa using h1
   simp only [List.getElem_set_ne hi]
   rw [at_setAt_ne _ (hd i h2').2, at_setAt_ne _ (fun e => hi (hinj k i hk2 h2' e.symm)), h.f i h1' h2']
 ·unfold ids
  rw [hids]
  exact h.nd
theorem bg_free {es : List Ent} {ib sb iS sS s' : Nat} {ms : List (Nat × Nat)} {ns : List St} (h : BI es ib sb iS sS ms ns) {k : Nat} (hk : k < ns.length) (j : Nat) :
  BG es (setAt (setAt es (ms[k]'(by rw [h.len]; exact hk)).1 (.row s' 3 1 (frow ns[k].free ++ [[.int .i64 j]]))) iS (.row sS 75 6 ((bRows ns ms).set k (bRow ns[k] ((ms[k]'(by rw [h.len]; exact hk)).1, s'))))) ib sb (ids ib iS ms) (ids ib iS ms) (bFree ns k j) := by
 have hk2 : k < ms.length := by rw [h.len]; exact hk
 have hids : (ms.set k (ms[k].1, s')).map Prod.fst = ms.map Prod.fst := by
  rw [List.map_set]
  have : (ms.map Prod.fst).set k ((ms.map Prod.fst)[k]'(by simpa using hk2)) = ms.map Prod.fst := List.set_getElem_self _
  simpa using this
 refine ⟨⟨iS, sS, _, bi_free h hk j, by unfold ids; rw [hids]⟩, fun id hid hl => ⟨?_, hid⟩, by rw [setAt_len, setAt_len]; exact Nat.le_refl _⟩
 have h1 : id ≠ iS := fun e => hid (by simp [ids, e])
 have h2 : id ≠ ms[k].1 := fun e => hid (by simp only [ids, List.mem_cons, List.mem_map]; exact .inr (.inr ⟨ms[k], List.getElem_mem hk2, e.symm⟩))
 rw [at_setAt_ne _ h1, at_setAt_ne _ h2]
/-- The nil slice al' an argument: an empty row of one's own. -/
theorem ACalls.adoptArg {P : Program} {w0 : World} {fid : FuncId} {a : AV} {es : List Ent} {R : AV → List Ent → Prop} (e sz : Nat) (h : ∀ s, ACalls P w0 fid [a, .own es.length s] (.row s e sz [] :: es) R) : ACalls P w0 fid [a, .nil] es R := by
 intro c vs ok rs
 have x := ext_adopt (w0 := w0) (c := c) (es := es) e sz
 simp only [Reps] at rs
 obtain ⟨v1, vs1, e1, r1, v2, vs2, e2, r2, e3⟩ := rs
 have r2' : Rep (c.adopt es) (some (.row c.now e sz [] :: es)) (.own es.length c.now) v2 := by
  simp only [Rep] at r2 ⊢
  refine ⟨_, rfl, ⟨_, _, _, r2⟩, Nat.lt_succ_self _, fun e' sz' rows' hr => ?_⟩
  rw [at_hit] at hr
  injection hr with hr
  injection hr with _ _ _ hr
  subst hr
  simp [Core.adopt, ownVal, r2]
 refine (h c.now (c.adopt es) vs (ok_adopt ok e sz) ?_).mono fun ee w' => ?_
 ·simp only [Reps]
  exact ⟨v1, vs1, e1, Rep.ext (es := some es) (es' := some _) _ x r1, v2, vs2, e2, r2', e3⟩
 ·rintro ⟨v, c', es', r, h1, h2, h3, h4, h5, h6⟩
  exact ⟨v, c', es', r, h1, h2, x.trans h3, h4, h5, h6⟩
end Go.Proofs.YtfdgbghlanbddaaDoor.Av
set_option linter.unusedVariables false
set_option linter.unusedSimpArgs false
namespace Go.Proofs.YtfdgbghlanbddaaDoor.Av
open Go.RowKit
/-! ### all of the builder's rows are written no more -/
def killAll : List Nat → List Ent → List Ent
 | [], es => es
 | id :: t, es => killAll t (setAt es id .dead)
def freezeAll : List Nat → Core → Core
 | [], c => c
 | id :: t, c => freezeAll t (c.freeze id)
theorem killAll_at : ∀ {F : List Nat} {es : List Ent} {id : Nat}, id ∉ F → at_ (killAll F es) id = at_ es id
 | [], _, _, _ => rfl
 | x :: t, es, id, h => by
  simp only [List.mem_cons, not_or] at h
  simp only [killAll]
  rw [killAll_at h.2, at_setAt_ne _ h.1]
theorem freezeAll_same : ∀ (F : List Nat) (c : Core), (freezeAll F c).w = c.w ∧ (freezeAll F c).phi = c.phi ∧ (freezeAll F c).now = c.now ∧ (∀ b, c.fro b → (freezeAll F c).fro b) ∧ ∀ id ∈ F, ∀ b cap, c.phi id = some (b, cap) → (freezeAll F c).fro b
 | [], c => ⟨rfl, rfl, rfl, fun _ h => h, fun _ h => by simp at h⟩
 | x :: t, c => by
  obtain ⟨h1, h2, h3, h4, h5⟩ := freezeAll_same t (c.freeze x)
  refine ⟨h1, h2, h3, fun b hb => h4 b (.inl hb), fun id hid b cap hp => ?_⟩
  rcases List.mem_cons.1 hid with rfl | hid
  ·exact h4 b (.inr ⟨cap, hp⟩)
  ·exact h5 id hid b cap hp
theorem ok_freezeAll {w0 : World} : ∀ {F : List Nat} {c : Core} {es : List Ent}, Ok w0 c es → F.Nodup → (∀ id ∈ F, ∃ s e sz rows, at_ es id = some (.row s e sz rows)) → Ok w0 (freezeAll F c) (killAll F es) ∧ Ext c es (freezeAll F c) (killAll F es)
 | [], c, es, h, _, _ => ⟨h, Ext.refl c es⟩
 | x :: t, c, es, h, hn, hr => by
  rw [List.nodup_cons] at hn
  obtain ⟨s, e, sz, rows, hx⟩ := hr x (by simp)
  have ok1 := ok_freeze h hx
  obtain ⟨h1, h2⟩ := ok_freezeAll (F := t) ok1 hn.2 (fun id hid => by
   obtain ⟨s2, e2, sz2, r2, h3⟩ := hr id (by simp [hid])
   exact ⟨s2, e2, sz2, r2, by rw [at_setAt_ne _ (fun (e : id = x) => hn.1 (e ▸ hid))]; exact h3⟩)
  exact ⟨h1, (ext_freeze x).trans h2⟩
/-- A row that is written no more, told al' a list. -/
theorem rep_listOf {w0 : World} {c c' : Core} {es : List Ent} (k : Ok w0 c es) {id s e sz : Nat} {rows rows' : List (List AV)} (hid : at_ es id = some (.row s e sz rows)) (hl : rows'.length = rows.length)
  (hw : c'.w = c.w) (hf : ∀ b cap, c.phi id = some (b, cap) → c'.fro b) (hr : ∀ xs, RepRows c (some es) sz rows xs → RepRows c' none sz rows' xs) (m : Option (List Ent)) : Rep c' m (.list sz rows') (ownVal (c.phi id) rows.length) := by
 obtain ⟨_, hm, _, xs, h4, h5⟩ := k.ent id _ hid
 have h4' := hr xs h4
 simp only [Rep]
 cases hp : c.phi id with
 | none =>
  rw [hp] at h5
  rcases h5.2 with ⟨_, h6⟩ | ⟨g, cap, cur, h6, _⟩
  ·have hr0 : rows = [] := List.eq_nil_of_length_eq_zero h6
   have hr1 : rows' = [] := List.eq_nil_of_length_eq_zero (by omega)
   subst hr0
   subst hr1
   refine ⟨none, 0, [], rfl, Nat.le_refl _, Nat.zero_le _, by simp only [RepRows], fun hv => absurd rfl hv⟩
  ·cases h6
 | some y =>
  obtain ⟨g, cap⟩ := y
  rw [hp] at h5
  rcases h5.2 with ⟨h6, _⟩ | ⟨g', cap', cur, h6, _, h7, h8, _, _, _⟩
  ·cases h6
  ·injection h6 with h6 h6' h6''
   injection h6 with h6
   injection h6 with h6
   subst h6 h6''
   refine ⟨some ⟨g, 0, none⟩, cap, xs, by rw [hl]; rfl, by omega, by omega, h4', fun hv => ⟨g, 0, rfl, hf g cap hp, fun j hj => ?_⟩⟩
   have := h5.cells (g := g) rfl j _ (List.getElem?_eq_getElem hj)
   rw [Nat.zero_add, List.getElem?_eq_getElem hj, ← this, hw]
   show c.w.cell? _ = c.w.cell? _
   congr 1
   unfold Addr.add
   split <;> simp_all
theorem frow_clean (l : List Int) : (frow l).all cleans = true := by
 rw [List.all_eq_true]
 intro x hx
 obtain ⟨n, _, rfl⟩ := List.mem_map.1 hx
 rfl
theorem rep_states {w0 : World} {c c' : Core} {es : List Ent} (k : Ok w0 c es) (hw : c'.w = c.w) (hn : c.now ≤ c'.now) (hf0 : ∀ b, c.fro b → c'.fro b) : ∀ {ns : List St} {ms : List (Nat × Nat)}, ms.length = ns.length → (∀ k (h1 : k < ns.length) (h2 : k < ms.length), at_ es ms[k].1 = some (.row ms[k].2 3 1 (frow ns[k].free)) ∧ ∀ b cap, c.phi ms[k].1 = some (b, cap) → c'.fro b) →
  ∀ xs, RepRows c (some es) 6 (bRows ns ms) xs → RepRows c' none 6 (ns.map St.row) xs
 | [], [], _, _, xs, h => by simpa [bRows, RepRows] using h
 | [], m :: ms, hl, _, _, _ => by simp at hl
 | s :: ns, [], hl, _, _, _ => by simp at hl
 | s :: ns, m :: ms, hl, hf, xs, h => by
  have e : bRows (s :: ns) (m :: ms) = bRow s m :: bRows ns ms := rfl
  rw [e] at h
  simp only [RepRows, List.map_cons] at h ⊢
  obtain ⟨v1, v2, rfl, h1, h2, h3, h4⟩ := h
  refine ⟨v1, v2, rfl, rfl, ?_, h3, rep_states k hw hn hf0 (ns := ns) (ms := ms) (by simpa using hl) (fun k h1 h2 => hf (k + 1) (Nat.succ_lt_succ h1) (Nat.succ_lt_succ h2)) v2 h4⟩
  obtain ⟨g1, g2⟩ := hf 0 (by simp) (by simp)
  simp only [List.getElem_cons_zero] at g1 g2
  simp only [bRow, Reps] at h2
  obtain ⟨u0, _, rfl, r0, u1, _, rfl, r1, u2, _, rfl, r2, u3, _, rfl, r3, u4, _, rfl, r4, u5, _, rfl, r5, rfl⟩ := h2
  simp only [St.row, Reps]
  refine ⟨u0, _, rfl, by simp only [Rep] at r0 ⊢; exact r0, u1, _, rfl, by simp only [Rep] at r1 ⊢; exact r1, u2, _, rfl, by simp only [Rep] at r2 ⊢; exact r2, u3, _, rfl, by simp only [Rep] at r3 ⊢; exact r3, u4, _, rfl, by simp only [Rep] at r4 ⊢; exact r4, u5, _, rfl, ?_, rfl⟩
  rw [rep_own r5 g1]
  exact rep_listOf k g1 rfl hw g2 (fun xs hx => RepRows.ext (es := none) (es' := none) _ (show ExtM c none c' none from ⟨hn, fun b hb => ⟨hf0 b hb, by rw [hw]⟩⟩) (hx.down _ (frow_clean _))) none
section
variable {P : Program} {w0 : World} {N : Nat} {ops : Array Oper} {rest : List Oper} {f : Frame} {es : List Ent} {K : Frame → List Ent → Prop}
theorem BI.rows {ib sb iS sS : Nat} {ms : List (Nat × Nat)} {ns : List St} (h : BI es ib sb iS sS ms ns) : ∀ id ∈ ids ib iS ms, ∃ s e sz rows, at_ es id = some (.row s e sz rows) := by
 intro id hid
 simp only [ids, List.mem_cons, List.mem_map] at hid
 rcases hid with rfl | rfl | ⟨m, hm, rfl⟩
 ·exact ⟨_, _, _, _, h.b⟩
 ·exact ⟨_, _, _, _, h.s⟩
 ·obtain ⟨k, hk, rfl⟩ := List.mem_iff_getElem.1 hm
  exact ⟨_, _, _, _, h.f k (by have := h.len; omega) hk⟩
/-- The machine is done: its states are a list from here on. -/
theorem l_freezeBI (t : Nat) {ib sb iS sS : Nat} {ms : List (Nat × Nat)} {ns : List St} (h : BI es ib sb iS sS ms ns) (k : AList P w0 N ops rest (upd f t (.list 6 (ns.map St.row))) (killAll (ids ib iS ms) es) K) (ht : f t = .own iS sS := by simp only [upd_apply, Nat.reduceEqDiff, ↓reduceIte] <;> exact rfl) : AList P w0 N ops rest f es K := by
 intro c A Q ok rf hk
 obtain ⟨ok2, x⟩ := ok_freezeAll ok h.nd h.rows
 obtain ⟨e1, e2, e3, e4, e5⟩ := freezeAll_same (ids ib iS ms) c
 rw [← e1]
 refine k (freezeAll (ids ib iS ms) c) A Q ok2 ⟨rf.size, fun u => ?_, rf.defers⟩ fun c' es2 f2 A2 x2 ok2 rf2 k2 => hk c' es2 f2 A2 (x.trans x2) ok2 rf2 k2
 by_cases hu : u = t
 ·subst hu
  rw [upd_same]
  have hr := rf.rep u
  rw [ht] at hr
  rw [rep_own hr h.s]
  refine rep_listOf ok h.s (by rw [bRows_len h.len, List.length_map]) e1 (fun b cap hp => e5 iS (by simp [ids]) b cap hp) (rep_states ok e1 (by rw [e3]; exact Nat.le_refl _) e4 h.len (fun k h1 h2 => ⟨h.f k h1 h2, fun b cap hp => e5 _ (by simp only [ids, List.mem_cons, List.mem_map]; exact .inr (.inr ⟨ms[k], List.getElem_mem h2, rfl⟩)) b cap hp⟩)) _
 ·rw [upd_ne _ _ hu]
  exact Rep.ext (es := some es) (es' := some _) _ x (rf.rep u)
theorem sub_of {es es' : List Ent} (h : ∀ id, id < es.length → at_ es' id = at_ es id) : Sub es es' := fun id x _ hr => by rw [h id (at_lt hr)]; exact hr
end
end Go.Proofs.YtfdgbghlanbddaaDoor.Av
set_option linter.unusedVariables false
set_option linter.unusedSimpArgs false
set_option maxRecDepth 8000
namespace Go.Proofs.YtfdgbghlanbddaaDoor.Av
open Go.RowKit Go.Proofs
theorem state_gen {w0 : World} {es : List Ent} {ib sb sj : Nat} {F : List Nat} {ns : List St} (l : List Int) (h : BF es ib sb F ns) (hw : wt ns ≤ 1000000000) :
  ACalls Tryd.prog w0 111 [.ptr ib sb 0 0, .own es.length sj] (.row sj 3 1 (frow l) :: es) fun v es' => v = .int .i64 ns.length ∧ ∃ F', BG es es' ib sb F F' (ns ++ [stF l]) := by
 obtain ⟨iS, sS, ms, hbi, rfl⟩ := h
 have hib := hbi.b
 have hiS := hbi.s
 have hne := (nodup_ne hbi.nd).1
 have hwl := wt_len ns
 have hrl := bRows_len hbi.len
 refine calls2 (N := 22) Tryd.func111 rfl rfl (by decide) ?_
 refine w_seq ?_
 refine w_region ?_
 refine l_cons rfl (p_assign ?_)
 refine l_nil ?_
 refine k_seq_normal ?_
 refine w_seq ?_
 refine w_region ?_
 refine l_cons rfl (p_move ?_)
 refine l_cons rfl (p_move ?_)
 first | refine l_cons rfl (p_ncp ?_) | refine l_cons rfl (p_ncf ?_)
 refine l_cons rfl (p_fap fa_94_0 ?_)
 refine l_cons rfl (p_loadp ty_34 ?_)
 refine l_cons rfl (p_move ?_)
 refine l_cons rfl (p_build ze_75 pl_75 ?_)
 refine l_cons rfl (p_buildSlice sl_34 ze_75 fun s12 => ?_)
 refine l_cons rfl (p_append sl_34 by_75 ze_75 (fun s13 => ?_) (hb := by simp only [List.length_cons, List.length_nil, most]; omega))
 have hb1 := (at_setAt_ne (.row s13 75 6 (bRows ns ms ++ [(bRow (stF l) (es.length, sj))])) hne).trans hib
 have hS1 := at_setAt_same (.row s13 75 6 (bRows ns ms ++ [(bRow (stF l) (es.length, sj))])) hiS
 first | refine l_cons rfl (p_ncp ?_) | refine l_cons rfl (p_ncf ?_)
 refine l_cons rfl (p_fap fa_94_0 ?_)
 refine l_cons rfl (p_store ty_34 ?_)
 have hb2 := at_setAt_same (.row sb 94 1 [[.own iS s13]]) hb1
 have hS2 := (at_setAt_ne (.row sb 94 1 [[.own iS s13]]) (Ne.symm hne)).trans hS1
 have hlen : (bRows ns ms ++ [(bRow (stF l) (es.length, sj))]).length = ns.length + 1 := by simp [hrl]
 refine l_nil ?_
 refine k_seq_normal ?_
 refine w_seq ?_
 refine w_region ?_
 refine l_cons rfl (p_move ?_)
 first | refine l_cons rfl (p_ncp ?_) | refine l_cons rfl (p_ncf ?_)
 refine l_cons rfl (p_fap fa_94_0 ?_)
 refine l_cons rfl (p_loadp ty_34 ?_)
 refine l_cons rfl (p_leno sl_34 (a := .int .i64 ((ns.length + 1 : Nat) : Int)) ?_ (ha := by rw [← hlen]))
 refine l_cons rfl (p_arith ?_)
 refine l_cons rfl (p_assign ?_)
 refine l_nil ?_
 refine k_seq_normal ?_
 refine w_ret ?_
 exact ret1 rfl (by simp only [ev_tmp, ev_const, ev_func, ofConst_int, ofConst_bool, ofConst_str, ofConst_nil, upd_apply, Nat.reduceEqDiff, ↓reduceIte] <;> exact rfl) (sub1 _ _) ⟨by congr 1; omega, _, bg_state l hbi⟩
theorem state_nil {w0 : World} {es : List Ent} {ib sb : Nat} {F : List Nat} {ns : List St} (h : BF es ib sb F ns) (hw : wt ns ≤ 1000000000) :
  ACalls Tryd.prog w0 111 [.ptr ib sb 0 0, .nil] es fun v es' => v = .int .i64 ns.length ∧ ∃ F', BG es es' ib sb F F' (ns ++ [st0]) :=
 ACalls.adoptArg 3 1 fun s => state_gen [] h hw
theorem free_gen {w0 : World} {es : List Ent} {ib sb : Nat} {F : List Nat} {ns : List St} (i j : Nat) (h : BF es ib sb F ns) (hi : i < ns.length) (hw : wt ns ≤ 1000000000) :
  ACalls Tryd.prog w0 114 [.ptr ib sb 0 0, .int .i64 (i : Int), .int .i64 (j : Int)] es fun v es' => v = .tup [] ∧ ∃ F', BG es es' ib sb F F' (bFree ns i j) := by
 obtain ⟨iS, sS, ms, hbi, rfl⟩ := h
 have hib := hbi.b
 have hiS := hbi.s
 obtain ⟨hne, hd, hinj⟩ := nodup_ne hbi.nd
 have hwl := wt_len ns
 have hwm := wt_mem hi
 have hrl := bRows_len hbi.len
 have hk2 : i < ms.length := by rw [hbi.len]; exact hi
 have hrow := bRows_at hbi.len hi
 have hfr := hbi.f i hi hk2
 refine calls3 (N := 24) Tryd.func114 rfl rfl (by decide) ?_
 refine w_drawn 16 [15] (fun e => at_ e ib = some (.row sb 94 1 [[.own iS sS]]) ∧ at_ e iS = some (.row sS 75 6 (bRows ns ms))) mixed (by kernel_rfl) ⟨hib, hiS⟩ ?_
 refine q1 0 (hg := rfl) (hu := rfl) (h := by rintro f _ ⟨hG1, hG2⟩; exact p_move ⟨rfl, rfl⟩) (k := ?_)
 first | refine q1 6 (hg := rfl) (hu := rfl) (h := by rintro f _ ⟨hG1, hG2⟩; exact p_ncp ⟨rfl, rfl⟩) (k := ?_) | refine q1 6 (hg := rfl) (hu := rfl) (h := by rintro f _ ⟨hG1, hG2⟩; exact p_ncf ⟨rfl, rfl⟩) (k := ?_)
 refine q1 7 (hg := rfl) (hu := rfl) (h := by rintro f _ ⟨hG1, hG2⟩; exact p_fap fa_94_0 ⟨rfl, rfl⟩) (k := ?_)
 refine q1 8 (hg := rfl) (hu := rfl) (h := by rintro f _ ⟨hG1, hG2⟩; exact p_loadp ty_34 (a := .own iS sS) ⟨rfl, rfl⟩) (k := ?_)
 refine q1 1 (hg := rfl) (hu := rfl) (h := by rintro f _ ⟨hG1, hG2⟩; exact p_move ⟨rfl, rfl⟩) (k := ?_)
 refine q1 0 (hg := rfl) (hu := rfl) (h := by rintro f _ ⟨hG1, hG2⟩; exact p_move ⟨rfl, rfl⟩) (k := ?_)
 first | refine q1 11 (hg := rfl) (hu := rfl) (h := by rintro f _ ⟨hG1, hG2⟩; exact p_ncp ⟨rfl, rfl⟩) (k := ?_) | refine q1 11 (hg := rfl) (hu := rfl) (h := by rintro f _ ⟨hG1, hG2⟩; exact p_ncf ⟨rfl, rfl⟩) (k := ?_)
 refine q1 12 (hg := rfl) (hu := rfl) (h := by rintro f _ ⟨hG1, hG2⟩; exact p_fap fa_94_0 ⟨rfl, rfl⟩) (k := ?_)
 refine q1 13 (hg := rfl) (hu := rfl) (h := by rintro f _ ⟨hG1, hG2⟩; exact p_loadp ty_34 (a := .own iS sS) ⟨rfl, rfl⟩) (k := ?_)
 refine q1 1 (hg := rfl) (hu := rfl) (h := by rintro f _ ⟨hG1, hG2⟩; exact p_move ⟨rfl, rfl⟩) (k := ?_)
 refine q2 14 15 (hg := rfl) (hu := rfl) (h := by rintro f _ ⟨hG1, hG2⟩; exact p_ixo sl_34 ⟨rfl, rfl⟩) (k := ?_)
 refine q1 16 (hg := rfl) (hu := rfl) (h := by rintro f _ ⟨hG1, hG2⟩; exact p_fap fa_75_2 ⟨rfl, rfl⟩) (k := ?_)
 refine q1 17 (hg := rfl) (hu := rfl) (h := by rintro f _ ⟨hG1, hG2⟩; exact p_loadp ty_48 (a := .own (ms[i]'hk2).1 (ms[i]'hk2).2) ⟨rfl, rfl⟩ (hr := hrow) (hl := Nat.le_refl 6) (ha := rfl)) (k := ?_)
 refine q1 2 (hg := rfl) (hu := rfl) (h := by rintro f _ ⟨hG1, hG2⟩; exact p_move ⟨rfl, rfl⟩) (k := ?_)
 refine q1 19 (hg := rfl) (hu := rfl) (h := by rintro f _ ⟨hG1, hG2⟩; exact p_buildList sl_48 ze_3 ⟨rfl, rfl⟩) (k := ?_)
 refine q_end ?_
 refine m2 18 20 (hu := rfl) (h := fun f => p_append sl_48 by_3 ze_3 (fun s21 => ?_) (hb := by simp only [frow, List.length_map, List.length_cons, List.length_nil, most]; omega))
 have hb1 := (at_setAt_ne (.row s21 3 1 (frow (ns[i]'hi).free ++ [[.int .i64 (j : Int)]])) (Ne.symm (hd i hk2).1)).trans hib
 have hS1 := (at_setAt_ne (.row s21 3 1 (frow (ns[i]'hi).free ++ [[.int .i64 (j : Int)]])) (Ne.symm (hd i hk2).2)).trans hiS
 refine ⟨_, rfl, ⟨hb1, hS1⟩, ?_⟩
 refine m_end ?_
 refine l_cons rfl (p_ixo sl_34 ?_)
 refine l_cons rfl (p_fap fa_75_2 ?_)
 refine l_cons rfl (p_store ty_48 (r' := bRow (ns[i]'hi) ((ms[i]'hk2).1, s21)) ?_ (hr := hrow) (hl := Nat.le_refl 6) (hr' := rfl))
 refine l_nil ?_
 exact retn0 rfl (Sub.refl _) ⟨rfl, _, bg_free hbi hi j⟩
end Go.Proofs.YtfdgbghlanbddaaDoor.Av
set_option linter.unusedVariables false
set_option linter.unusedSimpArgs false
set_option maxRecDepth 8000
namespace Go.Proofs.YtfdgbghlanbddaaDoor.Av
open Go.RowKit Go.Proofs
/-- What part answers, of expressions that are not greater than B. -/
def PartOk (w0 : World) (B : Nat) : Prop := ∀ (r : Rx) (es : List Ent) (ib sb : Nat) (F : List Nat) (ns : List St), r.nodes ≤ B → r.fit → BF es ib sb F ns → wt ns + 8 * r.nodes ≤ 1000000000 →
 ACalls Tryd.prog w0 72 [.ptr ib sb 0 0, .agg r.cells] es fun v es' => v = .tup [.int .i64 ((bPart r ns).2.1 : Int), .int .i64 ((bPart r ns).2.2 : Int)] ∧ ∃ F', BG es es' ib sb F F' (bPart r ns).1
def lastOf : Option (Nat × Nat) → Int
 | none => -1
 | some p => p.2
theorem drop_nodes {l : List Rx} {k : Nat} (h : k < l.length) : Rx.nodesL (l.drop k) = (l[k]).nodes + Rx.nodesL (l.drop (k + 1)) := by
 rw [drop_cons h, Rx.nodesL]
theorem cat_gen {w0 : World} {B : Nat} (hP : PartOk w0 B) (l : List Rx) {es : List Ent} {ib sb : Nat} {F : List Nat} {ns : List St} (hl : Rx.nodesL l ≤ B) (hf : Rx.fitL l) (hne : l ≠ []) (hbf : BF es ib sb F ns) (hw : wt ns + 8 * Rx.nodesL l ≤ 1000000000) :
  ACalls Tryd.prog w0 112 [.ptr ib sb 0 0, .list 6 (l.map Rx.cells)] es fun v es' => v = .tup [.int .i64 ((bCat l ns).2.1 : Int), .int .i64 ((bCat l ns).2.2 : Int)] ∧ ∃ F', BG es es' ib sb F F' (bCat l ns).1 := by
 obtain ⟨a, t, rfl⟩ : ∃ a t, l = a :: t := List.exists_cons_of_ne_nil hne
 simp only [Rx.nodesL] at hl hw
 simp only [Rx.fitL] at hf
 have hbp := built_part a ns hf.1
 have hwp := hbp.wt
 have hnp := a.nodes_pos
 have hll := Rx.len_le t
 refine calls2 (N := 39) Tryd.func112 rfl rfl (by decide) ?_
 refine w_seq ?_
 refine w_region ?_
 refine l_cons rfl (p_assign ?_)
 refine l_cons rfl (p_assign ?_)
 refine l_nil ?_
 refine k_seq_normal ?_
 refine w_seq ?_
 refine w_region ?_
 refine l_cons rfl (p_move ?_)
 refine l_cons rfl (p_move ?_)
 refine l_cons rfl (p_ixl sl_27 (a := .fptr 6 ((a :: t).map Rx.cells) 0 0) ?_ (h1 := by simp only [List.length_map, List.length_cons]; omega))
 refine l_cons rfl (p_loadf ty_29 (a := .agg a.cells) ?_ (hr := rfl) (hl := Nat.le_refl 6) (ha := rfl))
 refine l_cons rfl (p_call en_72 ((hP a es ib sb F ns (by omega) hf.1 hbf (by omega)).mono ?_))
 rintro _ es1 ⟨rfl, F1, hg1⟩
 refine l_cons rfl (p_move ?_)
 refine l_cons rfl (p_extract ?_ (hl := Nat.le_of_ble_eq_true rfl))
 refine l_cons rfl (p_extract ?_ (hl := Nat.le_of_ble_eq_true rfl))
 refine l_cons rfl (p_assign ?_)
 refine l_cons rfl (p_assign ?_)
 refine l_nil ?_
 refine k_seq_normal ?_
 refine w_seq ?_
 refine w_seq ?_
 refine w_region ?_
 refine l_cons rfl (p_move ?_)
 refine l_cons rfl (p_slicel (l := 1) (h := ((a :: t).map Rx.cells).length) sl_27 ?_ (hlh := by simp only [List.length_map, List.length_cons]; omega))
 rw [show (((a :: t).map Rx.cells).take ((a :: t).map Rx.cells).length).drop 1 = t.map Rx.cells by rw [List.take_length]; rfl]
 refine l_cons rfl (p_lenl sl_27 ?_)
 refine l_cons rfl (p_move ?_)
 refine l_nil ?_
 refine k_seq_normal ?_
 refine w_block ?_
 refine w_loop (fun m f es2 => ∃ k F2 n tk, m = t.length - k ∧ k ≤ t.length ∧ BG es es2 ib sb F F2 n ∧ bCatGo (t.drop k) n (bPart a ns).2.1 tk = bCat (a :: t) ns ∧ tk < n.length ∧ wt n + 8 * Rx.nodesL (t.drop k) ≤ 1000000000 ∧ Knows f [(0, .ptr ib sb 0 0), (4, .int .i64 ((bPart a ns).2.1 : Int)), (5, .int .i64 (tk : Int)), (19, .list 6 (t.map Rx.cells)), (20, .int .i64 t.length), (21, .int .i64 k)]) (t.length) (⟨0, F1, (bPart a ns).1, (bPart a ns).2.2, rfl, Nat.zero_le _, hg1, by rw [List.drop_zero, bCat], hbp.t, by rw [List.drop_zero]; omega, by simp only [Knows, put, upd_apply, Nat.reduceEqDiff, ↓reduceIte, and_true, true_and, eq_self] <;> and_intros <;> rfl⟩) ?_
 rintro m f es2 ⟨k, F2, n, tk, rfl, hk1, hg, hgo, htk, hw2, hk⟩
 refine w_pins _ (Sub.refl _) (hk) ?_
 simp only [pins]
 refine w_seq ?_
 refine w_region ?_
 refine l_cons rfl (p_cmp ?_)
 refine l_nil ?_
 refine k_seq_normal ?_
 refine w_seq ?_
 refine w_b (fun h1 => ?_) (fun h1 => ?_)
 ·skip
  have h1' := h1; (try simp only [decide_eq_true_eq, decide_eq_false_iff_not, Bool.not_eq_true', Bool.not_false, Bool.not_true, Bool.not_eq_false'] at h1')
  refine w_skip ?_
  refine k_seq_normal ?_
  refine w_seq ?_
  refine w_block ?_
  refine w_seq ?_
  refine w_region ?_
  refine l_cons rfl (p_ixl sl_27 ?_)
  refine l_cons rfl (p_loadf ty_29 ?_)
  refine l_cons rfl (p_alloc ze_29 fun s7 => ?_)
  refine l_cons rfl (p_store ty_29 ?_)
  refine l_nil ?_
  refine k_seq_normal ?_
  refine w_seq ?_
  have hfk := (Rx.fitL_iff t).1 hf.2 (t[k]'(by omega)) (List.getElem_mem _)
  have hdn := drop_nodes (l := t) (k := k) (by omega)
  have hbk := built_part (t[k]'(by omega)) n hfk
  have hb1 := hbk.len
  have hb2 := hbk.f
  have hb3 := hbk.t
  have hb4 := hbk.wt
  have hnk := (t[k]'(by omega)).nodes_pos
  have hnm := Rx.nodes_mem (l := t) (k := k) (by omega)
  refine w_region ?_
  refine l_cons rfl (p_move ?_)
  refine l_cons rfl (p_loadp ty_29 ?_)
  refine l_cons rfl (p_call en_72 ((hP (t[k]'(by omega)) _ ib sb _ n (by omega) hfk (hg.bf.push _) (by omega)).mono ?_))
  rintro _ es3 ⟨rfl, F3, hg2⟩
  have hg3 := hg.trans hg2.pop
  refine l_cons rfl (p_move ?_)
  refine l_cons rfl (p_extract ?_ (hl := Nat.le_of_ble_eq_true rfl))
  refine l_cons rfl (p_extract ?_ (hl := Nat.le_of_ble_eq_true rfl))
  refine l_cons rfl (p_assign ?_)
  refine l_cons rfl (p_assign ?_)
  refine l_nil ?_
  refine k_seq_normal ?_
  refine w_seq ?_
  refine w_region ?_
  refine l_cons rfl (p_move ?_)
  refine l_cons rfl (p_move ?_)
  refine l_cons rfl (p_move ?_)
  refine l_cons rfl (p_call en_114 ((free_gen tk (bPart (t[k]'(by omega)) n).2.1 hg3.bf (by omega) (by omega)).mono ?_))
  rintro _ es4 ⟨rfl, F4, hg4⟩
  have hg5 := hg3.trans hg4
  refine l_nil ?_
  refine k_seq_normal ?_
  refine w_region ?_
  refine l_cons rfl (p_move ?_)
  refine l_cons rfl (p_assign ?_)
  refine l_nil ?_
  refine k_blk_normal ?_
  refine k_seq_normal ?_
  refine w_region ?_
  refine l_cons rfl (p_arith ?_)
  refine l_cons rfl (p_move ?_)
  refine l_nil ?_
  refine k_seq_normal ?_
  refine ⟨t.length - (k + 1), by omega, k + 1, F4, _, (bPart (t[k]'(by omega)) n).2.2, rfl, by omega, hg5, ?_, by rw [bFree_len]; exact hb3, ?_, by simp only [Knows, put, upd_apply, Nat.reduceEqDiff, ↓reduceIte, and_true, true_and, eq_self] <;> and_intros <;> rfl⟩
  ·rw [← hgo, drop_cons (show k < t.length by omega), bCatGo]
  ·have := wt_free (bPart (t[k]'(by omega)) n).1 tk (bPart (t[k]'(by omega)) n).2.1
   omega
 ·skip
  have h1' := h1; (try simp only [decide_eq_true_eq, decide_eq_false_iff_not, Bool.not_eq_true', Bool.not_false, Bool.not_true, Bool.not_eq_false'] at h1')
  refine w_exit ?_
  refine k_seq_exit ?_
  refine k_seq_exit ?_
  refine k_blk_here ?_
  refine k_seq_normal ?_
  refine w_seq ?_
  refine w_region ?_
  refine l_cons rfl (p_move ?_)
  refine l_cons rfl (p_move ?_)
  refine l_cons rfl (p_assign ?_)
  refine l_cons rfl (p_assign ?_)
  refine l_nil ?_
  refine k_seq_normal ?_
  refine w_ret ?_
  obtain rfl : k = t.length := by omega
  rw [List.drop_length, bCatGo] at hgo
  rw [← hgo]
  exact ret2 rfl (by simp only [ev_tmp, ev_const, ev_func, ofConst_int, ofConst_bool, ofConst_str, ofConst_nil, upd_apply, Nat.reduceEqDiff, ↓reduceIte] <;> exact rfl) (by simp only [ev_tmp, ev_const, ev_func, ofConst_int, ofConst_bool, ofConst_str, ofConst_nil, upd_apply, Nat.reduceEqDiff, ↓reduceIte] <;> exact rfl) (Sub.refl _) ⟨rfl, _, hg⟩
theorem alt_gen {w0 : World} {B : Nat} (hP : PartOk w0 B) (l : List Rx) {es : List Ent} {ib sb : Nat} {F : List Nat} {ns : List St} (hl : Rx.nodesL l ≤ B) (hf : Rx.fitL l) (hbf : BF es ib sb F ns) (hw : wt ns + 1 + 8 * Rx.nodesL l ≤ 1000000000) :
    ACalls Tryd.prog w0 113 [.ptr ib sb 0 0, .list 6 (l.map Rx.cells)] es fun v es' => v = .tup [.int .i64 ((bAltGo l (ns ++ [st0]) none ns.length).2.1 : Int), .int .i64 ((bAltGo l (ns ++ [st0]) none ns.length).2.2 : Int)] ∧ ∃ F', BG es es' ib sb F F' (bAltGo l (ns ++ [st0]) none ns.length).1 := by
  have hll := Rx.len_le l
  have hwa : wt (ns ++ [st0]) = wt ns + 1 := by rw [wt_append, wt_st0]
  refine calls2 (N := 45) Tryd.func113 rfl rfl (by decide) ?_
  refine w_seq ?_
  refine w_region ?_
  refine l_cons rfl (p_assign ?_)
  refine l_cons rfl (p_assign ?_)
  refine l_nil ?_
  refine k_seq_normal ?_
  refine w_seq ?_
  refine w_region ?_
  refine l_cons rfl (p_move ?_)
  refine l_cons rfl (p_call en_111 ((state_nil hbf (by omega)).mono ?_))
  rintro _ es1 ⟨rfl, F1, hg1⟩
  refine l_cons rfl (p_assign ?_)
  refine l_nil ?_
  refine k_seq_normal ?_
  refine w_seq ?_
  refine w_region ?_
  refine l_cons rfl (p_assign ?_)
  refine l_nil ?_
  refine k_seq_normal ?_
  refine w_seq ?_
  refine w_seq ?_
  refine w_region ?_
  refine l_cons rfl (p_move ?_)
  refine l_cons rfl (p_lenl sl_27 ?_)
  refine l_cons rfl (p_move ?_)
  refine l_nil ?_
  refine k_seq_normal ?_
  refine w_block ?_
  refine w_loop (fun m f es2 => ∃ k F2 n fl, m = l.length - k ∧ k ≤ l.length ∧ BG es es2 ib sb F F2 n ∧ bAltGo (l.drop k) n fl ns.length = bAltGo l (ns ++ [st0]) none ns.length ∧ ns.length < n.length ∧ (∀ f l, fl = some (f, l) → f < n.length ∧ l < n.length) ∧ wt n + 8 * Rx.nodesL (l.drop k) ≤ 1000000000 ∧ Knows f [(0, .ptr ib sb 0 0), (4, .int .i64 ((fl.getD (0, 0)).1 : Int)), (5, .int .i64 (ns.length : Int)), (6, .int .i64 (lastOf fl)), (14, .list 6 (l.map Rx.cells)), (15, .int .i64 l.length), (16, .int .i64 k)]) (l.length) (⟨0, F1, ns ++ [st0], none, rfl, Nat.zero_le _, hg1, by rw [List.drop_zero], by simp, fun f l e => (by cases e), by rw [List.drop_zero]; omega, by simp only [Knows, put, upd_apply, Nat.reduceEqDiff, ↓reduceIte, and_true, true_and, eq_self] <;> and_intros <;> rfl⟩) ?_
  rintro m f es2 ⟨k, F2, n, fl, rfl, hk1, hg, hgo, hnl, hfl, hw2, hk⟩
  refine w_pins _ (Sub.refl _) (hk) ?_
  simp only [pins]
  refine w_seq ?_
  refine w_region ?_
  refine l_cons rfl (p_cmp ?_)
  refine l_nil ?_
  refine k_seq_normal ?_
  refine w_seq ?_
  refine w_b (fun h1 => ?_) (fun h1 => ?_)
  · skip
    have h1' := h1; (try simp only [decide_eq_true_eq, decide_eq_false_iff_not, Bool.not_eq_true', Bool.not_false, Bool.not_true, Bool.not_eq_false'] at h1')
    refine w_skip ?_
    refine k_seq_normal ?_
    refine w_seq ?_
    refine w_block ?_
    refine w_seq ?_
    refine w_region ?_
    refine l_cons rfl (p_ixl sl_27 ?_)
    refine l_cons rfl (p_loadf ty_29 ?_)
    refine l_cons rfl (p_alloc ze_29 fun s8 => ?_)
    refine l_cons rfl (p_store ty_29 ?_)
    refine l_nil ?_
    refine k_seq_normal ?_
    refine w_seq ?_
    have hfk := (Rx.fitL_iff l).1 hf (l[k]'(by omega)) (List.getElem_mem _)
    have hdn := drop_nodes (l := l) (k := k) (by omega)
    have hbk := built_part (l[k]'(by omega)) n hfk
    have hb1 := hbk.len
    have hb2 := hbk.f
    have hb3 := hbk.t
    have hb4 := hbk.wt
    have hnk := (l[k]'(by omega)).nodes_pos
    have hnm := Rx.nodes_mem (l := l) (k := k) (by omega)
    refine w_region ?_
    refine l_cons rfl (p_move ?_)
    refine l_cons rfl (p_loadp ty_29 ?_)
    refine l_cons rfl (p_call en_72 ((hP (l[k]'(by omega)) _ ib sb _ n (by omega) hfk (hg.bf.push _) (by omega)).mono ?_))
    rintro _ es3 ⟨rfl, F3, hg2⟩
    have hg3 := hg.trans hg2.pop
    refine l_cons rfl (p_move ?_)
    refine l_cons rfl (p_extract ?_ (hl := Nat.le_of_ble_eq_true rfl))
    refine l_cons rfl (p_extract ?_ (hl := Nat.le_of_ble_eq_true rfl))
    refine l_cons rfl (p_assign ?_)
    refine l_cons rfl (p_assign ?_)
    refine l_nil ?_
    refine k_seq_normal ?_
    refine w_seq ?_
    refine w_region ?_
    refine l_cons rfl (p_move ?_)
    refine l_cons rfl (p_move ?_)
    refine l_cons rfl (p_move ?_)
    refine l_cons rfl (p_call en_114 ((free_gen (bPart (l[k]'(by omega)) n).2.2 ns.length hg3.bf (by omega) (by omega)).mono ?_))
    rintro _ es4 ⟨rfl, F4, hg4⟩
    have hg5 := hg3.trans hg4
    have hw5 := wt_free (bPart (l[k]'(by omega)) n).1 (bPart (l[k]'(by omega)) n).2.2 ns.length
    refine l_nil ?_
    refine k_seq_normal ?_
    refine w_seq ?_
    refine w_region ?_
    refine l_cons rfl (p_move ?_)
    refine l_cons rfl (p_move ?_)
    refine l_cons rfl (p_buildSlice sl_48 ze_3 fun s32 => ?_)
    refine l_cons rfl (p_call en_111 ((state_gen [((bPart (l[k]'(by omega)) n).2.1 : Int)] hg5.bf (by omega)).mono ?_))
    rintro _ es5 ⟨rfl, F5, hg6⟩
    have hg7 := hg5.trans hg6
    have hw6 : wt [stF [((bPart (l[k]'(by omega)) n).2.1 : Int)]] = 2 := rfl
    have hw7 := wt_append (bFree (bPart (l[k]'(by omega)) n).1 (bPart (l[k]'(by omega)) n).2.2 ns.length) [stF [((bPart (l[k]'(by omega)) n).2.1 : Int)]]
    have hfl5 := bFree_len (bPart (l[k]'(by omega)) n).1 (bPart (l[k]'(by omega)) n).2.2 ns.length
    refine l_cons rfl (p_assign ?_)
    refine l_nil ?_
    refine k_seq_normal ?_
    refine w_seq ?_
    refine w_seq ?_
    refine w_region ?_
    refine l_cons rfl (p_move ?_)
    refine l_cons rfl (p_cmp ?_)
    refine l_nil ?_
    refine k_seq_normal ?_
    refine w_b (fun h2 => ?_) (fun h2 => ?_)
    · skip
      have h2' := h2; (try simp only [decide_eq_true_eq, decide_eq_false_iff_not, Bool.not_eq_true', Bool.not_false, Bool.not_true, Bool.not_eq_false'] at h2')
      obtain rfl : fl = none := by cases fl with | none => rfl | some p => exfalso; simp only [lastOf] at h2'; omega
      refine w_region ?_
      refine l_cons rfl (p_move ?_)
      refine l_cons rfl (p_assign ?_)
      refine l_nil ?_
      refine k_seq_normal ?_
      refine w_region ?_
      refine l_cons rfl (p_move ?_)
      refine l_cons rfl (p_assign ?_)
      refine l_nil ?_
      refine k_blk_normal ?_
      refine k_seq_normal ?_
      refine w_region ?_
      refine l_cons rfl (p_arith ?_)
      refine l_cons rfl (p_move ?_)
      refine l_nil ?_
      refine k_seq_normal ?_
      first
      | (refine ⟨l.length - (k + 1), by omega, k + 1, F5, _, some ((bPart (l[k]'(by omega)) n).1.length, (bPart (l[k]'(by omega)) n).1.length), rfl, by omega, hg7, ?_, by simp only [List.length_append, bFree_len]; omega, fun f l e => (by simp only [Option.some.injEq, Prod.mk.injEq] at e; obtain ⟨rfl, rfl⟩ := e; simp [bFree_len]), by omega, ?_⟩
         · rw [← hgo, drop_cons (show k < l.length by omega), bAltGo]
         · rw [hfl5]; exact by simp only [Knows, put, upd_apply, Nat.reduceEqDiff, ↓reduceIte, and_true, true_and, eq_self] <;> and_intros <;> rfl)
      | (have hwz := wt_free (bFree (bPart (l[k]'(by omega)) n).1 (bPart (l[k]'(by omega)) n).2.2 ns.length ++ [stF [((bPart (l[k]'(by omega)) n).2.1 : Int)]]) l0 (bFree (bPart (l[k]'(by omega)) n).1 (bPart (l[k]'(by omega)) n).2.2 ns.length).length
         refine ⟨l.length - (k + 1), by omega, k + 1, F6, _, some (f0, (bPart (l[k]'(by omega)) n).1.length), rfl, by omega, hg9, ?_, by simp only [List.length_append, bFree_len]; omega, fun f l e => (by have := (hfl f0 l0 rfl).1; simp only [Option.some.injEq, Prod.mk.injEq] at e; obtain ⟨rfl, rfl⟩ := e; simp [bFree_len]; omega), by omega, ?_⟩
         · rw [← hgo, drop_cons (show k < l.length by omega), bAltGo, hfl5]
         · rw [hfl5]; exact by simp only [Knows, put, upd_apply, Nat.reduceEqDiff, ↓reduceIte, and_true, true_and, eq_self] <;> and_intros <;> rfl)
    · skip
      have h2' := h2; (try simp only [decide_eq_true_eq, decide_eq_false_iff_not, Bool.not_eq_true', Bool.not_false, Bool.not_true, Bool.not_eq_false'] at h2')
      obtain ⟨f0, l0, rfl⟩ : ∃ f0 l0, fl = some (f0, l0) := by cases fl with | none => exfalso; simp only [lastOf] at h2'; omega | some p => exact ⟨p.1, p.2, rfl⟩
      have hl0 := (hfl f0 l0 rfl).2
      refine w_region ?_
      refine l_cons rfl (p_move ?_)
      refine l_cons rfl (p_move ?_)
      refine l_cons rfl (p_move ?_)
      refine l_cons rfl (p_call en_114 ((free_gen l0 (bFree (bPart (l[k]'(by omega)) n).1 (bPart (l[k]'(by omega)) n).2.2 ns.length).length hg7.bf (by simp only [List.length_append, bFree_len]; omega) (by omega)).mono ?_))
      rintro _ es6 ⟨rfl, F6, hg8⟩
      have hg9 := hg7.trans hg8
      refine l_nil ?_
      refine k_seq_normal ?_
      refine w_region ?_
      refine l_cons rfl (p_move ?_)
      refine l_cons rfl (p_assign ?_)
      refine l_nil ?_
      refine k_blk_normal ?_
      refine k_seq_normal ?_
      refine w_region ?_
      refine l_cons rfl (p_arith ?_)
      refine l_cons rfl (p_move ?_)
      refine l_nil ?_
      refine k_seq_normal ?_
      first
      | (refine ⟨l.length - (k + 1), by omega, k + 1, F5, _, some ((bPart (l[k]'(by omega)) n).1.length, (bPart (l[k]'(by omega)) n).1.length), rfl, by omega, hg7, ?_, by simp only [List.length_append, bFree_len]; omega, fun f l e => (by simp only [Option.some.injEq, Prod.mk.injEq] at e; obtain ⟨rfl, rfl⟩ := e; simp [bFree_len]), by omega, ?_⟩
         · rw [← hgo, drop_cons (show k < l.length by omega), bAltGo]
         · rw [hfl5]; exact by simp only [Knows, put, upd_apply, Nat.reduceEqDiff, ↓reduceIte, and_true, true_and, eq_self] <;> and_intros <;> rfl)
      | (have hwz := wt_free (bFree (bPart (l[k]'(by omega)) n).1 (bPart (l[k]'(by omega)) n).2.2 ns.length ++ [stF [((bPart (l[k]'(by omega)) n).2.1 : Int)]]) l0 (bFree (bPart (l[k]'(by omega)) n).1 (bPart (l[k]'(by omega)) n).2.2 ns.length).length
         refine ⟨l.length - (k + 1), by omega, k + 1, F6, _, some (f0, (bPart (l[k]'(by omega)) n).1.length), rfl, by omega, hg9, ?_, by simp only [List.length_append, bFree_len]; omega, fun f l e => (by have := (hfl f0 l0 rfl).1; simp only [Option.some.injEq, Prod.mk.injEq] at e; obtain ⟨rfl, rfl⟩ := e; simp [bFree_len]; omega), by omega, ?_⟩
         · rw [← hgo, drop_cons (show k < l.length by omega), bAltGo, hfl5]
         · rw [hfl5]; exact by simp only [Knows, put, upd_apply, Nat.reduceEqDiff, ↓reduceIte, and_true, true_and, eq_self] <;> and_intros <;> rfl)
  · skip
    have h1' := h1; (try simp only [decide_eq_true_eq, decide_eq_false_iff_not, Bool.not_eq_true', Bool.not_false, Bool.not_true, Bool.not_eq_false'] at h1')
    refine w_exit ?_
    refine k_seq_exit ?_
    refine k_seq_exit ?_
    refine k_blk_here ?_
    refine k_seq_normal ?_
    refine w_seq ?_
    refine w_region ?_
    refine l_cons rfl (p_move ?_)
    refine l_cons rfl (p_move ?_)
    refine l_cons rfl (p_assign ?_)
    refine l_cons rfl (p_assign ?_)
    refine l_nil ?_
    refine k_seq_normal ?_
    refine w_ret ?_
    obtain rfl : k = l.length := by omega
    rw [List.drop_length, bAltGo] at hgo
    rw [← hgo]
    exact ret2 rfl (by simp only [ev_tmp, ev_const, ev_func, ofConst_int, ofConst_bool, ofConst_str, ofConst_nil, upd_apply, Nat.reduceEqDiff, ↓reduceIte] <;> exact rfl) (by simp only [ev_tmp, ev_const, ev_func, ofConst_int, ofConst_bool, ofConst_str, ofConst_nil, upd_apply, Nat.reduceEqDiff, ↓reduceIte] <;> exact rfl) (Sub.refl _) ⟨rfl, _, hg⟩
end Go.Proofs.YtfdgbghlanbddaaDoor.Av
