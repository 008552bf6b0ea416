import Derived.Test.YtfdgbghlanbddaaDoorAvK0
import Derived.Test.YtfdgbghlanbddaaDoorAvK1
import Derived.Test.YtfdgbghlanbddaaDoorAvK2
import Derived.Test.YtfdgbghlanbddaaDoorAvK3
import Derived.Test.YtfdgbghlanbddaaDoorAvK4
set_option linter.unusedVariables false
set_option linter.unusedSimpArgs false
set_option maxRecDepth 8000
namespace Go.Proofs.YtfdgbghlanbddaaDoor.Av
open Go.RowKit Go.Proofs
theorem ct_succ {al : Nat → Nat → Bool} {k j : Nat} (h : clsOf al k = j) : byteT (fun i => if i < k + 1 then (clsOf al i : Int) else 0) = byteT (fun i => if i = k then (j : Int) else if i < k then (clsOf al i : Int) else 0) := byteT_congr fun i _ => by
 by_cases hi : i = k
 ·subst hi; simp [h]
 ·rw [if_neg hi]; by_cases h2 : i < k
  ·rw [if_pos h2, if_pos (by omega)]
  ·rw [if_neg h2, if_neg (by omega)]
theorem reps_at {l : List Nat} {j : Nat} (h : j < l.length) : (l.map fun n : Nat => [AV.int .i64 (n : Int)])[j]? = some [.int .i64 (l[j] : Int)] := by simp [h]
theorem refClasses {w0 : World} {es : List Ent} (ss : List W4) (hs : ∀ s ∈ ss, s.ok) : ACalls Tryd.prog w0 94 [.list 4 (ss.map W4.row)] es fun v es' => v = .tup [.agg (byteT fun i => (clsOf (fun i r : Nat => alikeB ss (i : Int) (r : Int)) i : Int)), .int .i64 ((repsTo (fun i r : Nat => alikeB ss (i : Int) (r : Int)) 256).length : Int)] ∧ es' = es := by
 refine calls1 (N := 45) Tryd.func94 rfl rfl (by decide) ?_
 refine w_seq ?_
 refine w_region ?_
 refine l_cons rfl (p_alloc ze_58 fun s2 => ?_)
 refine l_cons rfl (p_assign ?_)
 refine l_nil ?_
 refine k_seq_normal ?_
 refine w_seq ?_
 refine w_region ?_
 refine l_cons rfl (p_alloc ze_58 fun s4 => ?_)
 refine l_nil ?_
 refine k_seq_normal ?_
 refine w_seq ?_
 refine w_region ?_
 refine l_cons rfl (p_assign ?_)
 refine l_nil ?_
 refine k_seq_normal ?_
 refine w_seq ?_
 refine w_seq ?_
 refine w_adopt 5 3 1 rfl fun s5 => ?_
 simp only [upd_upd]
 refine w_region ?_
 refine l_cons rfl (p_assign ?_)
 refine l_nil ?_
 refine k_seq_normal ?_
 refine w_block ?_
 refine w_loop (fun m f es' => ∃ k s5, m = 256 - k ∧ k ≤ 256 ∧ es' = .row s5 3 1 ((repsTo (fun i r : Nat => alikeB ss (i : Int) (r : Int)) k).map fun n : Nat => [AV.int .i64 (n : Int)]) :: .row s4 58 256 [(byteT (fun i => if i < k then (clsOf (fun i r : Nat => alikeB ss (i : Int) (r : Int)) i : Int) else 0))] :: .row s2 58 256 [(List.replicate 256 (AV.int .u8 0))] :: es ∧ Knows f [(0, .list 4 (ss.map W4.row)), (2, .ptr es.length s2 0 0), (4, .ptr (es.length + 1) s4 0 0), (5, .own (es.length + 2) s5), (6, .int .i64 (k : Int))]) (256) (⟨0, s5, rfl, Nat.zero_le _, by rw [byteT_none (p := fun i => if i < 0 then (clsOf (fun i r : Nat => alikeB ss (i : Int) (r : Int)) i : Int) else 0) (fun i _ => rfl)]; rfl, by simp only [Knows, put, upd_apply, Nat.reduceEqDiff, ↓reduceIte, and_true, true_and, eq_self] <;> and_intros <;> rfl⟩) ?_
 rintro m f es' ⟨k, s5, rfl, hk1, rfl, hk⟩
 have hrl := repsTo_len (fun i r : Nat => alikeB ss (i : Int) (r : Int)) k
 refine w_pins _ (Sub.refl _) (hk) ?_
 simp only [pins]
 refine w_seq ?_
 refine w_seq ?_
 refine w_region ?_
 refine l_cons rfl (p_move ?_)
 refine l_cons rfl (p_cmp ?_)
 refine l_nil ?_
 refine k_seq_normal ?_
 refine w_b (fun h1 => ?_) (fun h1 => ?_)
 ·skip
  have h1' := h1; (try simp only [decide_eq_true_eq, decide_eq_false_iff_not, Bool.not_eq_true', Bool.not_false, Bool.not_true, Bool.not_eq_false'] at h1')
  refine w_skip ?_
  refine k_seq_normal ?_
  refine w_seq ?_
  refine w_block ?_
  refine w_seq ?_
  refine w_region ?_
  refine l_cons rfl (p_assign ?_)
  refine l_nil ?_
  refine k_seq_normal ?_
  refine w_seq ?_
  refine w_block ?_
  refine w_loop (fun m f es' => ∃ j, m = (repsTo (fun i r : Nat => alikeB ss (i : Int) (r : Int)) k).length - j ∧ j ≤ (repsTo (fun i r : Nat => alikeB ss (i : Int) (r : Int)) k).length ∧ (∀ i (hi : i < j) (h : i < (repsTo (fun i r : Nat => alikeB ss (i : Int) (r : Int)) k).length), (fun i r : Nat => alikeB ss (i : Int) (r : Int)) k ((repsTo (fun i r : Nat => alikeB ss (i : Int) (r : Int)) k)[i]) = false) ∧ es' = .row s5 3 1 ((repsTo (fun i r : Nat => alikeB ss (i : Int) (r : Int)) k).map fun n : Nat => [AV.int .i64 (n : Int)]) :: .row s4 58 256 [(byteT (fun i => if i < k then (clsOf (fun i r : Nat => alikeB ss (i : Int) (r : Int)) i : Int) else 0))] :: .row s2 58 256 [(List.replicate 256 (AV.int .u8 0))] :: es ∧ Knows f [(0, .list 4 (ss.map W4.row)), (2, .ptr es.length s2 0 0), (4, .ptr (es.length + 1) s4 0 0), (5, .own (es.length + 2) s5), (6, .int .i64 (k : Int)), (7, .int .i64 (j : Int))]) ((repsTo (fun i r : Nat => alikeB ss (i : Int) (r : Int)) k).length) (⟨0, rfl, Nat.zero_le _, fun i hi => absurd hi (Nat.not_lt_zero _), rfl, by simp only [Knows, put, upd_apply, Nat.reduceEqDiff, ↓reduceIte, and_true, true_and, eq_self] <;> and_intros <;> rfl⟩) ?_
  rintro m f es' ⟨j, rfl, hj1, hj2, rfl, hk⟩
  have hrj : ∀ h : j < (repsTo (fun i r : Nat => alikeB ss (i : Int) (r : Int)) k).length, (repsTo (fun i r : Nat => alikeB ss (i : Int) (r : Int)) k)[j] < k := fun h => repsTo_lt _ _ _ (List.getElem_mem h)
  refine w_pins _ (Sub.refl _) (hk) ?_
  simp only [pins]
  refine w_seq ?_
  refine w_seq ?_
  refine w_region ?_
  refine l_cons rfl (p_move ?_)
  refine l_cons rfl (p_move ?_)
  refine l_cons rfl (p_leno sl_48 ?_)
  refine l_cons rfl (p_cmp ?_)
  refine l_cons rfl (p_move ?_)
  refine g_b rfl (fun h2 => ?_) (fun h2 => ?_)
  ·skip
   have h2' := h2; (try simp only [decide_eq_true_eq, decide_eq_false_iff_not, Bool.not_eq_true', Bool.not_false, Bool.not_true, Bool.not_eq_false'] at h2')
   refine (p_move ?_)
   refine g_y rfl h2 (p_move ?_)
   try (have hrj2 := hrj (by omega))
   refine g_y rfl h2 (p_conv in_3 in_5 ?_ (hb := wrap8 (n := (k : Int)) (by omega) (by omega)))
   refine g_y rfl h2 (p_move ?_)
   refine g_y rfl h2 (p_move ?_)
   refine g_y rfl h2 (p_ixo sl_48 (a := .ptr (es.length + 2) s5 j 0) ?_ (h0 := by omega) (h1 := by simp only [List.length_map]; omega))
   refine g_y rfl h2 (p_loadp ty_3 (a := .int .i64 (((repsTo (fun i r : Nat => alikeB ss (i : Int) (r : Int)) k)[j]'(by omega) : Nat) : Int)) ?_ (hr := reps_at (by omega)) (hl := Nat.le_refl 1) (ha := rfl))
   refine g_y rfl h2 (p_conv in_3 in_5 ?_ (hb := wrap8 (n := ((((repsTo (fun i r : Nat => alikeB ss (i : Int) (r : Int)) k)[j]'(by omega) : Nat) : Int) : Int)) (by omega) (by omega)))
   refine g_y rfl h2 (p_callr en_127 (alike_walk ss hs (k : Int) ((repsTo (fun i r : Nat => alikeB ss (i : Int) (r : Int)) k)[j]'(by omega) : Nat) ⟨by omega, by omega⟩ ⟨by omega, by omega⟩) ?_)
   refine g_y rfl h2 (p_not ?_)
   refine l_cons rfl (p_pickt h2 ?_)
   refine l_nil ?_
   refine k_seq_normal ?_
   refine w_b (fun h3 => ?_) (fun h3 => ?_)
   ·skip
    have h3' := h3; (try simp only [decide_eq_true_eq, decide_eq_false_iff_not, Bool.not_eq_true', Bool.not_false, Bool.not_true, Bool.not_eq_false'] at h3')
    refine w_skip ?_
    refine k_seq_normal ?_
    refine w_block ?_
    refine w_region ?_
    refine l_cons rfl (p_move ?_)
    refine l_cons rfl (p_arith ?_)
    refine l_cons rfl (p_assign ?_)
    refine l_nil ?_
    refine k_blk_normal ?_
    refine k_seq_normal ?_
    exact ⟨(repsTo (fun i r : Nat => alikeB ss (i : Int) (r : Int)) k).length - (j + 1), by omega, j + 1, rfl, by omega, fun i hi h => (by
     rcases Nat.lt_or_eq_of_le (Nat.le_of_lt_succ hi) with h9 | h9
     ·exact hj2 i h9 h
     ·subst h9; assumption), rfl, by simp only [Knows, put, upd_apply, Nat.reduceEqDiff, ↓reduceIte, and_true, true_and, eq_self] <;> and_intros <;> rfl⟩
   ·skip
    have h3' := h3; (try simp only [decide_eq_true_eq, decide_eq_false_iff_not, Bool.not_eq_true', Bool.not_false, Bool.not_true, Bool.not_eq_false'] at h3')
    refine w_exit ?_
    refine k_seq_exit ?_
    refine k_seq_exit ?_
    refine k_blk_here ?_
    refine k_seq_normal ?_
    refine w_seq ?_
    refine w_seq ?_
    refine w_region ?_
    refine l_cons rfl (p_move ?_)
    refine l_cons rfl (p_move ?_)
    refine l_cons rfl (p_leno sl_48 ?_)
    refine l_cons rfl (p_cmp ?_)
    refine l_nil ?_
    refine k_seq_normal ?_
    refine w_b (fun h4 => ?_) (fun h4 => ?_)
    ·skip
     have h4' := h4; (try simp only [decide_eq_true_eq, decide_eq_false_iff_not, Bool.not_eq_true', Bool.not_false, Bool.not_true, Bool.not_eq_false'] at h4')
     refine w_region ?_
     refine l_cons rfl (p_move ?_)
     refine l_cons rfl (p_move ?_)
     refine l_cons rfl (p_buildList sl_48 ze_3 ?_)
     refine l_cons rfl (p_append sl_48 by_3 ze_3 (fun s37 => ?_) (hb := by simp only [List.length_map, List.length_cons, List.length_nil, most]; omega))
     refine l_cons rfl (p_assign ?_)
     refine l_nil ?_
     refine k_seq_normal ?_
     have hc : clsOf (fun i r : Nat => alikeB ss (i : Int) (r : Int)) k = j := cls_at hj1 hj2 (fun h => by first | (exfalso; omega) | exact h3')
     refine w_region ?_
     refine l_cons rfl (p_move ?_)
     refine l_cons rfl (p_move ?_)
     refine l_cons rfl (p_conv in_3 in_5 ?_ (hb := wrap8 (n := (j : Int)) (by omega) (by omega)))
     refine l_cons rfl (p_ixa ar_58 (a := .ptr (es.length + 1) s4 0 k) ?_ (h0 := by omega) (h1 := by omega) (ho := by simp))
     refine l_cons rfl (p_store ty_5 (r' := (byteT (fun i => if i < k + 1 then (clsOf (fun i r : Nat => alikeB ss (i : Int) (r : Int)) i : Int) else 0))) ?_ (hl := by simp only [byteT_len]; omega) (hr' := by rw [ct_succ hc]; exact byteT_store (by omega)))
     refine l_nil ?_
     refine k_blk_normal ?_
     refine k_seq_normal ?_
     refine w_region ?_
     refine l_cons rfl (p_move ?_)
     refine l_cons rfl (p_arith ?_)
     refine l_cons rfl (p_assign ?_)
     refine l_nil ?_
     refine k_seq_normal ?_
     first
     | exact ⟨256 - (k + 1), by omega, k + 1, s37, rfl, by omega, by rw [cls_new (hc.trans (by omega)), List.map_append] <;> rfl, by simp only [Knows, put, upd_apply, Nat.reduceEqDiff, ↓reduceIte, and_true, true_and, eq_self] <;> and_intros <;> rfl⟩
     | exact ⟨256 - (k + 1), by omega, k + 1, s5, rfl, by omega, by rw [cls_old (by rw [hc]; omega)], by simp only [Knows, put, upd_apply, Nat.reduceEqDiff, ↓reduceIte, and_true, true_and, eq_self] <;> and_intros <;> rfl⟩
    ·skip
     have h4' := h4; (try simp only [decide_eq_true_eq, decide_eq_false_iff_not, Bool.not_eq_true', Bool.not_false, Bool.not_true, Bool.not_eq_false'] at h4')
     refine w_skip ?_
     refine k_seq_normal ?_
     have hc : clsOf (fun i r : Nat => alikeB ss (i : Int) (r : Int)) k = j := cls_at hj1 hj2 (fun h => by first | (exfalso; omega) | exact h3')
     refine w_region ?_
     refine l_cons rfl (p_move ?_)
     refine l_cons rfl (p_move ?_)
     refine l_cons rfl (p_conv in_3 in_5 ?_ (hb := wrap8 (n := (j : Int)) (by omega) (by omega)))
     refine l_cons rfl (p_ixa ar_58 (a := .ptr (es.length + 1) s4 0 k) ?_ (h0 := by omega) (h1 := by omega) (ho := by simp))
     refine l_cons rfl (p_store ty_5 (r' := (byteT (fun i => if i < k + 1 then (clsOf (fun i r : Nat => alikeB ss (i : Int) (r : Int)) i : Int) else 0))) ?_ (hl := by simp only [byteT_len]; omega) (hr' := by rw [ct_succ hc]; exact byteT_store (by omega)))
     refine l_nil ?_
     refine k_blk_normal ?_
     refine k_seq_normal ?_
     refine w_region ?_
     refine l_cons rfl (p_move ?_)
     refine l_cons rfl (p_arith ?_)
     refine l_cons rfl (p_assign ?_)
     refine l_nil ?_
     refine k_seq_normal ?_
     first
     | exact ⟨256 - (k + 1), by omega, k + 1, s37, rfl, by omega, by rw [cls_new (hc.trans (by omega)), List.map_append] <;> rfl, by simp only [Knows, put, upd_apply, Nat.reduceEqDiff, ↓reduceIte, and_true, true_and, eq_self] <;> and_intros <;> rfl⟩
     | exact ⟨256 - (k + 1), by omega, k + 1, s5, rfl, by omega, by rw [cls_old (by rw [hc]; omega)], by simp only [Knows, put, upd_apply, Nat.reduceEqDiff, ↓reduceIte, and_true, true_and, eq_self] <;> and_intros <;> rfl⟩
  ·skip
   have h2' := h2; (try simp only [decide_eq_true_eq, decide_eq_false_iff_not, Bool.not_eq_true', Bool.not_false, Bool.not_true, Bool.not_eq_false'] at h2')
   refine g_n rfl h2 ?_
   try (have hrj2 := hrj (by omega))
   refine g_n rfl h2 ?_
   refine g_n rfl h2 ?_
   refine g_n rfl h2 ?_
   refine g_n rfl h2 ?_
   refine g_n rfl h2 ?_
   refine g_n rfl h2 ?_
   refine g_n rfl h2 ?_
   refine g_n rfl h2 ?_
   refine l_cons rfl (p_pickf h2 ?_)
   refine l_nil ?_
   refine k_seq_normal ?_
   refine w_f rfl ?_
   refine w_exit ?_
   refine k_seq_exit ?_
   refine k_seq_exit ?_
   refine k_blk_here ?_
   refine k_seq_normal ?_
   refine w_seq ?_
   refine w_seq ?_
   refine w_region ?_
   refine l_cons rfl (p_move ?_)
   refine l_cons rfl (p_move ?_)
   refine l_cons rfl (p_leno sl_48 ?_)
   refine l_cons rfl (p_cmp ?_)
   refine l_nil ?_
   refine k_seq_normal ?_
   refine w_b (fun h5 => ?_) (fun h5 => ?_)
   ·skip
    have h5' := h5; (try simp only [decide_eq_true_eq, decide_eq_false_iff_not, Bool.not_eq_true', Bool.not_false, Bool.not_true, Bool.not_eq_false'] at h5')
    refine w_region ?_
    refine l_cons rfl (p_move ?_)
    refine l_cons rfl (p_move ?_)
    refine l_cons rfl (p_buildList sl_48 ze_3 ?_)
    refine l_cons rfl (p_append sl_48 by_3 ze_3 (fun s37 => ?_) (hb := by simp only [List.length_map, List.length_cons, List.length_nil, most]; omega))
    refine l_cons rfl (p_assign ?_)
    refine l_nil ?_
    refine k_seq_normal ?_
    have hc : clsOf (fun i r : Nat => alikeB ss (i : Int) (r : Int)) k = j := cls_at hj1 hj2 (fun h => by first | (exfalso; omega) | exact h3')
    refine w_region ?_
    refine l_cons rfl (p_move ?_)
    refine l_cons rfl (p_move ?_)
    refine l_cons rfl (p_conv in_3 in_5 ?_ (hb := wrap8 (n := (j : Int)) (by omega) (by omega)))
    refine l_cons rfl (p_ixa ar_58 (a := .ptr (es.length + 1) s4 0 k) ?_ (h0 := by omega) (h1 := by omega) (ho := by simp))
    refine l_cons rfl (p_store ty_5 (r' := (byteT (fun i => if i < k + 1 then (clsOf (fun i r : Nat => alikeB ss (i : Int) (r : Int)) i : Int) else 0))) ?_ (hl := by simp only [byteT_len]; omega) (hr' := by rw [ct_succ hc]; exact byteT_store (by omega)))
    refine l_nil ?_
    refine k_blk_normal ?_
    refine k_seq_normal ?_
    refine w_region ?_
    refine l_cons rfl (p_move ?_)
    refine l_cons rfl (p_arith ?_)
    refine l_cons rfl (p_assign ?_)
    refine l_nil ?_
    refine k_seq_normal ?_
    first
    | exact ⟨256 - (k + 1), by omega, k + 1, s37, rfl, by omega, by rw [cls_new (hc.trans (by omega)), List.map_append] <;> rfl, by simp only [Knows, put, upd_apply, Nat.reduceEqDiff, ↓reduceIte, and_true, true_and, eq_self] <;> and_intros <;> rfl⟩
    | exact ⟨256 - (k + 1), by omega, k + 1, s5, rfl, by omega, by rw [cls_old (by rw [hc]; omega)], by simp only [Knows, put, upd_apply, Nat.reduceEqDiff, ↓reduceIte, and_true, true_and, eq_self] <;> and_intros <;> rfl⟩
   ·skip
    have h5' := h5; (try simp only [decide_eq_true_eq, decide_eq_false_iff_not, Bool.not_eq_true', Bool.not_false, Bool.not_true, Bool.not_eq_false'] at h5')
    refine w_skip ?_
    refine k_seq_normal ?_
    have hc : clsOf (fun i r : Nat => alikeB ss (i : Int) (r : Int)) k = j := cls_at hj1 hj2 (fun h => by first | (exfalso; omega) | exact h3')
    refine w_region ?_
    refine l_cons rfl (p_move ?_)
    refine l_cons rfl (p_move ?_)
    refine l_cons rfl (p_conv in_3 in_5 ?_ (hb := wrap8 (n := (j : Int)) (by omega) (by omega)))
    refine l_cons rfl (p_ixa ar_58 (a := .ptr (es.length + 1) s4 0 k) ?_ (h0 := by omega) (h1 := by omega) (ho := by simp))
    refine l_cons rfl (p_store ty_5 (r' := (byteT (fun i => if i < k + 1 then (clsOf (fun i r : Nat => alikeB ss (i : Int) (r : Int)) i : Int) else 0))) ?_ (hl := by simp only [byteT_len]; omega) (hr' := by rw [ct_succ hc]; exact byteT_store (by omega)))
    refine l_nil ?_
    refine k_blk_normal ?_
    refine k_seq_normal ?_
    refine w_region ?_
    refine l_cons rfl (p_move ?_)
    refine l_cons rfl (p_arith ?_)
    refine l_cons rfl (p_assign ?_)
    refine l_nil ?_
    refine k_seq_normal ?_
    first
    | exact ⟨256 - (k + 1), by omega, k + 1, s37, rfl, by omega, by rw [cls_new (hc.trans (by omega)), List.map_append] <;> rfl, by simp only [Knows, put, upd_apply, Nat.reduceEqDiff, ↓reduceIte, and_true, true_and, eq_self] <;> and_intros <;> rfl⟩
    | exact ⟨256 - (k + 1), by omega, k + 1, s5, rfl, by omega, by rw [cls_old (by rw [hc]; omega)], by simp only [Knows, put, upd_apply, Nat.reduceEqDiff, ↓reduceIte, and_true, true_and, eq_self] <;> and_intros <;> rfl⟩
 ·skip
  have h1' := h1; (try simp only [decide_eq_true_eq, decide_eq_false_iff_not, Bool.not_eq_true', Bool.not_false, Bool.not_true, Bool.not_eq_false'] at h1')
  refine w_exit ?_
  refine k_seq_exit ?_
  refine k_seq_exit ?_
  refine k_blk_here ?_
  refine k_seq_normal ?_
  refine w_seq ?_
  have hk256 : k = 256 := by omega
  subst hk256
  refine w_region ?_
  refine l_cons rfl (p_loadp ty_58 (a := .agg (byteT (fun i => if i < 256 then (clsOf (fun i r : Nat => alikeB ss (i : Int) (r : Int)) i : Int) else 0))) ?_ (hl := by simp only [byteT_len]; omega) (ha := byteT_all _))
  refine l_cons rfl (p_move ?_)
  refine l_cons rfl (p_leno sl_48 ?_)
  refine l_cons rfl (p_store ty_58 ?_)
  refine l_cons rfl (p_assign ?_)
  refine l_nil ?_
  refine k_seq_normal ?_
  refine w_ret ?_
  rw [show byteT (fun i => (clsOf (fun i r : Nat => alikeB ss (i : Int) (r : Int)) i : Int)) = byteT (fun i => if i < 256 then (clsOf (fun i r : Nat => alikeB ss (i : Int) (r : Int)) i : Int) else 0) from byteT_congr fun i hi => (if_pos hi).symm]
  exact retct rfl ty_58 (sub3 _ _ _ _) ⟨rfl, rfl⟩
end Go.Proofs.YtfdgbghlanbddaaDoor.Av
set_option linter.unusedVariables false
set_option linter.unusedSimpArgs false
namespace Go.Proofs.YtfdgbghlanbddaaDoor.Av
/-! ### bytes that are alike, in general -/
structure Eqv (al : Nat → Nat → Bool) : Prop where
 refl : ∀ x, al x x = true
 symm : ∀ x y, al x y = al y x
 trans : ∀ x y z, al x y = true → al y z = true → al x z = true
theorem alikeB_eqv (ss : List W4) : Eqv (fun i r : Nat => alikeB ss (i : Int) (r : Int)) := by
 refine ⟨fun x => by simp [alikeB], fun x y => ?_, fun x y z h1 h2 => ?_⟩
 ·simp only [alikeB]
  congr 1
  funext s
  exact Bool.beq_comm
 ·simp only [alikeB, List.all_eq_true, beq_iff_eq] at *
  exact fun s hs => (h1 s hs).trans (h2 s hs)
section
variable {al : Nat → Nat → Bool}
theorem reps_prefix (al : Nat → Nat → Bool) {j k : Nat} (h : j ≤ k) : ∃ t, repsTo al k = repsTo al j ++ t := by
 induction k with
 | zero => exact ⟨[], by rw [show j = 0 by omega, List.append_nil]⟩
 | succ k ih =>
  by_cases hj : j = k + 1
  ·exact ⟨[], by rw [hj, List.append_nil]⟩
  ·obtain ⟨t, ht⟩ := ih (by omega)
   rw [repsTo, ht]
   split
   ·exact ⟨t, rfl⟩
   ·exact ⟨t ++ [k], by rw [List.append_assoc]⟩
theorem cls_lt (al : Nat → Nat → Bool) (b : Nat) : clsOf al b < (repsTo al (b + 1)).length := by
 by_cases h : clsOf al b = (repsTo al b).length
 ·rw [cls_new h, List.length_append, h]; simp
 ·rw [cls_old h]
  have := clsOf_le al b
  omega
theorem cls_lt' (al : Nat → Nat → Bool) {b k : Nat} (h : b < k) : clsOf al b < (repsTo al k).length := by
 obtain ⟨t, ht⟩ := reps_prefix al (show b + 1 ≤ k from h)
 have := cls_lt al b
 rw [ht, List.length_append]
 omega
theorem reps_get (al : Nat → Nat → Bool) {j k i : Nat} (h : j ≤ k) (hi : i < (repsTo al j).length) (hi' : i < (repsTo al k).length) : (repsTo al k)[i] = (repsTo al j)[i] := by
 obtain ⟨t, ht⟩ := reps_prefix al h
 have : (repsTo al k)[i]? = (repsTo al j)[i]? := by rw [ht, List.getElem?_append_left hi]
 rw [List.getElem?_eq_getElem hi, List.getElem?_eq_getElem hi'] at this
 exact Option.some.inj this
theorem cls_like (e : Eqv al) (b : Nat) : al b ((repsTo al (b + 1))[clsOf al b]'(cls_lt al b)) = true := by
 by_cases h : clsOf al b = (repsTo al b).length
 ·have h2 : (repsTo al (b + 1))[clsOf al b]? = some b := by
   rw [cls_new h, h]; simp
  rw [List.getElem?_eq_getElem (cls_lt al b)] at h2
  rw [Option.some.inj h2]
  exact e.refl b
 ·have hl : clsOf al b < (repsTo al b).length := by
   have := clsOf_le al b
   omega
  rw [reps_get al (Nat.le_succ b) hl]
  exact List.findIdx_getElem (w := hl)
theorem cls_like' (e : Eqv al) {b k : Nat} (h : b < k) : al b ((repsTo al k)[clsOf al b]'(cls_lt' al h)) = true := by
 rw [reps_get al (show b + 1 ≤ k from h) (cls_lt al b)]
 exact cls_like e b
/-- No two of the first ones are alike. -/
theorem reps_ne (e : Eqv al) : ∀ k, (repsTo al k).Pairwise fun a b => al b a = false
 | 0 => List.Pairwise.nil
 | k + 1 => by
  rw [repsTo]
  split
  ·exact reps_ne e k
  ·rename_i h
   rw [List.pairwise_append]
   refine ⟨reps_ne e k, List.pairwise_singleton _ _, fun a ha b hb => ?_⟩
   rw [List.mem_singleton] at hb
   subst hb
   cases hh : al b a with
   | false => rfl
   | true => exact absurd (List.any_eq_true.2 ⟨a, ha, hh⟩) h
theorem reps_inj (e : Eqv al) {k i j : Nat} (hi : i < (repsTo al k).length) (hj : j < (repsTo al k).length) (h : al ((repsTo al k)[i]) ((repsTo al k)[j]) = true) : i = j := by
 have hp := List.pairwise_iff_getElem.1 (reps_ne e k)
 rcases Nat.lt_trichotomy i j with h1 | h1 | h1
 ·have := hp i j hi hj h1
  rw [e.symm] at this
  rw [this] at h; cases h
 ·exact h1
 ·have := hp j i hj hi h1
  rw [this] at h; cases h
theorem cls_iff (e : Eqv al) {b i k : Nat} (hb : b < k) (hi : i < (repsTo al k).length) : clsOf al b = i ↔ al b (repsTo al k)[i] = true := by
 constructor
 ·rintro rfl
  exact cls_like' e hb
 ·intro h
  refine reps_inj e (cls_lt' al hb) hi (e.trans _ b _ ?_ h)
  rw [e.symm]
  exact cls_like' e hb
theorem reps_lt' (al : Nat → Nat → Bool) {k i : Nat} (hi : i < (repsTo al k).length) : (repsTo al k)[i] < k := repsTo_lt al k _ (List.getElem_mem hi)
theorem cls_rep (e : Eqv al) {k i : Nat} (hi : i < (repsTo al k).length) : clsOf al (repsTo al k)[i] = i :=
 (cls_iff e (reps_lt' al hi) hi).2 (e.refl _)
/-- The first of a class is its least. -/
theorem rep_least {b k : Nat} (hb : b < k) : (repsTo al k)[clsOf al b]'(cls_lt' al hb) ≤ b := by
 rw [reps_get al (show b + 1 ≤ k from hb) (cls_lt al b)]
 exact Nat.le_of_lt_succ (reps_lt' al (cls_lt al b))
/-- The first bytes of the classes, al' they stand when the bytes from m on are through. -/
def firstTo (al : Nat → Nat → Bool) (m : Nat) : List Int := (List.range (repsTo al 256).length).map fun j => match (List.range 256).find? (fun b => decide (m ≤ b) && decide (clsOf al b = j)) with
 | some b => (b : Int)
 | none => 0
theorem firstTo_len (al : Nat → Nat → Bool) (m : Nat) : (firstTo al m).length = (repsTo al 256).length := by simp [firstTo]
theorem firstTo_top (al : Nat → Nat → Bool) : firstTo al 256 = List.replicate (repsTo al 256).length 0 := by
 refine List.ext_getElem (by simp [firstTo]) fun j h1 h2 => ?_
 simp only [firstTo, List.getElem_map, List.getElem_range, List.getElem_replicate]
 rw [List.find?_eq_none.2]
 intro b hb
 have := List.mem_range.1 hb
 simp
 omega
theorem find_at {p : Nat → Bool} {n k : Nat} (hk : k < n) (hp : p k = true) (h : ∀ j, j < k → p j = false) : (List.range n).find? p = some k := by
 rw [List.find?_eq_some_iff_getElem]
 exact ⟨hp, k, by simpa using hk, by simp, fun j hj => by simp [h j hj]⟩
theorem firstTo_step (al : Nat → Nat → Bool) {m : Nat} (hm : m < 256) : (firstTo al (m + 1)).set (clsOf al m) (m : Int) = firstTo al m := by
 refine List.ext_getElem (by simp [firstTo]) fun j h1 h2 => ?_
 rw [List.getElem_set]
 by_cases hj : clsOf al m = j
 ·rw [if_pos hj]
  simp only [firstTo, List.getElem_map, List.getElem_range]
  rw [find_at (k := m) hm (by simp [hj]) (fun i hi => by simp; omega)]
 ·rw [if_neg hj]
  simp only [firstTo, List.getElem_map, List.getElem_range]
  congr 1
  refine congrArg (fun p => List.find? p (List.range 256)) (funext fun b => ?_)
  by_cases hb : b = m
  ·subst hb; simp [hj]
  ·congr 1
   rw [decide_eq_decide]
   omega
theorem firstTo_all (e : Eqv al) : firstTo al 0 = (repsTo al 256).map Int.ofNat := by
 refine List.ext_getElem (by simp [firstTo]) fun j h1 h2 => ?_
 have hj : j < (repsTo al 256).length := by simpa using h2
 simp only [firstTo, List.getElem_map, List.getElem_range]
 rw [find_at (k := (repsTo al 256)[j]) (reps_lt' al hj) (by simp [cls_rep e hj]) (fun i hi => ?_)]
 ·rfl
 ·simp only [Nat.zero_le, decide_true, Bool.true_and, decide_eq_false_iff_not]
  rintro rfl
  have hi2 : i < 256 := Nat.lt_trans hi (reps_lt' al hj)
  have := rep_least (al := al) hi2
  omega
end
/-! ### sets, in half -/
def andS (a b : W4) : W4 := mapW andI a b
def notS (a : W4) : W4 := mapW (fun x _ => xorI 18446744073709551615 x) a a
def fullW : W4 := notS noSet
theorem andI_ok {x y : Int} (hx : 0 ≤ x ∧ x < 18446744073709551616) (hy : 0 ≤ y ∧ y < 18446744073709551616) : 0 ≤ andI x y ∧ andI x y < 18446744073709551616 := by
 unfold andI
 have : x.toNat &&& y.toNat ≤ x.toNat := Nat.and_le_left
 omega
theorem notI_ok {x : Int} (hx : 0 ≤ x ∧ x < 18446744073709551616) : 0 ≤ xorI 18446744073709551615 x ∧ xorI 18446744073709551615 x < 18446744073709551616 := by
 unfold xorI
 have : (18446744073709551615 : Int).toNat ^^^ x.toNat < 2 ^ 64 := Nat.xor_lt_two_pow (by decide) (by omega)
 omega
theorem and_ok {a b : W4} (ha : a.ok) (hb : b.ok) : (andS a b).ok := by
 unfold W4.ok at *
 have h0 := andI_ok (x := a.w0) (y := b.w0) (by omega) (by omega)
 have h1 := andI_ok (x := a.w1) (y := b.w1) (by omega) (by omega)
 have h2 := andI_ok (x := a.w2) (y := b.w2) (by omega) (by omega)
 have h3 := andI_ok (x := a.w3) (y := b.w3) (by omega) (by omega)
 simp only [andS, mapW]
 omega
theorem not_ok {a : W4} (ha : a.ok) : (notS a).ok := by
 unfold W4.ok at *
 have h0 := notI_ok (x := a.w0) (by omega)
 have h1 := notI_ok (x := a.w1) (by omega)
 have h2 := notI_ok (x := a.w2) (by omega)
 have h3 := notI_ok (x := a.w3) (by omega)
 simp only [notS, mapW]
 omega
theorem four {i : Nat} (hi : i < 256) : i / 64 = 0 ∨ i / 64 = 1 ∨ i / 64 = 2 ∨ i / 64 = 3 := by omega
theorem and_has {a b : W4} (ha : a.ok) (hb : b.ok) {i : Nat} (hi : i < 256) : (andS a b).has i = (a.has i && b.has i) := by
 rw [W4.has_eq (and_ok ha hb) hi, W4.has_eq ha hi, W4.has_eq hb hi, ← Nat.testBit_and]
 congr 1
 rcases four hi with h | h | h | h <;> rw [h] <;> simp [andS, mapW, W4.wd, andI]
theorem not_has {a : W4} (ha : a.ok) {i : Nat} (hi : i < 256) : (notS a).has i = !(a.has i) := by
 rw [W4.has_eq (not_ok ha) hi, W4.has_eq ha hi]
 have key : ∀ x : Int, (xorI 18446744073709551615 x).toNat.testBit (i % 64) = !(x.toNat.testBit (i % 64)) := by
  intro x
  unfold xorI
  rw [Int.toNat_natCast, Nat.testBit_xor, show (18446744073709551615 : Int).toNat = 2 ^ 64 - 1 by decide, Nat.testBit_two_pow_sub_one, decide_eq_true (show i % 64 < 64 by omega), Bool.true_xor]
 rcases four hi with h | h | h | h <;> rw [h] <;> simp only [notS, mapW, W4.wd] <;> exact key _
theorem full_ok : fullW.ok := not_ok noSet_ok
theorem full_has {i : Nat} (hi : i < 256) : fullW.has i = true := by
 unfold fullW
 rw [not_has noSet_ok hi, noSet_has hi]; rfl
theorem ne_has {a : W4} (ha : a.ok) (h : a ≠ noSet) : ∃ b, b < 256 ∧ a.has b = true := by
 refine Classical.byContradiction fun hn => h (W4.ext ha noSet_ok fun i hi => ?_)
 rw [noSet_has hi]
 cases hh : a.has i with
 | false => rfl
 | true => exact absurd ⟨i, hi, hh⟩ hn
def halves (p s : W4) : List W4 := [andS p s, andS p (notS s)].filter fun x => decide (x ≠ noSet)
def splitS (parts : List W4) (s : W4) : List W4 := parts.flatMap fun p => halves p s
def partsOf (l : List W4) : List W4 := l.foldl splitS [fullW]
structure PInv (parts done : List W4) : Prop where
 ok : ∀ p ∈ parts, p.ok
 full : ∀ b, b < 256 → ∃ p ∈ parts, p.has b = true
 non : ∀ p ∈ parts, ∃ b, b < 256 ∧ p.has b = true
 disj : parts.Pairwise fun p q => ∀ b, b < 256 → ¬ (p.has b = true ∧ q.has b = true)
 like : ∀ p ∈ parts, ∀ b, b < 256 → ∀ c, c < 256 → p.has b = true → (p.has c = true ↔ alikeB done b c = true)
theorem halves_mem {p s x : W4} : x ∈ halves p s ↔ x ≠ noSet ∧ (x = andS p s ∨ x = andS p (notS s)) := by
 unfold halves
 rw [List.mem_filter]
 simp only [List.mem_cons, List.not_mem_nil, or_false, decide_eq_true_eq]
 exact And.comm
theorem PInv.start : PInv [fullW] [] := by
 refine ⟨fun p hp => ?_, fun b hb => ⟨_, List.mem_singleton.2 rfl, full_has hb⟩, fun p hp => ?_, List.pairwise_singleton _ _, fun p hp b hb c hc _ => ?_⟩
 ·rw [List.mem_singleton.1 hp]; exact full_ok
 ·rw [List.mem_singleton.1 hp]; exact ⟨0, by omega, full_has (by omega)⟩
 ·rw [List.mem_singleton.1 hp]
  simp [full_has hc, alikeB]
/-- What is in a half. -/
theorem half_has {p s x : W4} (hp : p.ok) (hs : s.ok) (h : x ∈ halves p s) : x.ok ∧ ∃ v, ∀ b, b < 256 → x.has b = (p.has b && (s.has b == v)) := by
 rcases (halves_mem.1 h).2 with rfl | rfl
 ·exact ⟨and_ok hp hs, true, fun b hb => by rw [and_has hp hs hb]; cases s.has b <;> rfl⟩
 ·exact ⟨and_ok hp (not_ok hs), false, fun b hb => by rw [and_has hp (not_ok hs) hb, not_has hs hb]; cases s.has b <;> rfl⟩
theorem PInv.split {parts done : List W4} (h : PInv parts done) {s : W4} (hs : s.ok) : PInv (splitS parts s) (done ++ [s]) := by
 have mem : ∀ {x}, x ∈ splitS parts s → ∃ p ∈ parts, x ∈ halves p s := fun hx => List.mem_flatMap.1 hx
 refine ⟨fun x hx => ?_, fun b hb => ?_, fun x hx => ?_, ?_, fun x hx b hb c hc hxb => ?_⟩
 ·obtain ⟨p, hp, hx⟩ := mem hx
  exact (half_has (h.ok p hp) hs hx).1
 ·obtain ⟨p, hp, hpb⟩ := h.full b hb
  have hpo := h.ok p hp
  cases hv : s.has b with
  | true =>
   have hh : (andS p s).has b = true := by rw [and_has hpo hs hb, hpb, hv]; rfl
   refine ⟨andS p s, List.mem_flatMap.2 ⟨p, hp, halves_mem.2 ⟨fun e => ?_, .inl rfl⟩⟩, hh⟩
   rw [e, noSet_has hb] at hh; cases hh
  | false =>
   have hh : (andS p (notS s)).has b = true := by rw [and_has hpo (not_ok hs) hb, not_has hs hb, hpb, hv]; rfl
   refine ⟨andS p (notS s), List.mem_flatMap.2 ⟨p, hp, halves_mem.2 ⟨fun e => ?_, .inr rfl⟩⟩, hh⟩
   rw [e, noSet_has hb] at hh; cases hh
 ·obtain ⟨p, hp, hx⟩ := mem hx
  exact ne_has (half_has (h.ok p hp) hs hx).1 (halves_mem.1 hx).1
 ·unfold splitS
  rw [List.pairwise_flatMap]
  refine ⟨fun p hp => ?_, ?_⟩
  ·unfold halves
   refine List.Pairwise.filter _ ?_
   rw [List.pairwise_cons]
   refine ⟨fun y hy b hb hxy => ?_, List.pairwise_singleton _ _⟩
   rw [List.mem_singleton] at hy
   subst hy
   have hpo := h.ok p hp
   rw [and_has hpo hs hb, and_has hpo (not_ok hs) hb, not_has hs hb] at hxy
   revert hxy
   cases p.has b <;> cases s.has b <;> simp
  ·refine List.Pairwise.imp_of_mem (fun {p q} hp hq hpq => ?_) h.disj
   intro x hx y hy b hb hxy
   obtain ⟨_, v, h1⟩ := half_has (h.ok p hp) hs hx
   obtain ⟨_, u, h2⟩ := half_has (h.ok q hq) hs hy
   rw [h1 b hb, h2 b hb, Bool.and_eq_true, Bool.and_eq_true] at hxy
   exact hpq b hb ⟨hxy.1.1, hxy.2.1⟩
 ·obtain ⟨p, hp, hx⟩ := mem hx
  obtain ⟨_, v, h1⟩ := half_has (h.ok p hp) hs hx
  rw [h1 b hb, Bool.and_eq_true, beq_iff_eq] at hxb
  have := h.like p hp b hb c hc hxb.1
  have e : alikeB (done ++ [s]) b c = (alikeB done b c && (s.has b == s.has c)) := by
   unfold alikeB
   rw [List.all_append]
   simp [W4.has, W4.hasI]
  rw [h1 c hc, e, Bool.and_eq_true, Bool.and_eq_true, this, hxb.2]
  simp only [beq_iff_eq]
  exact and_congr_right fun _ => eq_comm
theorem parts_inv (l : List W4) (h : ∀ s ∈ l, s.ok) : PInv (partsOf l) l := by
 have key : ∀ (l done parts : List W4), (∀ s ∈ l, s.ok) → PInv parts done → PInv (l.foldl splitS parts) (done ++ l) := by
  intro l
  induction l with
  | nil => intro done parts _ hp; simpa using hp
  | cons a t ih =>
   intro done parts ho hp
   have := ih (done ++ [a]) (splitS parts a) (fun s hs => ho s (by simp [hs])) (hp.split (ho a (by simp)))
   simpa using this
 have := key l [] [fullW] h PInv.start
 rw [List.nil_append] at this
 exact this
theorem split_take {parts : List W4} {s : W4} {k : Nat} (h : k < parts.length) : splitS (parts.take (k + 1)) s = splitS (parts.take k) s ++ halves parts[k] s := by
 unfold splitS
 rw [List.take_add_one, List.getElem?_eq_getElem h, List.flatMap_append]
 simp
theorem partsOf_take {l : List W4} {k : Nat} (h : k < l.length) : partsOf (l.take (k + 1)) = splitS (partsOf (l.take k)) l[k] := by
 unfold partsOf
 rw [List.take_add_one, List.getElem?_eq_getElem h, List.foldl_append]
 rfl
/-- Parts that do not meet are 256 at most. -/
theorem PInv.len {parts done : List W4} (h : PInv parts done) : parts.length ≤ 256 := by
 have hA : ∀ i, i < parts.length → ∃ b, b < 256 ∧ ∃ p, parts[i]? = some p ∧ p.has b = true := fun i hi => by
  obtain ⟨b, hb, hp⟩ := h.non _ (List.getElem_mem hi)
  exact ⟨b, hb, _, List.getElem?_eq_getElem hi, hp⟩
 have hB : ∀ i : Nat, ∃ b, i < parts.length → b < 256 ∧ ∃ p, parts[i]? = some p ∧ p.has b = true := fun i => by
  by_cases hi : i < parts.length
  ·obtain ⟨b, hb⟩ := hA i hi; exact ⟨b, fun _ => hb⟩
  ·exact ⟨0, fun h => absurd h hi⟩
 obtain ⟨g, hg⟩ := Classical.axiomOfChoice hB
 have hnd : ((List.range parts.length).map g).Nodup := by
  rw [List.Nodup, List.pairwise_map]
  refine List.Pairwise.imp_of_mem (fun {i j} hi hj hij => ?_) List.pairwise_lt_range
  intro e
  have hi := List.mem_range.1 hi
  have hj := List.mem_range.1 hj
  obtain ⟨hb, p, hp, hpb⟩ := hg i hi
  obtain ⟨hb', q, hq, hqb⟩ := hg j hj
  rw [List.getElem?_eq_getElem hi] at hp
  rw [List.getElem?_eq_getElem hj] at hq
  have := List.pairwise_iff_getElem.1 h.disj i j hi hj hij (g i) hb
  rw [Option.some.inj hp, Option.some.inj hq] at this
  exact this ⟨hpb, by rw [e]; exact hqb⟩
 have hsub : (List.range parts.length).map g ⊆ List.range 256 := by
  intro x hx
  obtain ⟨i, hi, rfl⟩ := List.mem_map.1 hx
  exact List.mem_range.2 (hg i (List.mem_range.1 hi)).1
 have := List.Nodup.length_le_of_subset hnd hsub
 simpa using this
/-! ### the parts in order -/
def outOne (b : Nat) (a : List W4 × W4) (p : W4) : List W4 × W4 := if p.has b = true then (a.1 ++ [p], a.2.or p) else a
def outStep (parts : List W4) (a : List W4 × W4) (b : Nat) : List W4 × W4 := if a.2.has b = true then a else parts.foldl (outOne b) a
def outTo (parts : List W4) (k : Nat) : List W4 × W4 := (List.range k).foldl (outStep parts) ([], noSet)
def classSet (al : Nat → Nat → Bool) (r : Nat) : W4 := ofW (((List.range 256).filter (fun c => al c r)).map Int.ofNat)
theorem filt_in (p : Nat → Bool) : ∀ b ∈ ((List.range 256).filter p).map Int.ofNat, 0 ≤ b ∧ b < 256 := by
 intro b hb
 simp only [List.mem_map, List.mem_filter, List.mem_range] at hb
 obtain ⟨i, ⟨h1, _⟩, rfl⟩ := hb
 show (0 : Int) ≤ (i : Int) ∧ (i : Int) < 256
 omega
theorem classSet_ok (al : Nat → Nat → Bool) (r : Nat) : (classSet al r).ok := ofW_ok (filt_in _)
theorem classSet_has (al : Nat → Nat → Bool) (r : Nat) {c : Nat} (hc : c < 256) : (classSet al r).has c = al c r := by
 unfold classSet
 rw [ofW_has (filt_in _) hc, Bool.eq_iff_iff]
 simp only [decide_eq_true_eq, List.mem_map, List.mem_filter, List.mem_range]
 constructor
 ·rintro ⟨i, ⟨_, h⟩, e⟩
  have : i = c := by
   have : (i : Int) = (c : Int) := e
   omega
  exact this ▸ h
 ·intro h
  exact ⟨c, ⟨hc, h⟩, rfl⟩
theorem outOne_none {b : Nat} : ∀ (l : List W4) (a : List W4 × W4), (∀ p ∈ l, p.has b = false) → l.foldl (outOne b) a = a
 | [], a, _ => rfl
 | p :: t, a, h => by
  rw [List.foldl_cons, outOne, if_neg (by rw [h p (by simp)]; decide)]
  exact outOne_none t a fun q hq => h q (by simp [hq])
theorem outOne_some {parts done : List W4} (h : PInv parts done) {b : Nat} (hb : b < 256) (a : List W4 × W4) : ∃ p ∈ parts, p.has b = true ∧ parts.foldl (outOne b) a = (a.1 ++ [p], a.2.or p) := by
 obtain ⟨p, hp, hpb⟩ := h.full b hb
 obtain ⟨l1, l2, e⟩ := List.append_of_mem hp
 refine ⟨p, hp, hpb, ?_⟩
 have hd := h.disj
 rw [e, List.pairwise_append, List.pairwise_cons] at hd
 rw [e, List.foldl_append, List.foldl_cons, outOne_none l1, outOne, if_pos hpb, outOne_none l2]
 ·intro q hq
  cases hh : q.has b with
  | false => rfl
  | true => exact absurd ⟨hpb, hh⟩ (hd.2.1.1 q hq b hb)
 ·intro q hq
  cases hh : q.has b with
  | false => rfl
  | true => exact absurd ⟨hh, hpb⟩ (hd.2.2 q hq p (by simp) b hb)
theorem out_succ (parts : List W4) (k : Nat) : outTo parts (k + 1) = outStep parts (outTo parts k) k := by
 unfold outTo
 rw [List.range_succ, List.foldl_append]; rfl
theorem out_law {parts ss : List W4} (h : PInv parts ss) : ∀ k, k ≤ 256 → (outTo parts k).1 = (repsTo (fun i r : Nat => alikeB ss (i : Int) (r : Int)) k).map (classSet fun i r : Nat => alikeB ss (i : Int) (r : Int)) ∧ (outTo parts k).2.ok ∧
  ∀ c, c < 256 → (outTo parts k).2.has c = (repsTo (fun i r : Nat => alikeB ss (i : Int) (r : Int)) k).any fun r => alikeB ss (c : Int) (r : Int)
 | 0, _ => ⟨rfl, noSet_ok, fun c hc => noSet_has hc⟩
 | k + 1, hk => by
  obtain ⟨h1, h2, h3⟩ := out_law h k (by omega)
  rw [out_succ, outStep, repsTo, h3 k (by omega)]
  split
  ·exact ⟨h1, h2, h3⟩
  ·obtain ⟨p, hp, hpb, e⟩ := outOne_some h (show k < 256 by omega) (outTo parts k)
   have hpe : p = classSet (fun i r : Nat => alikeB ss (i : Int) (r : Int)) k := by
    refine W4.ext (h.ok p hp) (classSet_ok _ _) fun c hc => ?_
    rw [classSet_has _ _ hc, Bool.eq_iff_iff, h.like p hp k (by omega) c hc hpb, (alikeB_eqv ss).symm]
   rw [e]
   refine ⟨?_, or_ok h2 (h.ok p hp), fun c hc => ?_⟩
   ·simp only [List.map_append, List.map_cons, List.map_nil]
    rw [h1, hpe]
   ·simp only
    rw [or_has h2 (h.ok p hp) hc, h3 c hc, List.any_append, hpe, classSet_has _ _ hc]
    simp
/-! ### the classes' table -/
/-- The table when the bytes of the first i parts, and the first j of the next one, are in. -/
def clTab (al : Nat → Nat → Bool) (i : Nat) (l : List Int) (b : Nat) : Int := if clsOf al b < i then (clsOf al b : Int) else if (b : Int) ∈ l then (i : Int) else 0
theorem classSet_mem {al : Nat → Nat → Bool} (e : Eqv al) {i : Nat} (hi : i < (repsTo al 256).length) {b : Nat} (hb : b < 256) : (b : Int) ∈ listW (classSet al (repsTo al 256)[i]) ↔ clsOf al b = i := by
 rw [listW_mem, cls_iff e hb hi]
 constructor
 ·rintro ⟨j, ej, h1, h2⟩
  have : j = b := by omega
  subst this
  rwa [classSet_has _ _ hb] at h2
 ·intro h
  exact ⟨b, rfl, hb, by rwa [classSet_has _ _ hb]⟩
theorem clTab_all (al : Nat → Nat → Bool) {b : Nat} (hb : b < 256) : clTab al (repsTo al 256).length [] b = (clsOf al b : Int) := by
 unfold clTab
 rw [if_pos (cls_lt' al hb)]
end Go.Proofs.YtfdgbghlanbddaaDoor.Av
set_option linter.unusedVariables false
set_option linter.unusedSimpArgs false
namespace Go.Proofs.YtfdgbghlanbddaaDoor.Av
/-! ### the machine of the sets of states -/
structure Bf where
 sets : List (List Int)
 next : List (List Int)
 ends : List Bool
def placeIx (l : List (List Int)) (x : List Int) : Nat := l.findIdx fun y => decide (y = x)
def placeL (l : List (List Int)) (x : List Int) : List (List Int) := if placeIx l x = l.length then l ++ [x] else l
section
variable {l : List (List Int)} {x : List Int}
theorem placeIx_le (l : List (List Int)) (x : List Int) : placeIx l x ≤ l.length := List.findIdx_le_length
theorem placeIx_old (h : placeIx l x ≠ l.length) : ∃ h2 : placeIx l x < l.length, l[placeIx l x] = x := by
 have h3 : placeIx l x < l.length := by
  have := placeIx_le l x
  omega
 have : decide (l[placeIx l x] = x) = true := List.findIdx_getElem (w := h3)
 exact ⟨h3, of_decide_eq_true this⟩
theorem placeL_old (h : placeIx l x ≠ l.length) : placeL l x = l := if_neg h
theorem placeL_new (h : placeIx l x = l.length) : placeL l x = l ++ [x] := if_pos h
theorem placeL_prefix (l : List (List Int)) (x : List Int) : ∃ t, placeL l x = l ++ t := by
 by_cases h : placeIx l x = l.length
 ·exact ⟨[x], placeL_new h⟩
 ·exact ⟨[], by rw [placeL_old h, List.append_nil]⟩
theorem placeL_get (l : List (List Int)) (x : List Int) : (placeL l x)[placeIx l x]? = some x := by
 by_cases h : placeIx l x = l.length
 ·rw [placeL_new h, h]; simp
 ·obtain ⟨h2, h3⟩ := placeIx_old h
  rw [placeL_old h, List.getElem?_eq_getElem h2, h3]
theorem placeL_len (l : List (List Int)) (x : List Int) : l.length ≤ (placeL l x).length ∧ (placeL l x).length ≤ l.length + 1 := by
 by_cases h : placeIx l x = l.length
 ·rw [placeL_new h]; simp
 ·rw [placeL_old h]; omega
theorem placeIx_at {k : Nat} (h0 : k ≤ l.length) (h1 : ∀ j (hj : j < k) (h : j < l.length), l[j] ≠ x) (h2 : ∀ h : k < l.length, l[k] = x) : placeIx l x = k := by
 unfold placeIx
 by_cases h : k < l.length
 ·exact (List.findIdx_eq h).2 ⟨by simp [h2 h], fun j hj => by simp [h1 j hj (by omega)]⟩
 ·have e : k = l.length := by omega
  subst e
  rw [List.findIdx_eq_length]
  intro y hy
  obtain ⟨j, hj, rfl⟩ := List.mem_iff_getElem.1 hy
  simp [h1 j hj hj]
end
noncomputable def rowOne (n : Nf) (x : List Int) (a : List (List Int) × List Int) (b : Int) : List (List Int) × List Int := (placeL a.1 (stepped n x b), a.2 ++ [(placeIx a.1 (stepped n x b) : Int)])
noncomputable def rowTo (n : Nf) (fs : List Int) (sets : List (List Int)) (x : List Int) (j : Nat) : List (List Int) × List Int := (fs.take j).foldl (rowOne n x) (sets, [])
section
variable (n : Nf) (fs : List Int) (sets : List (List Int)) (x : List Int)
theorem rowTo_zero : rowTo n fs sets x 0 = (sets, []) := by unfold rowTo; rw [List.take_zero]; rfl
variable {n fs sets x}
theorem rowTo_succ {j : Nat} (h : j < fs.length) : rowTo n fs sets x (j + 1) = (placeL (rowTo n fs sets x j).1 (stepped n x fs[j]), (rowTo n fs sets x j).2 ++ [(placeIx (rowTo n fs sets x j).1 (stepped n x fs[j]) : Int)]) := by
 unfold rowTo
 rw [List.take_add_one, List.getElem?_eq_getElem h, List.foldl_append]
 rfl
theorem rowTo_len2 : ∀ {j : Nat}, j ≤ fs.length → (rowTo n fs sets x j).2.length = j
 | 0, _ => by rw [rowTo_zero]; rfl
 | j + 1, h => by
  rw [rowTo_succ (by omega), List.length_append, rowTo_len2 (by omega)]; rfl
theorem rowTo_prefix {j : Nat} : ∀ {k : Nat}, j ≤ k → k ≤ fs.length → (∃ t, (rowTo n fs sets x k).1 = (rowTo n fs sets x j).1 ++ t) ∧ ∃ t, (rowTo n fs sets x k).2 = (rowTo n fs sets x j).2 ++ t
 | 0, h, _ => by
  rw [show j = 0 by omega]
  exact ⟨⟨[], by simp⟩, ⟨[], by simp⟩⟩
 | k + 1, h, hk => by
  by_cases hj : j = k + 1
  ·subst hj
   exact ⟨⟨[], by simp⟩, ⟨[], by simp⟩⟩
  ·obtain ⟨⟨t, ht⟩, ⟨u, hu⟩⟩ := rowTo_prefix (j := j) (k := k) (by omega) (by omega)
   rw [rowTo_succ (by omega)]
   obtain ⟨v, hv⟩ := placeL_prefix (rowTo n fs sets x k).1 (stepped n x fs[k])
   exact ⟨⟨t ++ v, by rw [hv, ht, List.append_assoc]⟩, ⟨u ++ [(placeIx (rowTo n fs sets x k).1 (stepped n x fs[k]) : Int)], by rw [hu, List.append_assoc]⟩⟩
theorem rowTo_get {j k : Nat} (h : j < k) (hk : k ≤ fs.length) : (rowTo n fs sets x k).2[j]? = some (placeIx (rowTo n fs sets x j).1 (stepped n x (fs[j]'(by omega))) : Int) := by
 obtain ⟨_, t, ht⟩ := rowTo_prefix (n := n) (fs := fs) (sets := sets) (x := x) (j := j + 1) (k := k) h hk
 rw [ht, rowTo_succ (by omega), List.append_assoc, List.getElem?_append_right (by rw [rowTo_len2 (by omega)]; exact Nat.le_refl _), rowTo_len2 (by omega)]
 simp
theorem rowTo_le {j k : Nat} (h : j ≤ k) (hk : k ≤ fs.length) : (rowTo n fs sets x j).1.length ≤ (rowTo n fs sets x k).1.length := by
 obtain ⟨⟨t, ht⟩, _⟩ := rowTo_prefix (n := n) (fs := fs) (sets := sets) (x := x) h hk
 rw [ht, List.length_append]; omega
theorem rowTo_closed (h : ∀ y ∈ sets, ∃ l, y = closed n l) : ∀ {j : Nat}, j ≤ fs.length → ∀ y ∈ (rowTo n fs sets x j).1, ∃ l, y = closed n l
 | 0, _ => by rw [rowTo_zero]; exact h
 | j + 1, hj => by
  have ih := rowTo_closed h (j := j) (by omega)
  rw [rowTo_succ (by omega)]
  intro y hy
  by_cases hp : placeIx (rowTo n fs sets x j).1 (stepped n x fs[j]) = (rowTo n fs sets x j).1.length
  ·simp only [placeL_new hp] at hy
   rcases List.mem_append.1 hy with hy | hy
   ·exact ih y hy
   ·rw [List.mem_singleton] at hy
    exact ⟨_, hy⟩
  ·simp only [placeL_old hp] at hy
   exact ih y hy
theorem rowTo_cap (j : Nat) (hj : j ≤ fs.length) : (rowTo n fs sets x j).1.length ≤ sets.length + j := by
 induction j with
 | zero => rw [rowTo_zero]; exact Nat.le_refl _
 | succ j ih =>
  rw [rowTo_succ (by omega)]
  have := (placeL_len (rowTo n fs sets x j).1 (stepped n x fs[j])).2
  have := ih (by omega)
  simp only
  omega
end
noncomputable def roundB (n : Nf) (fs : List Int) (s : Bf) (i : Nat) : Bf := match s.sets[i]? with
 | some x => ⟨(rowTo n fs s.sets x fs.length).1, s.next ++ [(rowTo n fs s.sets x fs.length).2], s.ends ++ [x.contains n.stop]⟩
 | none => s
noncomputable def bfs (n : Nf) (fs : List Int) : Nat → Bf
 | 0 => ⟨[closed n [n.start]], [], []⟩
 | k + 1 => roundB n fs (bfs n fs k) k
section
variable {n : Nf} {fs : List Int}
theorem bfs_alive {k : Nat} (h : k < (bfs n fs k).sets.length) : bfs n fs (k + 1) = ⟨(rowTo n fs (bfs n fs k).sets (bfs n fs k).sets[k] fs.length).1, (bfs n fs k).next ++ [(rowTo n fs (bfs n fs k).sets (bfs n fs k).sets[k] fs.length).2], (bfs n fs k).ends ++ [(bfs n fs k).sets[k].contains n.stop]⟩ := by
 rw [bfs, roundB, List.getElem?_eq_getElem h]
theorem bfs_dead {k : Nat} (h : (bfs n fs k).sets.length ≤ k) : ∀ j, k ≤ j → bfs n fs j = bfs n fs k
 | 0, hj => by rw [show k = 0 by omega]
 | j + 1, hj => by
  by_cases e : k = j + 1
  ·rw [e]
  ·have ih := bfs_dead h j (by omega)
   rw [bfs, roundB, ih, List.getElem?_eq_none (by omega)]
theorem bfs_step (k : Nat) : (∃ t, (bfs n fs (k + 1)).sets = (bfs n fs k).sets ++ t) ∧ (∃ t, (bfs n fs (k + 1)).next = (bfs n fs k).next ++ t) ∧ ∃ t, (bfs n fs (k + 1)).ends = (bfs n fs k).ends ++ t := by
 by_cases h : k < (bfs n fs k).sets.length
 ·rw [bfs_alive h]
  obtain ⟨⟨t, ht⟩, _⟩ := rowTo_prefix (n := n) (fs := fs) (sets := (bfs n fs k).sets) (x := (bfs n fs k).sets[k]) (j := 0) (k := fs.length) (by omega) (Nat.le_refl _)
  rw [rowTo_zero] at ht
  exact ⟨⟨t, ht⟩, ⟨_, rfl⟩, ⟨_, rfl⟩⟩
 ·rw [bfs_dead (Nat.le_of_not_lt h) (k + 1) (Nat.le_succ k)]
  exact ⟨⟨[], by simp⟩, ⟨[], by simp⟩, ⟨[], by simp⟩⟩
theorem bfs_prefix {j : Nat} : ∀ {k : Nat}, j ≤ k → (∃ t, (bfs n fs k).sets = (bfs n fs j).sets ++ t) ∧ (∃ t, (bfs n fs k).next = (bfs n fs j).next ++ t) ∧ ∃ t, (bfs n fs k).ends = (bfs n fs j).ends ++ t
 | 0, h => by
  rw [show j = 0 by omega]
  exact ⟨⟨[], by simp⟩, ⟨[], by simp⟩, ⟨[], by simp⟩⟩
 | k + 1, h => by
  by_cases e : j = k + 1
  ·subst e
   exact ⟨⟨[], by simp⟩, ⟨[], by simp⟩, ⟨[], by simp⟩⟩
  ·obtain ⟨⟨t, ht⟩, ⟨u, hu⟩, ⟨v, hv⟩⟩ := bfs_prefix (j := j) (k := k) (by omega)
   obtain ⟨⟨t2, ht2⟩, ⟨u2, hu2⟩, ⟨v2, hv2⟩⟩ := bfs_step (n := n) (fs := fs) k
   exact ⟨⟨t ++ t2, by rw [ht2, ht, List.append_assoc]⟩, ⟨u ++ u2, by rw [hu2, hu, List.append_assoc]⟩, ⟨v ++ v2, by rw [hv2, hv, List.append_assoc]⟩⟩
theorem bfs_le {j k : Nat} (h : j ≤ k) : (bfs n fs j).sets.length ≤ (bfs n fs k).sets.length := by
 obtain ⟨⟨t, ht⟩, _⟩ := bfs_prefix (n := n) (fs := fs) h
 rw [ht, List.length_append]; omega
theorem bfs_lens : ∀ k, (bfs n fs k).next.length = min k (bfs n fs k).sets.length ∧ (bfs n fs k).ends.length = min k (bfs n fs k).sets.length
 | 0 => by simp [bfs]
 | k + 1 => by
  obtain ⟨h1, h2⟩ := bfs_lens k
  by_cases h : k < (bfs n fs k).sets.length
  ·have hl := bfs_le (n := n) (fs := fs) (Nat.le_succ k)
   rw [bfs_alive h] at hl ⊢
   simp only [List.length_append, List.length_cons, List.length_nil] at hl ⊢
   omega
  ·rw [bfs_dead (Nat.le_of_not_lt h) (k + 1) (Nat.le_succ k)]
   omega
theorem bfs_closed : ∀ k, ∀ y ∈ (bfs n fs k).sets, ∃ l, y = closed n l
 | 0 => by
  intro y hy
  simp only [bfs, List.mem_singleton] at hy
  exact ⟨_, hy⟩
 | k + 1 => by
  by_cases h : k < (bfs n fs k).sets.length
  ·rw [bfs_alive h]
   exact rowTo_closed (bfs_closed k) (Nat.le_refl _)
  ·rw [bfs_dead (Nat.le_of_not_lt h) (k + 1) (Nat.le_succ k)]
   exact bfs_closed k
theorem bfs_get {i j k : Nat} (h : j ≤ k) (hi : i < (bfs n fs j).sets.length) : (bfs n fs k).sets[i]? = some ((bfs n fs j).sets[i]) := by
 obtain ⟨⟨t, ht⟩, _⟩ := bfs_prefix (n := n) (fs := fs) h
 rw [ht, List.getElem?_append_left hi, List.getElem?_eq_getElem hi]
/-- The row of a set that is alive. -/
theorem bfs_row {i k : Nat} (hi : i < (bfs n fs i).sets.length) (h : i < k) : (bfs n fs k).next[i]? = some (rowTo n fs (bfs n fs i).sets (bfs n fs i).sets[i] fs.length).2 ∧ (bfs n fs k).ends[i]? = some ((bfs n fs i).sets[i].contains n.stop) := by
 obtain ⟨_, ⟨t, ht⟩, ⟨u, hu⟩⟩ := bfs_prefix (n := n) (fs := fs) (show i + 1 ≤ k from h)
 obtain ⟨h1, h2⟩ := bfs_lens (n := n) (fs := fs) i
 rw [ht, hu, bfs_alive hi]
 constructor
 ·rw [List.append_assoc, List.getElem?_append_right (by omega), show i - (bfs n fs i).next.length = 0 by omega]
  rfl
 ·rw [List.append_assoc, List.getElem?_append_right (by omega), show i - (bfs n fs i).ends.length = 0 by omega]
  rfl
theorem bfs_much {M i : Nat} (h : M < (bfs n fs i).sets.length) : M < (bfs n fs M).sets.length := by
 refine Classical.byContradiction fun hn => ?_
 by_cases h2 : M ≤ i
 ·rw [bfs_dead (Nat.le_of_not_lt hn) i h2] at h
  omega
 ·have := bfs_le (n := n) (fs := fs) (show i ≤ M by omega)
  omega
theorem bfs_fin {M i : Nat} (h1 : (bfs n fs i).sets.length ≤ i) (h2 : (bfs n fs i).sets.length ≤ M) : bfs n fs M = bfs n fs i := by
 by_cases h : i ≤ M
 ·exact bfs_dead h1 M h
 ·have h3 : (bfs n fs M).sets.length ≤ M := Nat.le_trans (bfs_le (by omega)) h2
  exact (bfs_dead h3 i (by omega)).symm
theorem bfs_live {M : Nat} (h : (bfs n fs M).sets.length ≤ M) {i : Nat} (hi : i < (bfs n fs M).sets.length) : i < (bfs n fs i).sets.length := by
 refine Classical.byContradiction fun hn => ?_
 rw [bfs_dead (Nat.le_of_not_lt hn) M (by omega)] at hi
 omega
end
/-! ### a machine with one way -/
structure Df where
 cls : Nat → Nat
 next : List (List Int)
 ends : List Bool
def Df.cells (d : Df) : List AV := byteT (fun i => (d.cls i : Int)) ++ [.list 1 (d.next.map fun r => [ints r]), .list 1 (d.ends.map fun b => [.bool b])]
def zeroD : Df := ⟨fun _ => 0, [], []⟩
def St.set (s : St) : W4 := ⟨s.w0, s.w1, s.w2, s.w3⟩
def Nf.sets (n : Nf) : List W4 := n.st.map St.set
def Nf.al (n : Nf) (i r : Nat) : Bool := alikeB n.sets (i : Int) (r : Int)
def Nf.firsts (n : Nf) : List Int := (repsTo n.al 256).map Int.ofNat
theorem Nf.eqv (n : Nf) : Eqv n.al := alikeB_eqv _
theorem Nf.firsts_len (n : Nf) : n.firsts.length = (repsTo n.al 256).length := by simp [Nf.firsts]
theorem Nf.firsts_le (n : Nf) : n.firsts.length ≤ 256 := by
 rw [n.firsts_len]; exact repsTo_len _ _
theorem Nf.firsts_mem {n : Nf} {b : Int} (h : b ∈ n.firsts) : 0 ≤ b ∧ b < 256 := by
 obtain ⟨r, hr, rfl⟩ := List.mem_map.1 h
 have := repsTo_lt _ _ _ hr
 show (0 : Int) ≤ (r : Int) ∧ (r : Int) < 256
 omega
noncomputable def makeN (n : Nf) (most : Int) : Df × Int :=
 if mayN n then (if (max most 0).toNat < (bfs n n.firsts (max most 0).toNat).sets.length then (zeroD, 7) else (⟨clsOf n.al, (bfs n n.firsts (max most 0).toNat).next, (bfs n n.firsts (max most 0).toNat).ends⟩, 0)) else (zeroD, 3)
end Go.Proofs.YtfdgbghlanbddaaDoor.Av
set_option linter.unusedVariables false
set_option linter.unusedSimpArgs false
namespace Go.Proofs.YtfdgbghlanbddaaDoor.Av
/-! ### what the document says of machines with one way -/
def Df.classes (d : Df) : Nat := (List.range 256).foldl (fun m i => max m (d.cls i + 1)) 0
def Df.rowOk (d : Df) (r : List Int) : Bool := decide (r.length = d.classes) && r.all fun x => decide (0 ≤ x) && decide (x < d.next.length)
def Df.may (d : Df) : Bool := decide (1 ≤ d.next.length) && decide (d.next.length ≤ 2000) && decide (d.ends.length = d.next.length) && d.next.all d.rowOk
def Df.go (d : Df) (s : Nat) (b : Int) : Nat := ((d.next.getD s []).getD (d.cls b.toNat) 0).toNat
def Df.to (d : Df) (s : Int) (w : List Int) : Int := if d.may = true ∧ 0 ≤ s ∧ s < d.next.length then ((w.foldl d.go s.toNat : Nat) : Int) else -1
def Df.run (d : Df) (w : List Int) : Bool := decide (0 ≤ d.to 0 w) && d.ends.getD (d.to 0 w).toNat false
def nfD (d : Df) : Nf := ⟨d.next.map fun r => ⟨0, 0, 0, 0, -1, r⟩, 0, 0⟩
section
variable {n : Nf} {fs : List Int} {M : Nat}
/-- Where a set's row leads. -/
theorem sub_next (h : (bfs n fs M).sets.length ≤ M) {i c : Nat} (hi : i < (bfs n fs M).sets.length) (hc : c < fs.length) :
  ∃ (r : List Int) (t : Nat), (bfs n fs M).next[i]? = some r ∧ r.length = fs.length ∧ r[c]? = some (t : Int) ∧ t < (bfs n fs M).sets.length ∧ (bfs n fs M).sets[t]? = some (stepped n (bfs n fs M).sets[i] fs[c]) := by
 have hl := bfs_live h hi
 have hg := bfs_get (n := n) (fs := fs) (show i ≤ M by omega) hl
 rw [List.getElem?_eq_getElem hi] at hg
 have hg := Option.some.inj hg
 refine ⟨_, placeIx (rowTo n fs (bfs n fs i).sets (bfs n fs i).sets[i] c).1 (stepped n (bfs n fs i).sets[i] fs[c]), (bfs_row hl (show i < M by omega)).1, rowTo_len2 (Nat.le_refl _), rowTo_get hc (Nat.le_refl _), ?_⟩
 rw [hg]
 obtain ⟨⟨t1, ht1⟩, _⟩ := rowTo_prefix (n := n) (fs := fs) (sets := (bfs n fs i).sets) (x := (bfs n fs i).sets[i]) (j := c + 1) (k := fs.length) hc (Nat.le_refl _)
 obtain ⟨⟨t2, ht2⟩, _⟩ := bfs_prefix (n := n) (fs := fs) (show i + 1 ≤ M by omega)
 have e : (bfs n fs M).sets = placeL (rowTo n fs (bfs n fs i).sets (bfs n fs i).sets[i] c).1 (stepped n (bfs n fs i).sets[i] fs[c]) ++ (t1 ++ t2) := by
  rw [ht2, bfs_alive hl]
  simp only
  rw [ht1, rowTo_succ hc, List.append_assoc]
 have hp := placeL_get (rowTo n fs (bfs n fs i).sets (bfs n fs i).sets[i] c).1 (stepped n (bfs n fs i).sets[i] fs[c])
 have hlt := (List.getElem?_eq_some_iff.1 hp).1
 rw [e]
 exact ⟨by rw [List.length_append]; omega, by rw [List.getElem?_append_left hlt]; exact hp⟩
end
/-- The machine whose sets are all found. -/
noncomputable def subD (n : Nf) (M : Nat) : Df := ⟨clsOf n.al, (bfs n n.firsts M).next, (bfs n n.firsts M).ends⟩
section
variable {n : Nf} {M : Nat}
theorem subD_len (h : (bfs n n.firsts M).sets.length ≤ M) : (subD n M).next.length = (bfs n n.firsts M).sets.length ∧ (subD n M).ends.length = (bfs n n.firsts M).sets.length := by
 obtain ⟨h1, h2⟩ := bfs_lens (n := n) (fs := n.firsts) M
 simp only [subD]
 omega
theorem subD_row (h : (bfs n n.firsts M).sets.length ≤ M) {r : List Int} (hr : r ∈ (subD n M).next) : r.length = n.firsts.length ∧ ∀ x ∈ r, 0 ≤ x ∧ x < (subD n M).next.length := by
 obtain ⟨hl, _⟩ := subD_len h
 obtain ⟨i, hi, rfl⟩ := List.mem_iff_getElem.1 hr
 have hi2 : i < (bfs n n.firsts M).sets.length := by omega
 have hlen : ((subD n M).next[i]).length = n.firsts.length := by
  have hl2 := bfs_live h hi2
  have := (bfs_row (n := n) (fs := n.firsts) hl2 (show i < M by omega)).1
  have e : (subD n M).next[i]? = some (subD n M).next[i] := List.getElem?_eq_getElem hi
  rw [show (subD n M).next[i]? = (bfs n n.firsts M).next[i]? from rfl, this] at e
  rw [← Option.some.inj e]
  exact rowTo_len2 (Nat.le_refl _)
 refine ⟨hlen, fun x hx => ?_⟩
 obtain ⟨c, hc, rfl⟩ := List.mem_iff_getElem.1 hx
 obtain ⟨r, t, h1, h2, h3, h4, _⟩ := sub_next (fs := n.firsts) h hi2 (show c < n.firsts.length by omega)
 have e : (subD n M).next[i]? = some (subD n M).next[i] := List.getElem?_eq_getElem hi
 rw [show (subD n M).next[i]? = (bfs n n.firsts M).next[i]? from rfl, h1] at e
 obtain rfl := Option.some.inj e
 rw [List.getElem?_eq_getElem hc] at h3
 have h3 := Option.some.inj h3
 rw [h3]
 omega
/-! ### each set is come to -/
/-- How far the sets are told, row by row. -/
noncomputable def topAt (n : Nf) (i j : Nat) : Int := match (bfs n n.firsts i).sets[i]? with
 | some x => ((rowTo n n.firsts (bfs n n.firsts i).sets x j).1.length : Int) - 1
 | none => ((bfs n n.firsts i).sets.length : Int) - 1
end
end Go.Proofs.YtfdgbghlanbddaaDoor.Av
set_option linter.unusedVariables false
set_option linter.unusedSimpArgs false
set_option maxRecDepth 8000
namespace Go.Proofs.YtfdgbghlanbddaaDoor.Av
open Go.RowKit Go.Proofs
theorem row_w4 {l : List W4} {k : Nat} (h : k < l.length) : (l.map W4.row)[k]? = some l[k].row := by simp [h]
theorem split_len (parts : List W4) (s : W4) : (splitS parts s).length ≤ 2 * parts.length := by
 unfold splitS
 induction parts with
 | nil => simp
 | cons a t ih =>
  rw [List.flatMap_cons, List.length_append]
  have : (halves a s).length ≤ 2 := by
   unfold halves
   exact List.length_filter_le _ _
  simp only [List.length_cons]
  omega
theorem cleans_w4 (l : List W4) : (l.map W4.row).all cleans = true := by
 rw [List.all_eq_true]
 intro x hx
 obtain ⟨r, _, rfl⟩ := List.mem_map.1 hx
 rfl
theorem w4_yes {l : List W4} {k : Nat} (h : k < l.length) (hp : ¬ l[k] = noSet) : (l.take (k + 1)).filter (fun x => decide (x ≠ noSet)) = (l.take k).filter (fun x => decide (x ≠ noSet)) ++ [l[k]] := by
 rw [List.take_add_one, List.getElem?_eq_getElem h, List.filter_append]
 simp [hp]
theorem w4_no {l : List W4} {k : Nat} (h : k < l.length) (hp : l[k] = noSet) : (l.take (k + 1)).filter (fun x => decide (x ≠ noSet)) = (l.take k).filter (fun x => decide (x ≠ noSet)) := by
 rw [List.take_add_one, List.getElem?_eq_getElem h, List.filter_append]
 simp [hp]
theorem outOne_ok {b : Nat} : ∀ (l : List W4) (a : List W4 × W4), a.2.ok → (∀ p ∈ l, p.ok) → (l.foldl (outOne b) a).2.ok
 | [], a, h, _ => h
 | p :: t, a, h, hl => by
  rw [List.foldl_cons]
  refine outOne_ok t _ ?_ fun q hq => hl q (by simp [hq])
  unfold outOne
  split
  ·exact or_ok h (hl p (by simp))
  ·exact h
theorem outOne_len {b : Nat} : ∀ (l : List W4) (a : List W4 × W4), (l.foldl (outOne b) a).1.length ≤ a.1.length + l.length
 | [], a => by simp
 | p :: t, a => by
  rw [List.foldl_cons]
  have := outOne_len (b := b) t (outOne b a p)
  have h2 : (outOne b a p).1.length ≤ a.1.length + 1 := by
   unfold outOne
   split
   ·simp
   ·omega
  simp only [List.length_cons]
  omega
theorem fold_next {α β : Type} {f : β → α → β} {l : List α} {a : β} {k : Nat} (h : k < l.length) : (l.take (k + 1)).foldl f a = f ((l.take k).foldl f a) l[k] := by
 rw [List.take_add_one, List.getElem?_eq_getElem h, List.foldl_append]
 rfl
theorem parts_walk {w0 : World} {es : List Ent} (ss : List W4) (hs : ∀ s ∈ ss, s.ok) : ACalls Tryd.prog w0 92 [.list 4 (ss.map W4.row)] es fun v es' => v = .list 4 ((outTo (partsOf ss) 256).1.map W4.row) ∧ es' = es := by
  have hpp := parts_inv ss hs
  have hpl := hpp.len
  refine calls1 (N := 82) Tryd.func92 rfl rfl (by decide) ?_
  refine w_seq ?_
  refine w_region ?_
  refine l_cons rfl (p_assign ?_)
  refine l_nil ?_
  refine k_seq_normal ?_
  refine w_seq ?_
  refine w_region ?_
  refine l_cons rfl (p_buildArr ze_26 ar_26 ?_)
  refine l_cons rfl (p_callr en_125 (not_set noSet noSet_ok) ?_)
  refine l_cons rfl (p_buildList sl_113 ze_26 (rows := [fullW].map W4.row) ?_ (hr := rfl))
  refine l_cons rfl (p_assign ?_)
  refine l_nil ?_
  refine k_seq_normal ?_
  refine w_seq ?_
  refine w_seq ?_
  refine w_region ?_
  refine l_cons rfl (p_move ?_)
  refine l_cons rfl (p_lenl sl_113 ?_)
  refine l_len 19 fun hll => ?_
  rw [List.length_map] at hll
  simp only [most] at hll
  refine l_cons rfl (p_move ?_)
  refine l_nil ?_
  refine k_seq_normal ?_
  refine w_block ?_
  refine w_loop (fun m f es' => ∃ k, m = ss.length - k ∧ k ≤ ss.length ∧ Sub es es' ∧ Knows f [(3, .list 4 ((partsOf (ss.take k)).map W4.row)), (19, .list 4 (ss.map W4.row)), (20, .int .i64 (ss.length : Int)), (21, .int .i64 (k : Int))]) (ss.length) (⟨0, rfl, Nat.zero_le _, Sub.refl _, by simp only [Knows, put, upd_apply, Nat.reduceEqDiff, ↓reduceIte, and_true, true_and, eq_self] <;> and_intros <;> rfl⟩) ?_
  rintro m f es' ⟨k, rfl, hk1, hsub, hk⟩
  refine w_pins _ hsub (hk) ?_
  simp only [pins]
  refine w_seq ?_
  refine w_region ?_
  refine l_cons rfl (p_cmp ?_)
  refine l_nil ?_
  refine k_seq_normal ?_
  refine w_seq ?_
  refine w_b (fun h1 => ?_) (fun h1 => ?_)
  · skip
    have h1' := h1; (try simp only [decide_eq_true_eq, decide_eq_false_iff_not, Bool.not_eq_true', Bool.not_false, Bool.not_true, Bool.not_eq_false'] at h1')
    refine w_skip ?_
    refine k_seq_normal ?_
    refine w_seq ?_
    refine w_block ?_
    refine w_seq ?_
    refine w_region ?_
    refine l_cons rfl (p_ixl sl_113 (a := .fptr 4 (ss.map W4.row) k 0) ?_ (h0 := by omega) (h1 := by simp only [List.length_map, List.length_cons, List.length_nil]; omega))
    refine l_cons rfl (p_loadf ty_26 (a := .agg (ss[k]'(by omega)).row) ?_ (hr := row_w4 (by omega)) (hl := Nat.le_refl 4) (ha := rfl))
    refine l_cons rfl (p_alloc ze_26 fun s5 => ?_)
    refine l_cons rfl (p_store ty_26 (r' := (ss[k]'(by omega)).row) ?_ (hl := Nat.le_of_ble_eq_true rfl) (hr' := rfl))
    refine l_nil ?_
    refine k_seq_normal ?_
    refine w_seq ?_
    refine w_region ?_
    refine l_cons rfl (p_assign ?_)
    refine l_nil ?_
    refine k_seq_normal ?_
    refine w_seq ?_
    refine w_seq ?_
    refine w_adopt 6 26 4 rfl fun s6 => ?_
    simp only [upd_upd]
    refine w_region ?_
    refine l_cons rfl (p_move ?_)
    refine l_cons rfl (p_lenl sl_113 ?_)
    refine l_cons rfl (p_move ?_)
    refine l_nil ?_
    refine k_seq_normal ?_
    refine w_block ?_
    refine w_loop (fun m f es' => ∃ j s6, m = (partsOf (ss.take k)).length - j ∧ j ≤ (partsOf (ss.take k)).length ∧ Sub (.row s6 26 4 ((splitS ((partsOf (ss.take k)).take j) (ss[k]'(by omega))).map W4.row) :: .row s5 26 4 [(ss[k]'(by omega)).row] :: es) es' ∧ Knows f [(3, .list 4 ((partsOf (ss.take k)).map W4.row)), (5, .ptr es.length s5 0 0), (6, .own (es.length + 1) s6), (19, .list 4 (ss.map W4.row)), (20, .int .i64 (ss.length : Int)), (21, .int .i64 (k : Int)), (25, .list 4 ((partsOf (ss.take k)).map W4.row)), (26, .int .i64 ((partsOf (ss.take k)).length : Int)), (27, .int .i64 (j : Int))]) ((partsOf (ss.take k)).length) (⟨0, s6, rfl, Nat.zero_le _, Sub.refl _, by simp only [Knows, put, upd_apply, Nat.reduceEqDiff, ↓reduceIte, and_true, true_and, eq_self] <;> and_intros <;> rfl⟩) ?_
    rintro m f es' ⟨j, s6, rfl, hj1, hsub, hk⟩
    have hpi := parts_inv (ss.take k) (fun s hx => hs s (List.mem_of_mem_take hx))
    have hpk := hpi.len
    have hsl2 := split_len ((partsOf (ss.take k)).take j) (ss[k]'(by omega))
    rw [List.length_take] at hsl2
    have hso : (ss[k]'(by omega)).ok := hs _ (List.getElem_mem _)
    refine w_pins _ hsub (hk) ?_
    simp only [pins]
    refine w_seq ?_
    refine w_region ?_
    refine l_cons rfl (p_cmp ?_)
    refine l_nil ?_
    refine k_seq_normal ?_
    refine w_seq ?_
    refine w_b (fun h2 => ?_) (fun h2 => ?_)
    · skip
      have h2' := h2; (try simp only [decide_eq_true_eq, decide_eq_false_iff_not, Bool.not_eq_true', Bool.not_false, Bool.not_true, Bool.not_eq_false'] at h2')
      refine w_skip ?_
      refine k_seq_normal ?_
      refine w_seq ?_
      refine w_block ?_
      refine w_seq ?_
      have hpo := hpi.ok _ (List.getElem_mem (show j < (partsOf (ss.take k)).length by omega))
      refine w_region ?_
      refine l_cons rfl (p_ixl sl_113 (a := .fptr 4 ((partsOf (ss.take k)).map W4.row) j 0) ?_ (h0 := by omega) (h1 := by simp only [List.length_map, List.length_cons, List.length_nil]; omega))
      refine l_cons rfl (p_loadf ty_26 (a := .agg ((partsOf (ss.take k))[j]'(by omega)).row) ?_ (hr := row_w4 (by omega)) (hl := Nat.le_refl 4) (ha := rfl))
      refine l_cons rfl (p_alloc ze_26 fun s8 => ?_)
      refine l_cons rfl (p_store ty_26 (r' := ((partsOf (ss.take k))[j]'(by omega)).row) ?_ (hl := Nat.le_of_ble_eq_true rfl) (hr' := rfl))
      refine l_nil ?_
      refine k_seq_normal ?_
      refine w_seq ?_
      refine w_drawn 10 [] (fun e => e = _) mixed (by kernel_rfl) rfl ?_
      refine q1 8 (hg := rfl) (hu := rfl) (h := by rintro f _ rfl; exact p_loadp ty_26 (a := .agg ((partsOf (ss.take k))[j]'(by omega)).row) ⟨rfl, rfl⟩ (hl := Nat.le_of_ble_eq_true rfl) (ha := rfl)) (k := ?_)
      refine q1 5 (hg := rfl) (hu := rfl) (h := by rintro f _ rfl; exact p_loadp ty_26 (a := .agg (ss[k]'(by omega)).row) ⟨rfl, rfl⟩ (hl := Nat.le_of_ble_eq_true rfl) (ha := rfl)) (k := ?_)
      refine q2 31 32 (hg := rfl) (hu := rfl) (h := by rintro f _ rfl; exact p_callr en_126 (and_set _ _ hpo hso) ⟨rfl, rfl⟩) (k := ?_)
      refine q1 8 (hg := rfl) (hu := rfl) (h := by rintro f _ rfl; exact p_loadp ty_26 (a := .agg ((partsOf (ss.take k))[j]'(by omega)).row) ⟨rfl, rfl⟩ (hl := Nat.le_of_ble_eq_true rfl) (ha := rfl)) (k := ?_)
      refine q1 5 (hg := rfl) (hu := rfl) (h := by rintro f _ rfl; exact p_loadp ty_26 (a := .agg (ss[k]'(by omega)).row) ⟨rfl, rfl⟩ (hl := Nat.le_of_ble_eq_true rfl) (ha := rfl)) (k := ?_)
      refine q1 35 (hg := rfl) (hu := rfl) (h := by rintro f _ rfl; exact p_callr en_125 (not_set (ss[k]'(by omega)) hso) ⟨rfl, rfl⟩) (k := ?_)
      refine q2 34 36 (hg := rfl) (hu := rfl) (h := by rintro f _ rfl; exact p_callr en_126 (and_set _ _ hpo (not_ok hso)) ⟨rfl, rfl⟩) (k := ?_)
      refine q2 33 37 (hg := rfl) (hu := rfl) (h := by rintro f _ rfl; exact p_buildList sl_113 ze_26 (rows := [andS ((partsOf (ss.take k))[j]'(by omega)) (ss[k]'(by omega)), andS ((partsOf (ss.take k))[j]'(by omega)) (notS (ss[k]'(by omega)))].map W4.row) ⟨rfl, rfl⟩ (hr := rfl)) (k := ?_)
      refine q1 38 (hg := rfl) (hu := rfl) (h := by rintro f _ rfl; exact p_lenl sl_113 ⟨rfl, rfl⟩) (k := ?_)
      refine q0  (hg := rfl) (hu := rfl) (h := by rintro f _ rfl; exact p_move ⟨rfl, rfl⟩) (k := ?_)
      refine q_end ?_
      refine m_end ?_
      refine l_nil ?_
      refine k_seq_normal ?_
      refine w_block ?_
      refine w_loop (fun m f es' => ∃ i s6, m = 2 - i ∧ i ≤ 2 ∧ Sub (.row s6 26 4 (((splitS ((partsOf (ss.take k)).take j) (ss[k]'(by omega))) ++ ([andS ((partsOf (ss.take k))[j]'(by omega)) (ss[k]'(by omega)), andS ((partsOf (ss.take k))[j]'(by omega)) (notS (ss[k]'(by omega)))].take i).filter fun x => decide (x ≠ noSet)).map W4.row) :: .row s5 26 4 [(ss[k]'(by omega)).row] :: es) es' ∧ Knows f [(3, .list 4 ((partsOf (ss.take k)).map W4.row)), (5, .ptr es.length s5 0 0), (6, .own (es.length + 1) s6), (19, .list 4 (ss.map W4.row)), (20, .int .i64 (ss.length : Int)), (21, .int .i64 (k : Int)), (25, .list 4 ((partsOf (ss.take k)).map W4.row)), (26, .int .i64 ((partsOf (ss.take k)).length : Int)), (27, .int .i64 (j : Int)), (38, .list 4 ([andS ((partsOf (ss.take k))[j]'(by omega)) (ss[k]'(by omega)), andS ((partsOf (ss.take k))[j]'(by omega)) (notS (ss[k]'(by omega)))].map W4.row)), (39, .int .i64 2), (40, .int .i64 (i : Int))]) (2) (⟨0, s6, rfl, Nat.zero_le _, by simp only [List.take_zero, List.filter_nil, List.append_nil]; exact sub1 _ _, by simp only [Knows, put, upd_apply, Nat.reduceEqDiff, ↓reduceIte, and_true, true_and, eq_self] <;> and_intros <;> rfl⟩) ?_
      rintro m f es' ⟨i, s6, rfl, hi1, hsub, hk⟩
      have hfl := List.length_filter_le (fun x => decide (x ≠ noSet)) ([andS ((partsOf (ss.take k))[j]'(by omega)) (ss[k]'(by omega)), andS ((partsOf (ss.take k))[j]'(by omega)) (notS (ss[k]'(by omega)))].take i)
      rw [List.length_take] at hfl
      simp only [List.length_cons, List.length_nil] at hfl
      refine w_pins _ hsub (hk) ?_
      simp only [pins]
      refine w_seq ?_
      refine w_region ?_
      refine l_cons rfl (p_cmp ?_)
      refine l_nil ?_
      refine k_seq_normal ?_
      refine w_seq ?_
      refine w_b (fun h3 => ?_) (fun h3 => ?_)
      · skip
        have h3' := h3; (try simp only [decide_eq_true_eq, decide_eq_false_iff_not, Bool.not_eq_true', Bool.not_false, Bool.not_true, Bool.not_eq_false'] at h3')
        refine w_skip ?_
        refine k_seq_normal ?_
        refine w_seq ?_
        refine w_block ?_
        refine w_seq ?_
        refine w_region ?_
        refine l_cons rfl (p_ixl sl_113 (a := .fptr 4 ([andS ((partsOf (ss.take k))[j]'(by omega)) (ss[k]'(by omega)), andS ((partsOf (ss.take k))[j]'(by omega)) (notS (ss[k]'(by omega)))].map W4.row) i 0) ?_ (h0 := by omega) (h1 := by simp only [List.length_map, List.length_cons, List.length_nil]; omega))
        refine l_cons rfl (p_loadf ty_26 (a := .agg ([andS ((partsOf (ss.take k))[j]'(by omega)) (ss[k]'(by omega)), andS ((partsOf (ss.take k))[j]'(by omega)) (notS (ss[k]'(by omega)))][i]'(by simp only [List.length_cons, List.length_nil]; omega)).row) ?_ (hr := row_w4 (by simp only [List.length_cons, List.length_nil]; omega)) (hl := Nat.le_refl 4) (ha := rfl))
        refine l_cons rfl (p_alloc ze_26 fun s10 => ?_)
        refine l_cons rfl (p_store ty_26 (r' := ([andS ((partsOf (ss.take k))[j]'(by omega)) (ss[k]'(by omega)), andS ((partsOf (ss.take k))[j]'(by omega)) (notS (ss[k]'(by omega)))][i]'(by simp only [List.length_cons, List.length_nil]; omega)).row) ?_ (hl := Nat.le_of_ble_eq_true rfl) (hr' := rfl))
        refine l_nil ?_
        refine k_seq_normal ?_
        refine w_seq ?_
        refine w_region ?_
        refine l_cons rfl (p_loadp ty_26 (a := .agg ([andS ((partsOf (ss.take k))[j]'(by omega)) (ss[k]'(by omega)), andS ((partsOf (ss.take k))[j]'(by omega)) (notS (ss[k]'(by omega)))][i]'(by simp only [List.length_cons, List.length_nil]; omega)).row) ?_ (hl := Nat.le_of_ble_eq_true rfl) (ha := rfl))
        refine l_cons rfl (p_buildArr ze_26 ar_26 ?_)
        refine l_cons rfl (p_nea ai_26 ?_ (hb := neA _ noSet))
        refine l_nil ?_
        refine k_seq_normal ?_
        refine w_b (fun h4 => ?_) (fun h4 => ?_)
        · skip
          have h4' := h4; (try simp only [decide_eq_true_eq, decide_eq_false_iff_not, Bool.not_eq_true', Bool.not_false, Bool.not_true, Bool.not_eq_false'] at h4')
          refine w_region ?_
          refine l_cons rfl (p_move ?_)
          refine l_cons rfl (p_loadp ty_26 (a := .agg ([andS ((partsOf (ss.take k))[j]'(by omega)) (ss[k]'(by omega)), andS ((partsOf (ss.take k))[j]'(by omega)) (notS (ss[k]'(by omega)))][i]'(by simp only [List.length_cons, List.length_nil]; omega)).row) ?_ (hl := Nat.le_of_ble_eq_true rfl) (ha := rfl))
          refine l_cons rfl (p_buildList sl_113 ze_26 (rows := [[andS ((partsOf (ss.take k))[j]'(by omega)) (ss[k]'(by omega)), andS ((partsOf (ss.take k))[j]'(by omega)) (notS (ss[k]'(by omega)))][i]'(by simp only [List.length_cons, List.length_nil]; omega)].map W4.row) ?_ (hr := rfl))
          refine l_cons rfl (p_append sl_113 by_26 ze_26 (fun s50 => ?_) (hb := by simp only [List.length_map, List.length_append, List.length_cons, List.length_nil, most]; omega))
          refine l_cons rfl (p_assign ?_)
          refine l_nil ?_
          refine k_blk_normal ?_
          refine k_seq_normal ?_
          refine w_region ?_
          refine l_cons rfl (p_arith ?_)
          refine l_cons rfl (p_move ?_)
          refine l_nil ?_
          refine k_seq_normal ?_
          first
          | exact ⟨2 - (i + 1), by omega, i + 1, s50, rfl, by omega, by rw [w4_yes (by simp only [List.length_cons, List.length_nil]; omega) (by simpa using h4'), ← List.append_assoc, List.map_append]; exact sub1 _ _, by simp only [Knows, put, upd_apply, Nat.reduceEqDiff, ↓reduceIte, and_true, true_and, eq_self] <;> and_intros <;> rfl⟩
          | exact ⟨2 - (i + 1), by omega, i + 1, s6, rfl, by omega, by rw [w4_no (by simp only [List.length_cons, List.length_nil]; omega) (by simpa using h4')]; exact sub1 _ _, by simp only [Knows, put, upd_apply, Nat.reduceEqDiff, ↓reduceIte, and_true, true_and, eq_self] <;> and_intros <;> rfl⟩
        · skip
          have h4' := h4; (try simp only [decide_eq_true_eq, decide_eq_false_iff_not, Bool.not_eq_true', Bool.not_false, Bool.not_true, Bool.not_eq_false'] at h4')
          refine w_skip ?_
          refine k_blk_normal ?_
          refine k_seq_normal ?_
          refine w_region ?_
          refine l_cons rfl (p_arith ?_)
          refine l_cons rfl (p_move ?_)
          refine l_nil ?_
          refine k_seq_normal ?_
          first
          | exact ⟨2 - (i + 1), by omega, i + 1, s50, rfl, by omega, by rw [w4_yes (by simp only [List.length_cons, List.length_nil]; omega) (by simpa using h4'), ← List.append_assoc, List.map_append]; exact sub1 _ _, by simp only [Knows, put, upd_apply, Nat.reduceEqDiff, ↓reduceIte, and_true, true_and, eq_self] <;> and_intros <;> rfl⟩
          | exact ⟨2 - (i + 1), by omega, i + 1, s6, rfl, by omega, by rw [w4_no (by simp only [List.length_cons, List.length_nil]; omega) (by simpa using h4')]; exact sub1 _ _, by simp only [Knows, put, upd_apply, Nat.reduceEqDiff, ↓reduceIte, and_true, true_and, eq_self] <;> and_intros <;> rfl⟩
      · skip
        have h3' := h3; (try simp only [decide_eq_true_eq, decide_eq_false_iff_not, Bool.not_eq_true', Bool.not_false, Bool.not_true, Bool.not_eq_false'] at h3')
        refine w_exit ?_
        refine k_seq_exit ?_
        refine k_seq_exit ?_
        refine k_blk_here ?_
        refine k_blk_normal ?_
        refine k_seq_normal ?_
        refine w_region ?_
        refine l_cons rfl (p_arith ?_)
        refine l_cons rfl (p_move ?_)
        refine l_nil ?_
        refine k_seq_normal ?_
        have hi2 : i = 2 := by omega
        subst hi2
        exact ⟨(partsOf (ss.take k)).length - (j + 1), by omega, j + 1, s6, rfl, by omega, by rw [split_take (by omega)]; exact Sub.refl _, by simp only [Knows, put, upd_apply, Nat.reduceEqDiff, ↓reduceIte, and_true, true_and, eq_self] <;> and_intros <;> rfl⟩
    · skip
      have h2' := h2; (try simp only [decide_eq_true_eq, decide_eq_false_iff_not, Bool.not_eq_true', Bool.not_false, Bool.not_true, Bool.not_eq_false'] at h2')
      refine w_exit ?_
      refine k_seq_exit ?_
      refine k_seq_exit ?_
      refine k_blk_here ?_
      refine k_seq_normal ?_
      refine w_freezeTop 6 ?_ (hclean := cleans_w4 _)
      refine w_region ?_
      refine l_cons rfl (p_move ?_)
      refine l_cons rfl (p_assign ?_)
      refine l_nil ?_
      refine k_blk_normal ?_
      refine k_seq_normal ?_
      refine w_region ?_
      refine l_cons rfl (p_arith ?_)
      refine l_cons rfl (p_move ?_)
      refine l_nil ?_
      refine k_seq_normal ?_
      have hje : j = (partsOf (ss.take k)).length := by omega
      subst hje
      exact ⟨ss.length - (k + 1), by omega, k + 1, rfl, by omega, sub1 _ _, by rw [partsOf_take (by omega)]; rw [List.take_length]; exact by simp only [Knows, put, upd_apply, Nat.reduceEqDiff, ↓reduceIte, and_true, true_and, eq_self] <;> and_intros <;> rfl⟩
  · skip
    have h1' := h1; (try simp only [decide_eq_true_eq, decide_eq_false_iff_not, Bool.not_eq_true', Bool.not_false, Bool.not_true, Bool.not_eq_false'] at h1')
    refine w_exit ?_
    refine k_seq_exit ?_
    refine k_seq_exit ?_
    refine k_blk_here ?_
    refine k_seq_normal ?_
    refine w_seq ?_
    obtain rfl : k = ss.length := by omega
    rw [List.take_length]
    refine w_region ?_
    refine l_cons rfl (p_assign ?_)
    refine l_nil ?_
    refine k_seq_normal ?_
    refine w_seq ?_
    refine w_region ?_
    refine l_cons rfl (p_alloc ze_26 fun s12 => ?_)
    refine l_nil ?_
    refine k_seq_normal ?_
    refine w_seq ?_
    refine w_seq ?_
    refine w_adopt 11 26 4 rfl fun s11 => ?_
    refine w_region ?_
    refine l_cons rfl (p_move ?_)
    refine l_nil ?_
    refine k_seq_normal ?_
    refine w_block ?_
    refine w_loop (fun m f es' => ∃ k s11, m = 256 - k ∧ k ≤ 256 ∧ Sub (.row s11 26 4 ((outTo (partsOf ss) k).1.map W4.row) :: .row s12 26 4 [(outTo (partsOf ss) k).2.row] :: es) es' ∧ Knows f [(3, .list 4 ((partsOf ss).map W4.row)), (11, .own (es.length + 1) s11), (12, .ptr es.length s12 0 0), (55, .int .i64 (k : Int))]) (256) (⟨0, s11, rfl, Nat.zero_le _, Sub.refl _, by simp only [Knows, put, upd_apply, Nat.reduceEqDiff, ↓reduceIte, and_true, true_and, eq_self] <;> and_intros <;> rfl⟩) ?_
    rintro m f es' ⟨k, s11, rfl, hk1, hsub, hk⟩
    obtain ⟨ho1, ho2, ho3⟩ := out_law hpp k hk1
    have hol : (outTo (partsOf ss) k).1.length ≤ k := by rw [ho1, List.length_map]; exact repsTo_len _ _
    refine w_pins _ hsub (hk) ?_
    simp only [pins]
    refine w_seq ?_
    refine w_region ?_
    refine l_cons rfl (p_cmp ?_)
    refine l_nil ?_
    refine k_seq_normal ?_
    refine w_seq ?_
    refine w_b (fun h5 => ?_) (fun h5 => ?_)
    · skip
      have h5' := h5; (try simp only [decide_eq_true_eq, decide_eq_false_iff_not, Bool.not_eq_true', Bool.not_false, Bool.not_true, Bool.not_eq_false'] at h5')
      refine w_skip ?_
      refine k_seq_normal ?_
      refine w_seq ?_
      refine w_block ?_
      refine w_seq ?_
      refine w_region ?_
      refine l_cons rfl (p_move ?_)
      refine l_cons rfl (p_assign ?_)
      refine l_nil ?_
      refine k_seq_normal ?_
      refine w_seq ?_
      refine w_seq ?_
      refine w_region ?_
      refine l_cons rfl (p_loadp ty_26 (a := .agg (outTo (partsOf ss) k).2.row) ?_ (hl := Nat.le_of_ble_eq_true rfl) (ha := rfl))
      refine l_cons rfl (p_move ?_)
      refine l_cons rfl (p_conv in_3 in_5 ?_ (hb := wrap8 (n := (k : Int)) (by omega) (by omega)))
      refine l_cons rfl (p_callr en_100 (bytesetHas (outTo (partsOf ss) k).2.w0 (outTo (partsOf ss) k).2.w1 (outTo (partsOf ss) k).2.w2 (outTo (partsOf ss) k).2.w3 (k : Int) (by omega) (by omega)) ?_)
      refine l_nil ?_
      refine k_seq_normal ?_
      refine w_b (fun h6 => ?_) (fun h6 => ?_)
      · skip
        have h6' := h6; (try simp only [decide_eq_true_eq, decide_eq_false_iff_not, Bool.not_eq_true', Bool.not_false, Bool.not_true, Bool.not_eq_false'] at h6')
        refine w_exit ?_
        refine k_seq_exit ?_
        refine k_blk_here ?_
        refine k_seq_normal ?_
        refine w_region ?_
        refine l_cons rfl (p_arith ?_)
        refine l_cons rfl (p_move ?_)
        refine l_nil ?_
        refine k_seq_normal ?_
        first
        | exact ⟨256 - (k + 1), by omega, k + 1, s11, rfl, by omega, by rw [out_succ, outStep, if_pos (by assumption)]; exact Sub.refl _, by simp only [Knows, put, upd_apply, Nat.reduceEqDiff, ↓reduceIte, and_true, true_and, eq_self] <;> and_intros <;> rfl⟩
        | (have hjj : j = (partsOf ss).length := by omega
           subst hjj
           exact ⟨256 - (k + 1), by omega, k + 1, s11, rfl, by omega, by rw [out_succ, outStep, if_neg (by simp_all [W4.has])]; rw [List.take_length]; exact Sub.refl _, by simp only [Knows, put, upd_apply, Nat.reduceEqDiff, ↓reduceIte, and_true, true_and, eq_self] <;> and_intros <;> rfl⟩)
      · skip
        have h6' := h6; (try simp only [decide_eq_true_eq, decide_eq_false_iff_not, Bool.not_eq_true', Bool.not_false, Bool.not_true, Bool.not_eq_false'] at h6')
        refine w_skip ?_
        refine k_seq_normal ?_
        refine w_seq ?_
        refine w_region ?_
        refine l_cons rfl (p_move ?_)
        refine l_cons rfl (p_lenl sl_113 ?_)
        refine l_cons rfl (p_move ?_)
        refine l_nil ?_
        refine k_seq_normal ?_
        refine w_block ?_
        refine w_loop (fun m f es' => ∃ j s11, m = (partsOf ss).length - j ∧ j ≤ (partsOf ss).length ∧ Sub (.row s11 26 4 ((((partsOf ss).take j).foldl (outOne k) (outTo (partsOf ss) k)).1.map W4.row) :: .row s12 26 4 [(((partsOf ss).take j).foldl (outOne k) (outTo (partsOf ss) k)).2.row] :: es) es' ∧ Knows f [(13, .int .i64 (k : Int)), (3, .list 4 ((partsOf ss).map W4.row)), (11, .own (es.length + 1) s11), (12, .ptr es.length s12 0 0), (55, .int .i64 (k : Int)), (62, .list 4 ((partsOf ss).map W4.row)), (63, .int .i64 ((partsOf ss).length : Int)), (64, .int .i64 (j : Int))]) ((partsOf ss).length) (⟨0, s11, rfl, Nat.zero_le _, Sub.refl _, by simp only [Knows, put, upd_apply, Nat.reduceEqDiff, ↓reduceIte, and_true, true_and, eq_self] <;> and_intros <;> rfl⟩) ?_
        rintro m f es' ⟨j, s11, rfl, hj1, hsub, hk⟩
        have hao := outOne_ok (b := k) ((partsOf ss).take j) (outTo (partsOf ss) k) ho2 (fun p hp => hpp.ok p (List.mem_of_mem_take hp))
        have hal := outOne_len (b := k) ((partsOf ss).take j) (outTo (partsOf ss) k)
        rw [List.length_take] at hal
        refine w_pins _ hsub (hk) ?_
        simp only [pins]
        refine w_seq ?_
        refine w_region ?_
        refine l_cons rfl (p_cmp ?_)
        refine l_nil ?_
        refine k_seq_normal ?_
        refine w_seq ?_
        refine w_b (fun h7 => ?_) (fun h7 => ?_)
        · skip
          have h7' := h7; (try simp only [decide_eq_true_eq, decide_eq_false_iff_not, Bool.not_eq_true', Bool.not_false, Bool.not_true, Bool.not_eq_false'] at h7')
          refine w_skip ?_
          refine k_seq_normal ?_
          refine w_seq ?_
          refine w_block ?_
          refine w_seq ?_
          have hqo := hpp.ok _ (List.getElem_mem (show j < (partsOf ss).length by omega))
          refine w_region ?_
          refine l_cons rfl (p_ixl sl_113 (a := .fptr 4 ((partsOf ss).map W4.row) j 0) ?_ (h0 := by omega) (h1 := by simp only [List.length_map, List.length_cons, List.length_nil]; omega))
          refine l_cons rfl (p_loadf ty_26 (a := .agg ((partsOf ss)[j]'(by omega)).row) ?_ (hr := row_w4 (by omega)) (hl := Nat.le_refl 4) (ha := rfl))
          refine l_cons rfl (p_alloc ze_26 fun s15 => ?_)
          refine l_cons rfl (p_store ty_26 (r' := ((partsOf ss)[j]'(by omega)).row) ?_ (hl := Nat.le_of_ble_eq_true rfl) (hr' := rfl))
          refine l_nil ?_
          refine k_seq_normal ?_
          refine w_seq ?_
          refine w_region ?_
          refine l_cons rfl (p_loadp ty_26 (a := .agg ((partsOf ss)[j]'(by omega)).row) ?_ (hl := Nat.le_of_ble_eq_true rfl) (ha := rfl))
          refine l_cons rfl (p_move ?_)
          refine l_cons rfl (p_conv in_3 in_5 ?_ (hb := wrap8 (n := (k : Int)) (by omega) (by omega)))
          refine l_cons rfl (p_callr en_100 (bytesetHas ((partsOf ss)[j]'(by omega)).w0 ((partsOf ss)[j]'(by omega)).w1 ((partsOf ss)[j]'(by omega)).w2 ((partsOf ss)[j]'(by omega)).w3 (k : Int) (by omega) (by omega)) ?_)
          refine l_nil ?_
          refine k_seq_normal ?_
          refine w_b (fun h8 => ?_) (fun h8 => ?_)
          · skip
            have h8' := h8; (try simp only [decide_eq_true_eq, decide_eq_false_iff_not, Bool.not_eq_true', Bool.not_false, Bool.not_true, Bool.not_eq_false'] at h8')
            refine w_drawn 7 [3] (fun e => at_ e es.length = some (.row s12 26 4 [(((partsOf ss).take j).foldl (outOne k) (outTo (partsOf ss) k)).2.row]) ∧ at_ e (es.length + 2) = some (.row s15 26 4 [((partsOf ss)[j]'(by omega)).row])) mixed (by kernel_rfl) ⟨at_miss _ (at_miss _ (at_hit _ _)), at_hit _ _⟩ ?_
            refine q1 11 (hg := rfl) (hu := rfl) (h := by rintro f _ ⟨hG1, hG2⟩; exact p_move ⟨rfl, rfl⟩) (k := ?_)
            refine q1 15 (hg := rfl) (hu := rfl) (h := by rintro f _ ⟨hG1, hG2⟩; exact p_loadp ty_26 (a := .agg ((partsOf ss)[j]'(by omega)).row) ⟨rfl, rfl⟩ (hl := Nat.le_of_ble_eq_true rfl) (ha := rfl)) (k := ?_)
            refine q1 73 (hg := rfl) (hu := rfl) (h := by rintro f _ ⟨hG1, hG2⟩; exact p_buildList sl_113 ze_26 (rows := [((partsOf ss)[j]'(by omega))].map W4.row) ⟨rfl, rfl⟩ (hr := rfl)) (k := ?_)
            refine q1 12 (hg := rfl) (hu := rfl) (h := by rintro f _ ⟨hG1, hG2⟩; exact p_loadp ty_26 (a := .agg (((partsOf ss).take j).foldl (outOne k) (outTo (partsOf ss) k)).2.row) ⟨rfl, rfl⟩ (hl := Nat.le_of_ble_eq_true rfl) (ha := rfl)) (k := ?_)
            refine q1 15 (hg := rfl) (hu := rfl) (h := by rintro f _ ⟨hG1, hG2⟩; exact p_loadp ty_26 (a := .agg ((partsOf ss)[j]'(by omega)).row) ⟨rfl, rfl⟩ (hl := Nat.le_of_ble_eq_true rfl) (ha := rfl)) (k := ?_)
            refine q2 76 77 (hg := rfl) (hu := rfl) (h := by rintro f _ ⟨hG1, hG2⟩; exact p_callr en_97 (or_set _ _ hao hqo) ⟨rfl, rfl⟩) (k := ?_)
            refine q_end ?_
            refine m2 72 74 (hu := rfl) (h := fun f => p_append sl_113 by_26 ze_26 (fun s75 => ?_) (hb := by simp only [List.length_map, List.length_append, List.length_cons, List.length_nil, most]; omega))
            refine ⟨_, rfl, ⟨at_miss _ (at_miss _ (at_hit _ _)), at_hit _ _⟩, ?_⟩
            refine m_end ?_
            refine l_cons rfl (p_assign ?_)
            refine l_cons rfl (p_store ty_26 (r' := ((((partsOf ss).take j).foldl (outOne k) (outTo (partsOf ss) k)).2.or ((partsOf ss)[j]'(by omega))).row) ?_ (hl := Nat.le_of_ble_eq_true rfl) (hr' := rfl))
            refine l_nil ?_
            refine k_blk_normal ?_
            refine k_seq_normal ?_
            refine w_region ?_
            refine l_cons rfl (p_arith ?_)
            refine l_cons rfl (p_move ?_)
            refine l_nil ?_
            refine k_seq_normal ?_
            first
            | exact ⟨(partsOf ss).length - (j + 1), by omega, j + 1, s75, rfl, by omega, by rw [fold_next (by omega), outOne, if_pos (by assumption), List.map_append]; exact sub1 _ _, by simp only [Knows, put, upd_apply, Nat.reduceEqDiff, ↓reduceIte, and_true, true_and, eq_self] <;> and_intros <;> rfl⟩
            | exact ⟨(partsOf ss).length - (j + 1), by omega, j + 1, s11, rfl, by omega, by rw [fold_next (by omega), outOne, if_neg (by simp_all [W4.has])]; exact sub1 _ _, by simp only [Knows, put, upd_apply, Nat.reduceEqDiff, ↓reduceIte, and_true, true_and, eq_self] <;> and_intros <;> rfl⟩
          · skip
            have h8' := h8; (try simp only [decide_eq_true_eq, decide_eq_false_iff_not, Bool.not_eq_true', Bool.not_false, Bool.not_true, Bool.not_eq_false'] at h8')
            refine w_skip ?_
            refine k_blk_normal ?_
            refine k_seq_normal ?_
            refine w_region ?_
            refine l_cons rfl (p_arith ?_)
            refine l_cons rfl (p_move ?_)
            refine l_nil ?_
            refine k_seq_normal ?_
            first
            | exact ⟨(partsOf ss).length - (j + 1), by omega, j + 1, s75, rfl, by omega, by rw [fold_next (by omega), outOne, if_pos (by assumption), List.map_append]; exact sub1 _ _, by simp only [Knows, put, upd_apply, Nat.reduceEqDiff, ↓reduceIte, and_true, true_and, eq_self] <;> and_intros <;> rfl⟩
            | exact ⟨(partsOf ss).length - (j + 1), by omega, j + 1, s11, rfl, by omega, by rw [fold_next (by omega), outOne, if_neg (by simp_all [W4.has])]; exact sub1 _ _, by simp only [Knows, put, upd_apply, Nat.reduceEqDiff, ↓reduceIte, and_true, true_and, eq_self] <;> and_intros <;> rfl⟩
        · skip
          have h7' := h7; (try simp only [decide_eq_true_eq, decide_eq_false_iff_not, Bool.not_eq_true', Bool.not_false, Bool.not_true, Bool.not_eq_false'] at h7')
          refine w_exit ?_
          refine k_seq_exit ?_
          refine k_seq_exit ?_
          refine k_blk_here ?_
          refine k_blk_normal ?_
          refine k_seq_normal ?_
          refine w_region ?_
          refine l_cons rfl (p_arith ?_)
          refine l_cons rfl (p_move ?_)
          refine l_nil ?_
          refine k_seq_normal ?_
          first
          | exact ⟨256 - (k + 1), by omega, k + 1, s11, rfl, by omega, by rw [out_succ, outStep, if_pos (by assumption)]; exact Sub.refl _, by simp only [Knows, put, upd_apply, Nat.reduceEqDiff, ↓reduceIte, and_true, true_and, eq_self] <;> and_intros <;> rfl⟩
          | (have hjj : j = (partsOf ss).length := by omega
             subst hjj
             exact ⟨256 - (k + 1), by omega, k + 1, s11, rfl, by omega, by rw [out_succ, outStep, if_neg (by simp_all [W4.has])]; rw [List.take_length]; exact Sub.refl _, by simp only [Knows, put, upd_apply, Nat.reduceEqDiff, ↓reduceIte, and_true, true_and, eq_self] <;> and_intros <;> rfl⟩)
    · skip
      have h5' := h5; (try simp only [decide_eq_true_eq, decide_eq_false_iff_not, Bool.not_eq_true', Bool.not_false, Bool.not_true, Bool.not_eq_false'] at h5')
      refine w_exit ?_
      refine k_seq_exit ?_
      refine k_seq_exit ?_
      refine k_blk_here ?_
      refine k_seq_normal ?_
      refine w_seq ?_
      obtain rfl : k = 256 := by omega
      refine w_freezeTop 11 ?_ (hclean := cleans_w4 _)
      refine w_region ?_
      refine l_cons rfl (p_move ?_)
      refine l_cons rfl (p_assign ?_)
      refine l_nil ?_
      refine k_seq_normal ?_
      refine w_ret ?_
      refine ret1b rfl ?_ <;> exact ex2 subx ⟨rfl, rfl⟩
end Go.Proofs.YtfdgbghlanbddaaDoor.Av
set_option linter.unusedVariables false
set_option linter.unusedSimpArgs false
set_option maxRecDepth 8000
namespace Go.Proofs.YtfdgbghlanbddaaDoor.Av
open Go.RowKit Go.Proofs
theorem row_st {n : Nf} {k : Nat} (h : k < n.st.length) : (n.st.map St.row)[k]? = some (n.st[k]).row := by simp [h]
theorem rowU8 {l : List Int} {k : Nat} (h : k < l.length) : (l.map fun n => [AV.int .u8 n])[k]? = some [.int .u8 l[k]] := by simp [h]
theorem sets_take {n : Nf} {k : Nat} (h : k < n.st.length) : n.sets.take (k + 1) = n.sets.take k ++ [(n.st[k]).set] := by
 unfold Nf.sets
 rw [List.take_add_one, List.getElem?_map, List.getElem?_eq_getElem h]
 rfl
theorem parts_law {w0 : World} (n : Nf) (hs : ∀ s ∈ n.sets, s.ok) : ∃ cs : List W4, cs.length = (repsTo n.al 256).length ∧ (∀ i (hi : i < cs.length) (b : Nat), b < 256 → ((b : Int) ∈ listW cs[i] ↔ clsOf n.al b = i)) ∧
  ∀ es, ACalls Tryd.prog w0 92 [.list 4 (n.sets.map W4.row)] es fun v es' => v = .list 4 (cs.map W4.row) ∧ es' = es := by
 refine ⟨(repsTo n.al 256).map (classSet n.al), List.length_map _, fun i hi b hb => ?_, fun es => ?_⟩
 ·rw [List.getElem_map]
  exact classSet_mem n.eqv _ hb
 ·have := parts_walk (w0 := w0) (es := es) n.sets hs
  rw [(out_law (parts_inv _ hs) 256 (Nat.le_refl _)).1] at this
  exact this
theorem clT_zero (n : Nf) : byteT (clTab n.al 0 []) = List.replicate 256 (AV.int .u8 0) := byteT_none fun i _ => by simp [clTab]
theorem clT_next {n : Nf} {i : Nat} {c : W4} (hc : ∀ b : Nat, b < 256 → ((b : Int) ∈ listW c ↔ clsOf n.al b = i)) : byteT (clTab n.al i (listW c)) = byteT (clTab n.al (i + 1) []) := by
 refine byteT_congr fun b hb => ?_
 have hm := hc b hb
 unfold clTab
 simp only [List.not_mem_nil, if_false]
 by_cases h1 : clsOf n.al b < i
 ·rw [if_pos h1, if_pos (by omega)]
 ·rw [if_neg h1]
  by_cases h2 : clsOf n.al b = i
  ·rw [if_pos (hm.2 h2), if_pos (by omega), h2]
  ·rw [if_neg (fun h => h2 (hm.1 h)), if_neg (by omega)]
theorem clT_put {n : Nf} {i j q : Nat} {c : W4} (hi : i < 256) (hc : ∀ b : Nat, b < 256 → ((b : Int) ∈ listW c ↔ clsOf n.al b = i)) (hj : j < (listW c).length) (hq : (listW c)[j] = (q : Int)) :
  byteT (clTab n.al i ((listW c).take (j + 1))) = byteT (fun b => if b = q then (i : Int) else clTab n.al i ((listW c).take j) b) := by
 have hm := List.getElem_mem hj
 rw [hq] at hm
 have hq2 : q < 256 := by
  obtain ⟨x, e, hx, _⟩ := listW_mem.1 hm
  omega
 have hcq := (hc q hq2).1 hm
 rw [List.take_add_one, List.getElem?_eq_getElem hj, hq]
 refine byteT_congr fun b hb => ?_
 unfold clTab
 by_cases h1 : b = q
 ·subst h1
  rw [if_pos rfl, if_neg (by omega), if_pos (by simp)]
 ·rw [if_neg h1]
  by_cases h2 : clsOf n.al b < i
  ·rw [if_pos h2, if_pos h2]
  ·rw [if_neg h2, if_neg h2]
   have he : (b : Int) ∈ (listW c).take j ++ (some (q : Int)).toList ↔ (b : Int) ∈ (listW c).take j := by
    simp only [Option.toList_some, List.mem_append, List.mem_singleton]
    constructor
    ·rintro (h | h)
     ·exact h
     ·omega
    ·exact .inl
   by_cases h3 : (b : Int) ∈ (listW c).take j
   ·rw [if_pos (he.2 h3), if_pos h3]
   ·rw [if_neg (fun h => h3 (he.1 h)), if_neg h3]
theorem listW_at {s : W4} {j : Nat} (h : j < (listW s).length) : ∃ q : Nat, (listW s)[j] = (q : Int) ∧ q < 256 := by
 obtain ⟨x, e, hx, _⟩ := listW_mem.1 (List.getElem_mem h)
 exact ⟨x, e, hx⟩
theorem refClassesN {w0 : World} {es : List Ent} (n : Nf) (hs : ∀ s ∈ n.sets, s.ok) (hnl : n.st.length ≤ 1000000) : ACalls Tryd.prog w0 50 [n.av] es fun v es' => v = .tup [.agg (byteT fun i => (clsOf n.al i : Int)), .int .i64 ((repsTo n.al 256).length : Int)] ∧ es' = es := by
 unfold Nf.av
 refine calls1 (N := 26) Tryd.func50 rfl rfl (by decide) ?_
 refine w_seq ?_
 refine w_region ?_
 refine l_cons rfl (p_box fun s1 => ?_)
 refine l_cons rfl (p_alloc ze_58 fun s2 => ?_)
 refine l_cons rfl (p_assign ?_)
 refine l_nil ?_
 refine k_seq_normal ?_
 refine w_seq ?_
 refine w_region ?_
 refine l_cons rfl (p_assign ?_)
 refine l_nil ?_
 refine k_seq_normal ?_
 refine w_seq ?_
 refine w_seq ?_
 refine w_adopt 4 26 4 rfl fun s4 => ?_
 refine w_region ?_
 refine l_cons rfl (p_assign ?_)
 refine l_nil ?_
 refine k_seq_normal ?_
 refine w_block ?_
 refine w_loop (fun m f es' => ∃ k s4, m = n.st.length - k ∧ k ≤ n.st.length ∧ Sub (.row s4 26 4 ((n.sets.take k).map W4.row) :: .row s2 58 256 [(List.replicate 256 (AV.int .u8 0))] :: .row s1 36 3 [n.cells] :: es) es' ∧ Knows f [(1, .ptr es.length s1 0 0), (2, .ptr (es.length + 1) s2 0 0), (4, .own (es.length + 2) s4), (5, .int .i64 (k : Int))]) (n.st.length) (⟨0, s4, rfl, Nat.zero_le _, Sub.refl _, by simp only [Knows, put, upd_apply, Nat.reduceEqDiff, ↓reduceIte, and_true, true_and, eq_self] <;> and_intros <;> rfl⟩) ?_
 rintro m f es' ⟨k, s4, rfl, hk1, hsub, hk⟩
 refine w_pins _ hsub (hk) ?_
 simp only [pins]
 refine w_seq ?_
 refine w_seq ?_
 refine w_region ?_
 refine l_cons rfl (p_move ?_)
 refine l_cons rfl (p_fap fa_36_0 ?_)
 refine l_cons rfl (p_loadp ty_34 ?_)
 refine l_len 8 fun hll => ?_
 rw [List.length_map] at hll
 simp only [most] at hll
 first | refine l_cons rfl (p_lenl sl_34 ?_) | refine l_cons rfl (p_leno sl_34 ?_) | refine l_cons rfl (p_lenn sl_34 ?_)
 refine l_cons rfl (p_cmp ?_)
 refine l_nil ?_
 refine k_seq_normal ?_
 refine w_b (fun h1 => ?_) (fun h1 => ?_)
 ·skip
  have h1' := h1; (try simp only [decide_eq_true_eq, decide_eq_false_iff_not, Bool.not_eq_true', Bool.not_false, Bool.not_true, Bool.not_eq_false'] at h1')
  refine w_skip ?_
  refine k_seq_normal ?_
  refine w_seq ?_
  refine w_block ?_
  refine w_region ?_
  refine l_cons rfl (p_move ?_)
  refine l_cons rfl (p_fap fa_36_0 ?_)
  refine l_cons rfl (p_loadp ty_34 ?_)
  refine l_cons rfl (p_move ?_)
  refine l_cons rfl (p_ixl sl_34 (a := .fptr 6 (n.st.map St.row) k 0) ?_ (h0 := by omega) (h1 := by simp only [List.length_map]; omega))
  refine l_cons rfl (p_faf fa_75_0 ?_)
  refine l_cons rfl (p_loadf ty_26 (a := .agg (n.st[k]'(by omega)).set.row) ?_ (hr := row_st (by omega)) (hl := Nat.le_of_ble_eq_true rfl) (ha := rfl))
  refine l_cons rfl (p_buildList sl_113 ze_26 (rows := [(n.st[k]'(by omega)).set].map W4.row) ?_ (hr := rfl))
  refine l_cons rfl (p_append sl_113 by_26 ze_26 (fun s21 => ?_) (hb := by simp only [Nf.sets, List.length_map, List.length_take, List.length_append, List.length_cons, List.length_nil, most]; omega))
  refine l_cons rfl (p_assign ?_)
  refine l_nil ?_
  refine k_blk_normal ?_
  refine k_seq_normal ?_
  refine w_region ?_
  refine l_cons rfl (p_move ?_)
  refine l_cons rfl (p_arith ?_)
  refine l_cons rfl (p_assign ?_)
  refine l_nil ?_
  refine k_seq_normal ?_
  exact ⟨n.st.length - (k + 1), by omega, k + 1, s21, rfl, by omega, by rw [sets_take (by omega), List.map_append]; exact Sub.refl _, by simp only [Knows, put, upd_apply, Nat.reduceEqDiff, ↓reduceIte, and_true, true_and, eq_self] <;> and_intros <;> rfl⟩
 ·skip
  have h1' := h1; (try simp only [decide_eq_true_eq, decide_eq_false_iff_not, Bool.not_eq_true', Bool.not_false, Bool.not_true, Bool.not_eq_false'] at h1')
  refine w_exit ?_
  refine k_seq_exit ?_
  refine k_seq_exit ?_
  refine k_blk_here ?_
  refine k_seq_normal ?_
  refine w_seq ?_
  obtain rfl : k = n.st.length := by omega
  refine w_freezeTop 4 ?_ (hclean := cleans_w4 _)
  rw [show n.sets.take n.st.length = n.sets from List.take_of_length_le (by simp [Nf.sets])]
  refine w_region ?_
  refine l_cons rfl (p_move ?_)
  refine l_cons rfl (p_callr en_94 (refClasses n.sets hs) ?_)
  refine l_cons rfl (p_extract ?_ (hl := Nat.le_of_ble_eq_true rfl))
  refine l_cons rfl (p_extract ?_ (hl := Nat.le_of_ble_eq_true rfl))
  refine l_cons rfl (p_store ty_58 ?_)
  refine l_cons rfl (p_assign ?_)
  refine l_nil ?_
  refine k_seq_normal ?_
  refine w_ret ?_
  exact retct rfl ty_58 (sub2 _ _ _) ⟨rfl, rfl⟩
theorem subClasses {w0 : World} {es : List Ent} (n : Nf) (hs : ∀ s ∈ n.sets, s.ok) (hnl : n.st.length ≤ 1000000) : ACalls Tryd.prog w0 49 [n.av] es fun v es' => v = .tup [.agg (byteT fun i => (clsOf n.al i : Int)), .int .i64 ((repsTo n.al 256).length : Int)] ∧ es' = es := by
 unfold Nf.av
 have hrl := repsTo_len n.al 256
 obtain ⟨cs, hcl, hmem, hpc⟩ := parts_law (w0 := w0) n hs
 refine calls1 (N := 51) Tryd.func49 rfl rfl (by decide) ?_
 refine w_seq ?_
 refine w_region ?_
 refine l_cons rfl (p_box fun s1 => ?_)
 refine l_cons rfl (p_alloc ze_58 fun s2 => ?_)
 refine l_cons rfl (p_assign ?_)
 refine l_nil ?_
 refine k_seq_normal ?_
 refine w_seq ?_
 refine w_region ?_
 refine l_cons rfl (p_assign ?_)
 refine l_nil ?_
 refine k_seq_normal ?_
 refine w_seq ?_
 refine w_seq ?_
 refine w_adopt 4 26 4 rfl fun s4 => ?_
 refine w_region ?_
 refine l_cons rfl (p_fap fa_36_0 ?_)
 refine l_cons rfl (p_loadp ty_34 ?_)
 first | refine l_cons rfl (p_lenl sl_34 ?_) | refine l_cons rfl (p_leno sl_34 ?_) | refine l_cons rfl (p_lenn sl_34 ?_)
 refine l_len 14 fun hll => ?_
 rw [List.length_map] at hll
 simp only [most] at hll
 refine l_cons rfl (p_move ?_)
 refine l_nil ?_
 refine k_seq_normal ?_
 refine w_block ?_
 refine w_loop (fun m f es' => ∃ k s4, m = n.st.length - k ∧ k ≤ n.st.length ∧ Sub (.row s4 26 4 ((n.sets.take k).map W4.row) :: .row s2 58 256 [(List.replicate 256 (AV.int .u8 0))] :: .row s1 36 3 [n.cells] :: es) es' ∧ Knows f [(1, .ptr es.length s1 0 0), (2, .ptr (es.length + 1) s2 0 0), (4, .own (es.length + 2) s4), (14, .list 6 (n.st.map St.row)), (15, .int .i64 (n.st.length : Int)), (16, .int .i64 (k : Int))]) (n.st.length) (⟨0, s4, rfl, Nat.zero_le _, Sub.refl _, by simp only [Knows, put, upd_apply, Nat.reduceEqDiff, ↓reduceIte, and_true, true_and, eq_self] <;> and_intros <;> rfl⟩) ?_
 rintro m f es' ⟨k, s4, rfl, hk1, hsub, hk⟩
 refine w_pins _ hsub (hk) ?_
 simp only [pins]
 refine w_seq ?_
 refine w_region ?_
 refine l_cons rfl (p_cmp ?_)
 refine l_nil ?_
 refine k_seq_normal ?_
 refine w_seq ?_
 refine w_b (fun h1 => ?_) (fun h1 => ?_)
 ·skip
  have h1' := h1; (try simp only [decide_eq_true_eq, decide_eq_false_iff_not, Bool.not_eq_true', Bool.not_false, Bool.not_true, Bool.not_eq_false'] at h1')
  refine w_skip ?_
  refine k_seq_normal ?_
  refine w_seq ?_
  refine w_block ?_
  refine w_seq ?_
  refine w_region ?_
  refine l_cons rfl (p_ixl sl_34 (a := .fptr 6 (n.st.map St.row) k 0) ?_ (h0 := by omega) (h1 := by simp only [List.length_map]; omega))
  refine l_cons rfl (p_loadf ty_75 (a := .agg (n.st[k]'(by omega)).row) ?_ (hr := row_st (by omega)) (hl := Nat.le_refl 6) (ha := rfl))
  refine l_cons rfl (p_alloc ze_75 fun s6 => ?_)
  refine l_cons rfl (p_store ty_75 (r' := (n.st[k]'(by omega)).row) ?_ (hl := Nat.le_of_ble_eq_true rfl) (hr' := rfl))
  refine l_nil ?_
  refine k_seq_normal ?_
  refine w_region ?_
  refine l_cons rfl (p_move ?_)
  refine l_cons rfl (p_fap fa_75_0 ?_)
  refine l_cons rfl (p_loadp ty_26 (a := .agg (n.st[k]'(by omega)).set.row) ?_ (hl := Nat.le_of_ble_eq_true rfl) (ha := rfl))
  refine l_cons rfl (p_buildList sl_113 ze_26 (rows := [(n.st[k]'(by omega)).set].map W4.row) ?_ (hr := rfl))
  refine l_cons rfl (p_append sl_113 by_26 ze_26 (fun s24 => ?_) (hb := by simp only [Nf.sets, List.length_map, List.length_take, List.length_append, List.length_cons, List.length_nil, most]; omega))
  refine l_cons rfl (p_assign ?_)
  refine l_nil ?_
  refine k_blk_normal ?_
  refine k_seq_normal ?_
  refine w_region ?_
  refine l_cons rfl (p_arith ?_)
  refine l_cons rfl (p_move ?_)
  refine l_nil ?_
  refine k_seq_normal ?_
  exact ⟨n.st.length - (k + 1), by omega, k + 1, s24, rfl, by omega, by rw [sets_take (by omega), List.map_append]; exact sub1 _ _, by simp only [Knows, put, upd_apply, Nat.reduceEqDiff, ↓reduceIte, and_true, true_and, eq_self] <;> and_intros <;> rfl⟩
 ·skip
  have h1' := h1; (try simp only [decide_eq_true_eq, decide_eq_false_iff_not, Bool.not_eq_true', Bool.not_false, Bool.not_true, Bool.not_eq_false'] at h1')
  refine w_exit ?_
  refine k_seq_exit ?_
  refine k_seq_exit ?_
  refine k_blk_here ?_
  refine k_seq_normal ?_
  refine w_seq ?_
  obtain rfl : k = n.st.length := by omega
  refine w_freezeTop 4 ?_ (hclean := cleans_w4 _)
  rw [show n.sets.take n.st.length = n.sets from List.take_of_length_le (by simp [Nf.sets])]
  refine w_region ?_
  refine l_cons rfl (p_alloc ze_58 fun s7 => ?_)
  refine l_nil ?_
  refine k_seq_normal ?_
  refine w_seq ?_
  refine w_region ?_
  refine l_cons rfl (p_move ?_)
  refine l_cons rfl (p_callr en_92 (hpc _) ?_)
  refine l_cons rfl (p_assign ?_)
  refine l_nil ?_
  refine k_seq_normal ?_
  refine w_seq ?_
  refine w_seq ?_
  refine w_region ?_
  refine l_cons rfl (p_move ?_)
  first | refine l_cons rfl (p_lenl sl_113 ?_) | refine l_cons rfl (p_leno sl_113 ?_) | refine l_cons rfl (p_lenn sl_113 ?_)
  refine l_cons rfl (p_move ?_)
  refine l_nil ?_
  refine k_seq_normal ?_
  refine w_block ?_
  refine w_loop (fun m f es' => ∃ i, m = cs.length - i ∧ i ≤ cs.length ∧ Sub (.row s7 58 256 [byteT (clTab n.al i [])] :: .row s2 58 256 [(List.replicate 256 (AV.int .u8 0))] :: .row s1 36 3 [n.cells] :: es) es' ∧ Knows f [(2, .ptr (es.length + 1) s2 0 0), (7, .ptr (es.length + 2) s7 0 0), (8, .list 4 (cs.map W4.row)), (28, .list 4 (cs.map W4.row)), (29, .int .i64 (cs.length : Int)), (30, .int .i64 (i : Int))]) (cs.length) (⟨0, rfl, Nat.zero_le _, by rw [clT_zero]; exact Sub.refl _, by simp only [Knows, put, upd_apply, Nat.reduceEqDiff, ↓reduceIte, and_true, true_and, eq_self] <;> and_intros <;> rfl⟩) ?_
  rintro m f es' ⟨i, rfl, hi1, hsub, hk⟩
  refine w_pins _ hsub (hk) ?_
  simp only [pins]
  refine w_seq ?_
  refine w_region ?_
  refine l_cons rfl (p_cmp ?_)
  refine l_nil ?_
  refine k_seq_normal ?_
  refine w_seq ?_
  refine w_b (fun h2 => ?_) (fun h2 => ?_)
  ·skip
   have h2' := h2; (try simp only [decide_eq_true_eq, decide_eq_false_iff_not, Bool.not_eq_true', Bool.not_false, Bool.not_true, Bool.not_eq_false'] at h2')
   refine w_skip ?_
   refine k_seq_normal ?_
   refine w_seq ?_
   refine w_block ?_
   refine w_seq ?_
   have hil : i < (repsTo n.al 256).length := by rw [← hcl]; omega
   refine w_region ?_
   refine l_cons rfl (p_move ?_)
   refine l_cons rfl (p_ixl sl_113 (a := .fptr 4 (cs.map W4.row) i 0) ?_ (h0 := by omega) (h1 := by simp only [List.length_map, List.length_cons, List.length_nil]; omega))
   refine l_cons rfl (p_loadf ty_26 (a := .agg (cs[i]'(by omega)).row) ?_ (hr := row_w4 (by omega)) (hl := Nat.le_refl 4) (ha := rfl))
   refine l_cons rfl (p_alloc ze_26 fun s10 => ?_)
   refine l_cons rfl (p_assign ?_)
   refine l_cons rfl (p_store ty_26 (r' := (cs[i]'(by omega)).row) ?_ (hl := Nat.le_of_ble_eq_true rfl) (hr' := rfl))
   refine l_nil ?_
   refine k_seq_normal ?_
   refine w_seq ?_
   refine w_region ?_
   refine l_cons rfl (p_loadp ty_26 (a := .agg (cs[i]'(by omega)).row) ?_ (hl := Nat.le_of_ble_eq_true rfl) (ha := rfl))
   refine l_cons rfl (p_callr en_93 (list_set (cs[i]'(by omega))) ?_)
   unfold bytesAV
   first | refine l_cons rfl (p_lenl sl_22 ?_) | refine l_cons rfl (p_leno sl_22 ?_) | refine l_cons rfl (p_lenn sl_22 ?_)
   refine l_cons rfl (p_move ?_)
   refine l_nil ?_
   refine k_seq_normal ?_
   refine w_block ?_
   refine w_loop (fun m f es' => ∃ j, m = (listW (cs[i]'(by omega))).length - j ∧ j ≤ (listW (cs[i]'(by omega))).length ∧ Sub (.row s7 58 256 [byteT (clTab n.al i ((listW (cs[i]'(by omega))).take j))] :: .row s2 58 256 [(List.replicate 256 (AV.int .u8 0))] :: .row s1 36 3 [n.cells] :: es) es' ∧ Knows f [(9, .int .i64 (i : Int)), (2, .ptr (es.length + 1) s2 0 0), (7, .ptr (es.length + 2) s7 0 0), (8, .list 4 (cs.map W4.row)), (28, .list 4 (cs.map W4.row)), (29, .int .i64 (cs.length : Int)), (30, .int .i64 (i : Int)), (36, .list 1 ((listW (cs[i]'(by omega))).map fun n => [.int .u8 n])), (37, .int .i64 ((listW (cs[i]'(by omega))).length : Int)), (38, .int .i64 (j : Int))]) ((listW (cs[i]'(by omega))).length) (⟨0, rfl, Nat.zero_le _, sub1 _ _, by simp only [Knows, put, upd_apply, Nat.reduceEqDiff, ↓reduceIte, and_true, true_and, eq_self] <;> and_intros <;> rfl⟩) ?_
   rintro m f es' ⟨j, rfl, hj1, hsub, hk⟩
   have hlw : (listW (cs[i]'(by omega))).length ≤ 256 := listTo_len _ 256
   refine w_pins _ hsub (hk) ?_
   simp only [pins]
   refine w_seq ?_
   refine w_region ?_
   refine l_cons rfl (p_cmp ?_)
   refine l_nil ?_
   refine k_seq_normal ?_
   refine w_seq ?_
   refine w_b (fun h3 => ?_) (fun h3 => ?_)
   ·skip
    have h3' := h3; (try simp only [decide_eq_true_eq, decide_eq_false_iff_not, Bool.not_eq_true', Bool.not_false, Bool.not_true, Bool.not_eq_false'] at h3')
    refine w_skip ?_
    refine k_seq_normal ?_
    refine w_seq ?_
    refine w_block ?_
    refine w_seq ?_
    refine w_region ?_
    refine l_cons rfl (p_ixl sl_22 (a := .fptr 1 ((listW (cs[i]'(by omega))).map fun n => [.int .u8 n]) j 0) ?_ (h0 := by omega) (h1 := by simp only [List.length_map]; omega))
    refine l_cons rfl (p_loadf ty_5 (a := .int .u8 ((listW (cs[i]'(by omega)))[j]'(by omega))) ?_ (hr := rowU8 (by omega)) (hl := Nat.le_refl 1) (ha := rfl))
    refine l_cons rfl (p_assign ?_)
    refine l_nil ?_
    refine k_seq_normal ?_
    obtain ⟨q, hqe, hq1⟩ := listW_at (s := (cs[i]'(by omega))) (j := j) (by omega)
    refine w_region ?_
    refine l_cons rfl (p_move ?_)
    refine l_cons rfl (p_move ?_)
    refine l_cons rfl (p_conv in_3 in_5 ?_ (hb := wrap8 (n := (i : Int)) (by omega) (by omega)))
    refine l_cons rfl (p_ixa ar_58 (a := .ptr (es.length + 2) s7 0 q) ?_ (h0 := by omega) (h1 := by omega) (ho := by simp [hqe]))
    refine l_cons rfl (p_store ty_5 (r' := byteT (clTab n.al i ((listW (cs[i]'(by omega))).take (j + 1)))) ?_ (hl := by simp only [byteT_len]; omega) (hr' := by rw [clT_put (by omega) (hmem i (by omega)) (by omega) hqe]; exact byteT_store hq1))
    refine l_nil ?_
    refine k_blk_normal ?_
    refine k_seq_normal ?_
    refine w_region ?_
    refine l_cons rfl (p_arith ?_)
    refine l_cons rfl (p_move ?_)
    refine l_nil ?_
    refine k_seq_normal ?_
    exact ⟨(listW (cs[i]'(by omega))).length - (j + 1), by omega, j + 1, rfl, by omega, Sub.refl _, by simp only [Knows, put, upd_apply, Nat.reduceEqDiff, ↓reduceIte, and_true, true_and, eq_self] <;> and_intros <;> rfl⟩
   ·skip
    have h3' := h3; (try simp only [decide_eq_true_eq, decide_eq_false_iff_not, Bool.not_eq_true', Bool.not_false, Bool.not_true, Bool.not_eq_false'] at h3')
    refine w_exit ?_
    refine k_seq_exit ?_
    refine k_seq_exit ?_
    refine k_blk_here ?_
    refine k_blk_normal ?_
    refine k_seq_normal ?_
    refine w_region ?_
    refine l_cons rfl (p_arith ?_)
    refine l_cons rfl (p_move ?_)
    refine l_nil ?_
    refine k_seq_normal ?_
    have hjj : j = (listW (cs[i]'(by omega))).length := by omega
    exact ⟨cs.length - (i + 1), by omega, i + 1, rfl, by omega, by rw [← clT_next (hmem i (by omega)), hjj, List.take_length]; exact Sub.refl _, by simp only [Knows, put, upd_apply, Nat.reduceEqDiff, ↓reduceIte, and_true, true_and, eq_self] <;> and_intros <;> rfl⟩
  ·skip
   have h2' := h2; (try simp only [decide_eq_true_eq, decide_eq_false_iff_not, Bool.not_eq_true', Bool.not_false, Bool.not_true, Bool.not_eq_false'] at h2')
   refine w_exit ?_
   refine k_seq_exit ?_
   refine k_seq_exit ?_
   refine k_blk_here ?_
   refine k_seq_normal ?_
   refine w_seq ?_
   obtain rfl : i = cs.length := by omega
   refine w_region ?_
   refine l_cons rfl (p_loadp ty_58 (a := .agg (byteT (clTab n.al cs.length []))) ?_ (hl := by simp only [byteT_len]; omega) (ha := byteT_all _))
   refine l_cons rfl (p_move ?_)
   refine l_cons rfl (p_lenl sl_113 ?_)
   refine l_cons rfl (p_store ty_58 ?_)
   refine l_cons rfl (p_assign ?_)
   refine l_nil ?_
   refine k_seq_normal ?_
   refine w_ret ?_
   rw [show byteT (fun i => (clsOf n.al i : Int)) = byteT (clTab n.al cs.length []) from byteT_congr fun b hb => by rw [hcl, clTab_all n.al hb], show ((repsTo n.al 256).length : Int) = (cs.length : Int) by rw [hcl]]
   exact retct rfl ty_58 (sub3 _ _ _ _) ⟨rfl, rfl⟩
end Go.Proofs.YtfdgbghlanbddaaDoor.Av
set_option linter.unusedVariables false
set_option linter.unusedSimpArgs false
namespace Go.Proofs.YtfdgbghlanbddaaDoor.Av
open Go.RowKit
/-! ### a cell of a row is told otherwise -/
theorem reps_set {c : Core} {m : Option (List Ent)} {a b : AV} (hw : ∀ v, Rep c m a v → Rep c m b v) : ∀ {r : List AV} {i : Nat} {vs : List Value}, r[i]? = some a → Reps c m r vs → Reps c m (r.set i b) vs
 | [], i, vs, h, _ => by simp at h
 | x :: t, 0, vs, h, hr => by
  simp only [List.getElem?_cons_zero, Option.some.injEq] at h
  subst h
  simp only [List.set_cons_zero, Reps] at hr ⊢
  obtain ⟨v, vs', rfl, h1, h2⟩ := hr
  exact ⟨v, vs', rfl, hw v h1, h2⟩
 | x :: t, i + 1, vs, h, hr => by
  simp only [List.getElem?_cons_succ] at h
  simp only [List.set_cons_succ, Reps] at hr ⊢
  obtain ⟨v, vs', rfl, h1, h2⟩ := hr
  exact ⟨v, vs', rfl, h1, reps_set hw h h2⟩
theorem repRows_set {c : Core} {m : Option (List Ent)} {a b : AV} (hw : ∀ v, Rep c m a v → Rep c m b v) {sz i : Nat} {r : List AV} (h : r[i]? = some a) {xs : List Value} (hr : RepRows c m sz [r] xs) : RepRows c m sz [r.set i b] xs := by
 simp only [RepRows] at hr ⊢
 obtain ⟨v1, v2, rfl, hl, h1, ho, h2⟩ := hr
 exact ⟨v1, v2, rfl, by rw [List.length_set]; exact hl, reps_set hw h h1, ho, h2⟩
theorem setAt_twice : ∀ (es : List Ent) (i : Nat) (x y : Ent), setAt (setAt es i x) i y = setAt es i y
 | [], _, _, _ => rfl
 | a :: t, i, x, y => by
  simp only [setAt]
  by_cases h : i = t.length
  ·simp only [if_pos h, setAt]
  ·simp only [if_neg h, setAt, setAt_len, setAt_twice t i x y]
theorem setAt_comm : ∀ (es : List Ent) {i j : Nat} (x y : Ent), i ≠ j → setAt (setAt es i x) j y = setAt (setAt es j y) i x
 | [], _, _, _, _, _ => rfl
 | a :: t, i, j, x, y, h => by
  simp only [setAt]
  by_cases h1 : i = t.length
  ·by_cases h2 : j = t.length
   ·omega
   ·simp only [if_pos h1, if_neg h2, setAt, setAt_len]
  ·by_cases h2 : j = t.length
   ·simp only [if_neg h1, if_pos h2, setAt, setAt_len]
   ·simp only [if_neg h1, if_neg h2, setAt, setAt_len, setAt_comm t x y h]
section
variable {P : Program} {w0 : World} {N : Nat} {f : Frame} {es : List Ent} {K : Exit → Frame → List Ent → Prop}
/-- A cell that holds the nil slice: from here on an empty row of one's own. -/
theorem w_adoptCell {code : Code} {id s e sz i : Nat} {r : List AV} (e' sz' : Nat) (hid : at_ es id = some (.row s e sz [r])) (hi : r[i]? = some .nil)
  (h : ∀ s', AWp P w0 N code f (.row s' e' sz' [] :: setAt es id (.row s e sz [r.set i (.own es.length s')])) K) : AWp P w0 N code f es K := by
 intro c A Q ok rf hk
 have x1 := ext_adopt (w0 := w0) (c := c) (es := es) e' sz'
 have ok1 := ok_adopt ok e' sz'
 have hid1 : at_ (Ent.row c.now e' sz' [] :: es) id = some (.row s e sz [r]) := at_miss _ hid
 have hown : ∀ xs, RepRows (c.adopt es) (some (Ent.row c.now e' sz' [] :: es)) sz [r] xs → RepRows (c.adopt es) (some (Ent.row c.now e' sz' [] :: es)) sz [r.set i (.own es.length c.now)] xs := by
  intro xs hx
  refine repRows_set (fun v hv => ?_) hi hx
  simp only [Rep] at hv ⊢
  refine ⟨_, rfl, ⟨_, _, _, hv⟩, Nat.lt_succ_self _, fun e2 sz2 rows2 hr => ?_⟩
  rw [at_hit] at hr
  injection hr with hr
  injection hr with _ _ _ hr
  subst hr
  simp [Core.adopt, ownVal, hv]
 have x2 := ext_retell (c := c.adopt es) (rows' := [r.set i (.own es.length c.now)]) hid1 rfl
 have ok2 := ok_retell ok1 (rows' := [r.set i (.own es.length c.now)]) hid1 rfl hown
 rw [setAt_miss _ _ (at_lt hid)] at x2 ok2
 have x := x1.trans x2
 exact h c.now (c.adopt es) A Q ok2 (rf.ext x) fun e c' es' f' A' x' ok' rf' k => hk e c' es' f' A' (x.trans x') ok' rf' k
/-- A row that a cell holds is written no more: the cell holds a list from here on. -/
theorem w_freezeCell {code : Code} {id s e sz i j sj e' sz' : Nat} {r : List AV} {rows : List (List AV)} (hid : at_ es id = some (.row s e sz [r])) (hj : at_ es j = some (.row sj e' sz' rows)) (hne : id ≠ j) (hi : r[i]? = some (.own j sj)) (hclean : rows.all cleans = true)
  (h : AWp P w0 N code f (setAt (setAt es j .dead) id (.row s e sz [r.set i (.list sz' rows)])) K) : AWp P w0 N code f es K := by
 intro c A Q ok rf hk
 have hown : ∀ xs, RepRows c (some es) sz [r] xs → RepRows c (some es) sz [r.set i (.raw (ownVal (c.phi j) rows.length))] xs := by
  intro xs hx
  refine repRows_set (fun v hv => ?_) hi hx
  simp only [Rep] at hv ⊢
  obtain ⟨_, he, _, _, h2⟩ := hv
  injection he with he
  subst he
  exact h2 _ _ _ hj
 have x1 := ext_retell (c := c) (rows' := [r.set i (.raw (ownVal (c.phi j) rows.length))]) hid rfl
 have ok1 := ok_retell ok (rows' := [r.set i (.raw (ownVal (c.phi j) rows.length))]) hid rfl hown
 have hj1 : at_ (setAt es id (.row s e sz [r.set i (.raw (ownVal (c.phi j) rows.length))])) j = some (.row sj e' sz' rows) := by rw [at_setAt_ne _ (Ne.symm hne)]; exact hj
 have x2 := ext_freeze (c := c) (es := setAt es id (.row s e sz [r.set i (.raw (ownVal (c.phi j) rows.length))])) j
 have ok2 := ok_freeze ok1 hj1
 have hid2 : at_ (setAt (setAt es id (.row s e sz [r.set i (.raw (ownVal (c.phi j) rows.length))])) j .dead) id = some (.row s e sz [r.set i (.raw (ownVal (c.phi j) rows.length))]) := by
  rw [at_setAt_ne _ hne, at_setAt_same _ hid]
 have hlt : i < r.length := (List.getElem?_eq_some_iff.1 hi).1
 have hown2 : ∀ xs, RepRows (c.freeze j) (some (setAt (setAt es id (.row s e sz [r.set i (.raw (ownVal (c.phi j) rows.length))])) j .dead)) sz [r.set i (.raw (ownVal (c.phi j) rows.length))] xs →
   RepRows (c.freeze j) (some (setAt (setAt es id (.row s e sz [r.set i (.raw (ownVal (c.phi j) rows.length))])) j .dead)) sz [(r.set i (.raw (ownVal (c.phi j) rows.length))).set i (.list sz' rows)] xs := by
  intro xs hx
  refine repRows_set (a := .raw (ownVal (c.phi j) rows.length)) (fun v hv => ?_) (by rw [List.getElem?_set]; simp [hlt]) hx
  simp only [Rep] at hv
  subst hv
  exact rep_freeze ok1 hj1 hclean _
 have x3 := ext_retell (c := c.freeze j) (rows' := [(r.set i (.raw (ownVal (c.phi j) rows.length))).set i (.list sz' rows)]) hid2 rfl
 have ok3 := ok_retell ok2 (rows' := [(r.set i (.raw (ownVal (c.phi j) rows.length))).set i (.list sz' rows)]) hid2 rfl hown2
 have e3 : setAt (setAt (setAt es id (.row s e sz [r.set i (.raw (ownVal (c.phi j) rows.length))])) j .dead) id (.row s e sz [r.set i (.list sz' rows)]) = setAt (setAt es j .dead) id (.row s e sz [r.set i (.list sz' rows)]) := by
  rw [setAt_comm _ _ _ hne, setAt_twice]
 rw [List.set_set, e3] at x3 ok3
 have x := (x1.trans x2).trans x3
 exact h (c.freeze j) A Q ok3 (rf.ext x) fun e c' es' f' A' x' ok' rf' k => hk e c' es' f' A' (x.trans x') ok' rf' k
theorem w_adoptCell' {code : Code} {id s e sz i : Nat} {r : List AV} {C : Ent → List Ent} (e' sz' : Nat) (hid : Loc es id (.row s e sz [r]) C) (hi : r[i]? = some .nil)
  (h : ∀ s', AWp P w0 N code f (.row s' e' sz' [] :: C (.row s e sz [r.set i (.own es.length s')])) K) : AWp P w0 N code f es K :=
 w_adoptCell e' sz' hid.1 hi fun s' => by rw [hid.2]; exact h s'
theorem w_freezeCell' {code : Code} {id s e sz i j sj e' sz' : Nat} {r : List AV} {rows : List (List AV)} {C1 C2 : Ent → List Ent} (hj : Loc es j (.row sj e' sz' rows) C1) (hid : Loc (C1 .dead) id (.row s e sz [r]) C2) (hne : id ≠ j) (hi : r[i]? = some (.own j sj)) (hclean : rows.all cleans = true)
  (h : AWp P w0 N code f (C2 (.row s e sz [r.set i (.list sz' rows)])) K) : AWp P w0 N code f es K := by
 have h1 : at_ es id = some (.row s e sz [r]) := by
  have := hid.1
  rw [← hj.2, at_setAt_ne _ hne] at this
  exact this
 refine w_freezeCell h1 hj.1 hne hi hclean ?_
 rw [hj.2, hid.2]
 exact h
theorem retctw {es2 : List Ent} {fn : Func} {t u x : Nat} {agg : Bool} {n id s e sz : Nat} {r : List AV} {rest : List (List AV)} {a a' b : AV} {C : Ent → List Ent} {R : AV → List Ent → Prop} (hres : fn.results = #[.cell t u, .tmp x]) (ht : tyB P u agg n = true) (hs : Sub es2 es) (hw : ∀ (c : Core) (m : Option (List Ent)) (v : Value), Rep c m a v → Rep c m a' v) (h : R (.tup [a', b]) es2)
  (hf : f t = .ptr id s 0 0 := by simp only [upd_apply, Nat.reduceEqDiff, ↓reduceIte] <;> exact rfl) (hx : f x = b := by simp only [upd_apply, Nat.reduceEqDiff, ↓reduceIte] <;> exact rfl) (he : Loc es id (.row s e sz (r :: rest)) C := by first | exact loc_hit | exact (loc_miss loc_hit) | exact (loc_miss (loc_miss loc_hit)) | exact (loc_miss (loc_miss (loc_miss loc_hit))) | exact (loc_miss (loc_miss (loc_miss (loc_miss loc_hit)))) | exact (loc_miss (loc_miss (loc_miss (loc_miss (loc_miss loc_hit))))) | exact (loc_miss (loc_miss (loc_miss (loc_miss (loc_miss (loc_miss loc_hit)))))) | exact (loc_miss (loc_miss (loc_miss (loc_miss (loc_miss (loc_miss (loc_miss loc_hit)))))))) 
  (hn : agg = false → n = 1 := by first | (intro h; cases h; done) | exact fun _ => rfl) (hl : 0 + n ≤ r.length := by first | exact Nat.le_of_ble_eq_true rfl | decide) (ha : loadAV agg n r 0 = a := by exact rfl) : kret P w0 N fn R .ret f es := by
 refine ⟨.tup [a', b], es2, fun c A ok rf => ?_, hs, h⟩
 obtain ⟨v, h1, h2⟩ := (hx ▸ res_cell_tmp (P := P) (w0 := w0) (N := N) hres hf he.1 rfl ht hn hl ha : ARes P w0 N fn f es (.tup [a, b])) c A ok rf
 refine ⟨v, h1, ?_⟩
 simp only [Rep, Reps] at h2 ⊢
 obtain ⟨cs, e0, v1, vs, e1, h3, h4⟩ := h2
 exact ⟨cs, e0, v1, vs, e1, hw c _ _ h3, h4⟩
end
end Go.Proofs.YtfdgbghlanbddaaDoor.Av
set_option linter.unusedVariables false
set_option linter.unusedSimpArgs false
namespace Go.Proofs.YtfdgbghlanbddaaDoor.Av
open Go.RowKit Go.Proofs
/-! ### texts of sets of states -/
def low (l : List Int) : Prop := ∀ x ∈ l, 0 ≤ x ∧ x < 65536
theorem u8_wrap (n : Int) : IntKind.u8.wrap n = n % 256 := by
 have e : IntKind.u8.wrap n = n.emod (2 ^ 8) := rfl
 rw [e]
 rfl
theorem keyNum_eq {n : Int} (h : 0 ≤ n ∧ n < 65536) : keyNum n = [n / 256, n % 256] := by
 unfold keyNum
 rw [u8_wrap, u8_wrap]
 have e : n.fdiv (2 ^ (min (8 : Int).toNat IntKind.i64.bits)) = n / 256 := by
  show n.fdiv 256 = n / 256
  rw [Int.fdiv_eq_ediv_of_nonneg _ (by decide)]
 rw [e, Int.emod_eq_of_lt (by omega) (by omega)]
theorem keyNums_range {l : List Int} (h : low l) : ∀ x ∈ keyNums l, 0 ≤ x ∧ x < 256 := by
 intro x hx
 unfold keyNums at hx
 obtain ⟨n, hn, hx⟩ := List.mem_flatMap.1 hx
 have := h n hn
 rw [keyNum_eq this] at hx
 simp only [List.mem_cons, List.not_mem_nil, or_false] at hx
 omega
theorem keyNums_inj : ∀ {a b : List Int}, low a → low b → keyNums a = keyNums b → a = b
 | [], [], _, _, _ => rfl
 | [], y :: u, _, hb, h => by
  have h1 := keyNums_len []
  have h2 := keyNums_len (y :: u)
  rw [h, h2] at h1
  simp at h1
 | x :: t, [], _, _, h => by
  have h1 := keyNums_len (x :: t)
  have h2 := keyNums_len []
  rw [h, h2] at h1
  simp at h1
 | x :: t, y :: u, ha, hb, h => by
  have hx := ha x (by simp)
  have hy := hb y (by simp)
  unfold keyNums at h
  rw [List.flatMap_cons, List.flatMap_cons, keyNum_eq hx, keyNum_eq hy] at h
  simp only [List.cons_append, List.nil_append, List.cons.injEq] at h
  obtain ⟨h1, h2, h3⟩ := h
  have e : x = y := by omega
  rw [e, keyNums_inj (fun z hz => ha z (by simp [hz])) (fun z hz => hb z (by simp [hz])) h3]
theorem strOf_inj {a b : List Int} (ha : ∀ x ∈ a, 0 ≤ x ∧ x < 256) (hb : ∀ x ∈ b, 0 ≤ x ∧ x < 256) (h : strOfNums a = strOfNums b) : a = b := by
 have h1 : (strOfNums a).data.toList = (strOfNums b).data.toList := by rw [h]
 rw [strOfNums_data, strOfNums_data] at h1
 have key : ∀ (a b : List Int), (∀ x ∈ a, 0 ≤ x ∧ x < 256) → (∀ x ∈ b, 0 ≤ x ∧ x < 256) → a.map (fun n => UInt8.ofNat n.toNat) = b.map (fun n => UInt8.ofNat n.toNat) → a = b := by
  intro a
  induction a with
  | nil => intro b _ _ h; cases b with
   | nil => rfl
   | cons y u => simp at h
  | cons x t ih =>
   intro b ha hb h
   cases b with
   | nil => simp at h
   | cons y u =>
    simp only [List.map_cons, List.cons.injEq] at h
    have hx := ha x (by simp)
    have hy := hb y (by simp)
    have e := congrArg UInt8.toNat h.1
    rw [UInt8.toNat_ofNat', UInt8.toNat_ofNat', Nat.mod_eq_of_lt (by omega), Nat.mod_eq_of_lt (by omega)] at e
    rw [ih u (fun z hz => ha z (by simp [hz])) (fun z hz => hb z (by simp [hz])) h.2, show x = y by omega]
 exact key a b ha hb h1
def keyT (l : List Int) : ByteArray := strOfNums (keyNums l)
theorem keyT_inj {a b : List Int} (ha : low a) (hb : low b) (h : keyT a = keyT b) : a = b := keyNums_inj ha hb (strOf_inj (keyNums_range ha) (keyNums_range hb) h)
/-- The map of the sets, from place k on. -/
def keysFrom : Nat → List (List Int) → List (ByteArray × Int)
 | _, [] => []
 | k, x :: t => (keyT x, (k : Int)) :: keysFrom (k + 1) t
def keysOf (l : List (List Int)) : List (ByteArray × Int) := keysFrom 0 l
theorem keysFrom_app : ∀ (k : Nat) (l : List (List Int)) (x : List Int), keysFrom k (l ++ [x]) = keysFrom k l ++ [(keyT x, ((k + l.length : Nat) : Int))]
 | k, [], x => rfl
 | k, y :: t, x => by
  simp only [List.cons_append, keysFrom, keysFrom_app (k + 1) t x, List.length_cons]
  rw [show k + 1 + t.length = k + (t.length + 1) by omega]
theorem keysOf_app (l : List (List Int)) (x : List Int) : keysOf (l ++ [x]) = keysOf l ++ [(keyT x, (l.length : Int))] := by
 unfold keysOf
 rw [keysFrom_app, Nat.zero_add]
theorem find_keys {x : List Int} (hx : low x) : ∀ (k : Nat) (l : List (List Int)), (∀ y ∈ l, low y) → mapFind (keysFrom k l) (keyT x) = if placeIx l x = l.length then none else some ((k + placeIx l x : Nat) : Int)
 | k, [], _ => rfl
 | k, y :: t, h => by
  have ih := find_keys hx (k + 1) t fun z hz => h z (by simp [hz])
  have hy := h y (by simp)
  simp only [keysFrom, mapFind]
  by_cases e : y = x
  ·subst e
   have h0 : placeIx (y :: t) y = 0 := by unfold placeIx; simp [List.findIdx_cons]
   rw [h0, if_pos ((MapKept.bytes_beq _ _).2 rfl), if_neg (by simp)]
   rfl
  ·have hk : (keyT x == keyT y) = false := by
    cases hb : (keyT x == keyT y) with
    | false => rfl
    | true => exact absurd (keyT_inj hx hy ((MapKept.bytes_beq _ _).1 hb)).symm e
   have h1 : placeIx (y :: t) x = placeIx t x + 1 := by unfold placeIx; simp [List.findIdx_cons, e]
   rw [hk, ih, h1]
   simp only [List.length_cons, Nat.add_right_cancel_iff, Bool.false_eq_true, if_false]
   rw [show k + 1 + placeIx t x = k + (placeIx t x + 1) by omega]
theorem find_key {x : List Int} (hx : low x) {l : List (List Int)} (h : ∀ y ∈ l, low y) : mapFind (keysOf l) (keyT x) = if placeIx l x = l.length then none else some (placeIx l x : Int) := by
 have := find_keys hx 0 l h
 rw [Nat.zero_add] at this
 exact this
def setRows (l : List (List Int)) : List (List AV) := l.map fun x => [ints x]
theorem setRows_app (l : List (List Int)) (x : List Int) : setRows (l ++ [x]) = setRows l ++ [[ints x]] := by simp [setRows]
theorem setRows_len (l : List (List Int)) : (setRows l).length = l.length := by simp [setRows]
theorem setRows_at {l : List (List Int)} {k : Nat} (h : k < l.length) : (setRows l)[k]? = some [ints l[k]] := by simp [setRows, h]
theorem cleans_sets (l : List (List Int)) : (setRows l).all cleans = true := by
 rw [List.all_eq_true]
 intro x hx
 obtain ⟨r, _, rfl⟩ := List.mem_map.1 hx
 rfl
theorem closed_low {n : Nf} (h : n.st.length ≤ 2000) (l : List Int) : low (closed n l) := by
 intro x hx
 obtain ⟨i, rfl, hr⟩ := closed_mem.1 hx
 have := hr.lt
 omega
end Go.Proofs.YtfdgbghlanbddaaDoor.Av
set_option linter.unusedVariables false
set_option linter.unusedSimpArgs false
set_option maxRecDepth 8000
namespace Go.Proofs.YtfdgbghlanbddaaDoor.Av
open Go.RowKit Go.Proofs
theorem place_walk {w0 : World} {es : List Ent} {im sm iS sS iP sP : Nat} (sets : List (List Int)) (x : List Int) (hm : at_ es im = some (.row sm 109 2 [[.own iS sS, .mp iP sP]])) (hS : at_ es iS = some (.row sS 48 1 (setRows sets))) (hP : at_ es iP = some (.mp sP (keysOf sets)))
  (hne : im ≠ iS ∧ iS ≠ iP ∧ im ≠ iP) (hx : low x) (hl : ∀ y ∈ sets, low y) (hsl : sets.length ≤ 1000000) (hxl : x.length ≤ 1000000) :
  ACalls Tryd.prog w0 89 [.ptr im sm 0 0, ints x] es fun v es' => v = .int .i64 (placeIx sets x : Int) ∧ ∃ s', es' = if placeIx sets x = sets.length then setAt (setAt (setAt es iP (.mp sP (keysOf (sets ++ [x])))) iS (.row s' 48 1 (setRows (sets ++ [x])))) im (.row sm 109 2 [[.own iS s', .mp iP sP]]) else es := by
 have hfk := find_key hx hl
 refine calls2 (N := 43) Tryd.func89 rfl rfl (by decide) ?_
 refine w_seq ?_
 refine w_region ?_
 refine l_cons rfl (p_assign ?_)
 refine l_nil ?_
 refine k_seq_normal ?_
 refine w_seq ?_
 refine w_region ?_
 refine l_cons rfl (p_move ?_)
 refine l_cons rfl (p_callr en_123 (key_walk x hxl) ?_)
 refine l_cons rfl (p_assign ?_)
 refine l_nil ?_
 refine k_seq_normal ?_
 refine w_seq ?_
 refine w_region ?_
 refine l_cons rfl (p_move ?_)
 skip
 first | refine l_cons rfl (p_ncp ?_) | refine l_cons rfl (p_ncf ?_)
 refine l_cons rfl (p_fap fa_109_1 ?_)
 refine l_cons rfl (p_loadp ty_107 (a := .mp iP sP) ?_)
 refine l_cons rfl (p_move ?_)
 refine l_cons rfl (p_lookup (key := keyT x) mp_107 ?_)
 refine l_cons rfl (p_move ?_)
 refine l_cons rfl (p_extract ?_ (hl := Nat.le_of_ble_eq_true rfl))
 refine l_cons rfl (p_extract ?_ (hl := Nat.le_of_ble_eq_true rfl))
 refine l_cons rfl (p_assign ?_)
 refine l_cons rfl (p_assign ?_)
 refine l_nil ?_
 refine k_seq_normal ?_
 refine w_seq ?_
 refine w_seq ?_
 refine w_region ?_
 refine l_cons rfl (p_move ?_)
 refine l_cons rfl (p_not ?_)
 refine l_nil ?_
 refine k_seq_normal ?_
 refine w_b (fun h1 => ?_) (fun h1 => ?_)
 ·skip
  have h1' := h1; (try simp only [decide_eq_true_eq, decide_eq_false_iff_not, Bool.not_eq_true', Bool.not_false, Bool.not_true, Bool.not_eq_false'] at h1')
  have hnew : placeIx sets x = sets.length := by
   refine Classical.byContradiction fun hn => ?_
   rw [hfk, if_neg hn] at h1
   simp at h1
  have hnone : mapFind (keysOf sets) (keyT x) = none := by rw [hfk, if_pos hnew]
  refine w_seq ?_
  refine w_region ?_
  refine l_cons rfl (p_move ?_)
  first | refine l_cons rfl (p_ncp ?_) | refine l_cons rfl (p_ncf ?_)
  refine l_cons rfl (p_fap fa_109_0 ?_)
  refine l_cons rfl (p_loadp ty_59 (a := .own iS sS) ?_)
  refine l_cons rfl (p_leno sl_59 (a := .int .i64 (sets.length : Int)) ?_ (ha := by rw [setRows_len]))
  refine l_cons rfl (p_assign ?_)
  refine l_nil ?_
  refine k_seq_normal ?_
  refine w_seq ?_
  refine w_region ?_
  refine l_cons rfl (p_move ?_)
  first | refine l_cons rfl (p_ncp ?_) | refine l_cons rfl (p_ncf ?_)
  refine l_cons rfl (p_fap fa_109_1 ?_)
  refine l_cons rfl (p_loadp ty_107 (a := .mp iP sP) ?_)
  refine l_cons rfl (p_move ?_)
  refine l_cons rfl (p_move ?_)
  refine l_cons rfl (p_mapInsert mp_107 hnone ?_)
  have hP1 : at_ (setAt es iP (.mp sP (keysOf sets ++ [(keyT x, (sets.length : Int))]))) iP = some _ := at_setAt_same _ hP
  have hS1 : at_ (setAt es iP (.mp sP (keysOf sets ++ [(keyT x, (sets.length : Int))]))) iS = some _ := (at_setAt_ne _ hne.2.1).trans hS
  have hm1 : at_ (setAt es iP (.mp sP (keysOf sets ++ [(keyT x, (sets.length : Int))]))) im = some _ := (at_setAt_ne _ hne.2.2).trans hm
  refine l_nil ?_
  refine k_seq_normal ?_
  refine w_region ?_
  refine l_cons rfl (p_move ?_)
  refine l_cons rfl (p_move ?_)
  first | refine l_cons rfl (p_ncp ?_) | refine l_cons rfl (p_ncf ?_)
  refine l_cons rfl (p_fap fa_109_0 ?_)
  refine l_cons rfl (p_loadp ty_59 (a := .own iS sS) ?_)
  refine l_cons rfl (p_move ?_)
  refine l_cons rfl (p_buildList sl_59 ze_48 (rows := [[ints x]]) ?_ (hr := rfl))
  refine l_cons rfl (p_append sl_59 by_48 ze_48 (fun s39 => ?_) (hb := by simp only [setRows_len, List.length_cons, List.length_nil, most]; omega))
  have hm2 : at_ (setAt (setAt es iP (.mp sP (keysOf sets ++ [(keyT x, (sets.length : Int))]))) iS (.row s39 48 1 (setRows sets ++ [[ints x]]))) im = some _ := (at_setAt_ne _ hne.1).trans hm1
  first | refine l_cons rfl (p_ncp ?_) | refine l_cons rfl (p_ncf ?_)
  refine l_cons rfl (p_fap fa_109_0 ?_)
  refine l_cons rfl (p_store ty_59 (r' := [.own iS s39, .mp iP sP]) ?_ (hl := Nat.le_of_ble_eq_true rfl) (hr' := rfl))
  refine l_nil ?_
  refine k_seq_normal ?_
  refine w_seq ?_
  refine w_region ?_
  refine l_cons rfl (p_move ?_)
  refine l_cons rfl (p_assign ?_)
  refine l_nil ?_
  refine k_seq_normal ?_
  refine w_ret ?_
  first
  | exact ret1 rfl (by simp only [ev_tmp, ev_const, ev_func, ofConst_int, ofConst_bool, ofConst_str, ofConst_nil, upd_apply, Nat.reduceEqDiff, ↓reduceIte] <;> exact rfl) (Sub.refl _) ⟨by rw [hnew], _, by rw [if_pos hnew, keysOf_app, setRows_app]⟩
  | exact ret1 rfl (by simp only [ev_tmp, ev_const, ev_func, ofConst_int, ofConst_bool, ofConst_str, ofConst_nil, upd_apply, Nat.reduceEqDiff, ↓reduceIte] <;> exact rfl) (Sub.refl _) ⟨by rw [hsome]; rfl, 0, by rw [if_neg hold]⟩
 ·skip
  have h1' := h1; (try simp only [decide_eq_true_eq, decide_eq_false_iff_not, Bool.not_eq_true', Bool.not_false, Bool.not_true, Bool.not_eq_false'] at h1')
  have hold : ¬ placeIx sets x = sets.length := by
   intro hn
   rw [hfk, if_pos hn] at h1
   simp at h1
  have hsome : (mapFind (keysOf sets) (keyT x)).getD 0 = (placeIx sets x : Int) := by rw [hfk, if_neg hold]; rfl
  refine w_skip ?_
  refine k_seq_normal ?_
  refine w_seq ?_
  refine w_region ?_
  refine l_cons rfl (p_move ?_)
  refine l_cons rfl (p_assign ?_)
  refine l_nil ?_
  refine k_seq_normal ?_
  refine w_ret ?_
  first
  | exact ret1 rfl (by simp only [ev_tmp, ev_const, ev_func, ofConst_int, ofConst_bool, ofConst_str, ofConst_nil, upd_apply, Nat.reduceEqDiff, ↓reduceIte] <;> exact rfl) (Sub.refl _) ⟨by rw [hnew], _, by rw [if_pos hnew, keysOf_app, setRows_app]⟩
  | exact ret1 rfl (by simp only [ev_tmp, ev_const, ev_func, ofConst_int, ofConst_bool, ofConst_str, ofConst_nil, upd_apply, Nat.reduceEqDiff, ↓reduceIte] <;> exact rfl) (Sub.refl _) ⟨by rw [hsome]; rfl, 0, by rw [if_neg hold]⟩
end Go.Proofs.YtfdgbghlanbddaaDoor.Av
set_option linter.unusedVariables false
set_option linter.unusedSimpArgs false
set_option maxRecDepth 8000
namespace Go.Proofs.YtfdgbghlanbddaaDoor.Av
open Go.RowKit Go.Proofs
/-! ### a machine's cells -/
def dRow (p : Nat → Int) (x y : AV) : List AV := byteT p ++ [x, y]
variable {p q : Nat → Int} {x y z w : AV}
theorem dRow_len : (dRow p x y).length = 258 := by simp [dRow, byteT_len]
theorem dRow_256 : (dRow p x y)[256]? = some x := by
 unfold dRow
 rw [List.getElem?_append_right (by rw [byteT_len]; exact Nat.le_refl _), byteT_len]
 rfl
theorem dRow_257 : (dRow p x y)[257]? = some y := by
 unfold dRow
 rw [List.getElem?_append_right (by rw [byteT_len]; omega), byteT_len]
 rfl
theorem dRow_load {k : Nat} (hk : k < 256) : loadAV false 1 (dRow p x y) k = .int .u8 (p k) := by
 have h : (dRow p x y)[k]? = (byteT p)[k]? := List.getElem?_append_left (by rw [byteT_len]; exact hk)
 have h2 := byteT_load (p := p) hk
 simp only [loadAV, List.getD, Bool.false_eq_true, if_false] at h2 ⊢
 rw [h]
 exact h2
theorem dRow_load256 : loadAV false 1 (dRow p x y) 256 = x := by
 simp only [loadAV, List.getD, Bool.false_eq_true, if_false]
 rw [dRow_256]; rfl
theorem dRow_load257 : loadAV false 1 (dRow p x y) 257 = y := by
 simp only [loadAV, List.getD, Bool.false_eq_true, if_false]
 rw [dRow_257]; rfl
theorem dRow_all : loadAV true 258 (dRow p x y) 0 = .agg (dRow p x y) := by
 simp only [loadAV, if_true, List.drop_zero]
 rw [List.take_of_length_le (by rw [dRow_len]; exact Nat.le_refl _)]
theorem dRow_cls : loadAV true 256 (dRow p x y) 0 = .agg (byteT p) := by
 simp only [loadAV, if_true, List.drop_zero]
 unfold dRow
 rw [List.take_left' (by rw [byteT_len])]
theorem dRow_take : (dRow p x y).take 256 = byteT p := by
 unfold dRow
 rw [List.take_left' (by rw [byteT_len])]
theorem dRow_drop (k : Nat) : (dRow p x y).drop (256 + k) = [x, y].drop k := by
 unfold dRow
 rw [List.drop_append, byteT_len, List.drop_of_length_le (by rw [byteT_len]; omega)]
 simp
theorem dRow_put256 : (dRow p x y).take 256 ++ [z] ++ (dRow p x y).drop (256 + 1) = dRow p z y := by
 rw [dRow_take, dRow_drop]
 simp [dRow]
theorem dRow_put257 : (dRow p x y).take 257 ++ [z] ++ (dRow p x y).drop (257 + 1) = dRow p x z := by
 have h : (dRow p x y).take 257 = byteT p ++ [x] := by
  rw [show (257 : Nat) = 256 + 1 from rfl, List.take_add_one, dRow_take, dRow_256]; rfl
 rw [h, show (257 + 1 : Nat) = 256 + 2 from rfl, dRow_drop]
 simp [dRow]
theorem dRow_putCls : (dRow q x y).take 0 ++ byteT p ++ (dRow q x y).drop (0 + 256) = dRow p x y := by
 rw [show (0 + 256 : Nat) = 256 + 0 from rfl, dRow_drop]
 simp [dRow]
theorem dRow_putAll : (dRow q z w).take 0 ++ dRow p x y ++ (dRow q z w).drop (0 + 258) = dRow p x y := by
 rw [show (0 + 258 : Nat) = 256 + 2 from rfl, dRow_drop]
 simp
theorem dRow_set256 : (dRow p x y).set 256 z = dRow p z y := by
 unfold dRow
 rw [List.set_append_right _ _ (by rw [byteT_len]; exact Nat.le_refl _), byteT_len]
 rfl
theorem dRow_set257 : (dRow p x y).set 257 z = dRow p x z := by
 unfold dRow
 rw [List.set_append_right _ _ (by rw [byteT_len]; omega), byteT_len]
 rfl
theorem ze_d : zeroAVs Tryd.prog 62 = some (dRow (fun _ => 0) .nil .nil) := by
 rw [ze_62]
 unfold dRow
 rw [byteT_none fun _ _ => rfl]
theorem dRow_cells (d : Df) : d.cells = dRow (fun i => (d.cls i : Int)) (.list 1 (d.next.map fun r => [ints r])) (.list 1 (d.ends.map fun b => [.bool b])) := rfl
theorem zero_cells : (dRow (fun _ => 0) .nil .nil).map (nilTo 1) = zeroD.cells := by
 unfold dRow
 rw [List.map_append]
 have : (byteT fun _ => 0).map (nilTo 1) = byteT fun _ => 0 := by
  unfold byteT
  rw [List.map_map]
  rfl
 rw [this]
 rfl
theorem rep_zero {c : Core} {m : Option (List Ent)} {v : Value} (h : Rep c m (.agg (dRow (fun _ => 0) .nil .nil)) v) : Rep c m (.agg zeroD.cells) v := by
 rw [← zero_cells]
 exact rep_aggNil 1 h
/-! ### the maker's rows -/
def mkE (T : List Ent) (sS sM sP : Nat) (sets : List (List Int)) : List Ent := .row sS 48 1 (setRows sets) :: .row sM 109 2 [[.own (T.length + 2) sS, .mp T.length sP]] :: .mp sP (keysOf sets) :: T
theorem place_mk {w0 : World} {T : List Ent} {sS sM sP : Nat} (sets : List (List Int)) (x : List Int) (hx : low x) (hl : ∀ y ∈ sets, low y) (hsl : sets.length ≤ 1000000) (hxl : x.length ≤ 1000000) :
  ACalls Tryd.prog w0 89 [.ptr (T.length + 1) sM 0 0, ints x] (mkE T sS sM sP sets) fun v es' => v = .int .i64 (placeIx sets x : Int) ∧ ∃ s', es' = mkE T s' sM sP (placeL sets x) := by
 have hm : Loc (mkE T sS sM sP sets) (T.length + 1) _ _ := loc_miss loc_hit
 have hS : Loc (mkE T sS sM sP sets) (T.length + 2) _ _ := loc_hit
 have hP : Loc (mkE T sS sM sP sets) T.length _ _ := loc_miss (loc_miss loc_hit)
 refine (place_walk sets x hm.1 hS.1 hP.1 ⟨by omega, by omega, by omega⟩ hx hl hsl hxl).mono ?_
 rintro v es' ⟨h1, s', h2⟩
 refine ⟨h1, ?_⟩
 by_cases hn : placeIx sets x = sets.length
 ·rw [if_pos hn, hP.2] at h2
  refine ⟨s', ?_⟩
  rw [h2, placeL_new hn]
  have hS2 : Loc (Ent.row sS 48 1 (setRows sets) :: .row sM 109 2 [[.own (T.length + 2) sS, .mp T.length sP]] :: .mp sP (keysOf (sets ++ [x])) :: T) (T.length + 2) _ _ := loc_hit
  rw [hS2.2]
  have hm2 : Loc (Ent.row s' 48 1 (setRows (sets ++ [x])) :: .row sM 109 2 [[.own (T.length + 2) sS, .mp T.length sP]] :: .mp sP (keysOf (sets ++ [x])) :: T) (T.length + 1) _ _ := loc_miss loc_hit
  rw [hm2.2]
  rfl
 ·rw [if_neg hn] at h2
  exact ⟨sS, by rw [h2, placeL_old hn]⟩
theorem place_mk1 {w0 : World} {X : Ent} {T : List Ent} {sS sM sP : Nat} (sets : List (List Int)) (x : List Int) (hx : low x) (hl : ∀ y ∈ sets, low y) (hsl : sets.length ≤ 1000000) (hxl : x.length ≤ 1000000) :
  ACalls Tryd.prog w0 89 [.ptr (T.length + 1) sM 0 0, ints x] (X :: mkE T sS sM sP sets) fun v es' => v = .int .i64 (placeIx sets x : Int) ∧ ∃ s', es' = X :: mkE T s' sM sP (placeL sets x) := by
 have hm : Loc (X :: mkE T sS sM sP sets) (T.length + 1) _ _ := loc_miss (loc_miss loc_hit)
 have hS : Loc (X :: mkE T sS sM sP sets) (T.length + 2) _ _ := loc_miss loc_hit
 have hP : Loc (X :: mkE T sS sM sP sets) T.length _ _ := loc_miss (loc_miss (loc_miss loc_hit))
 refine (place_walk sets x hm.1 hS.1 hP.1 ⟨by omega, by omega, by omega⟩ hx hl hsl hxl).mono ?_
 rintro v es' ⟨h1, s', h2⟩
 refine ⟨h1, ?_⟩
 by_cases hn : placeIx sets x = sets.length
 ·rw [if_pos hn, hP.2] at h2
  refine ⟨s', ?_⟩
  rw [h2, placeL_new hn]
  have hS2 : Loc (X :: Ent.row sS 48 1 (setRows sets) :: .row sM 109 2 [[.own (T.length + 2) sS, .mp T.length sP]] :: .mp sP (keysOf (sets ++ [x])) :: T) (T.length + 2) _ _ := loc_miss loc_hit
  rw [hS2.2]
  have hm2 : Loc (X :: Ent.row s' 48 1 (setRows (sets ++ [x])) :: .row sM 109 2 [[.own (T.length + 2) sS, .mp T.length sP]] :: .mp sP (keysOf (sets ++ [x])) :: T) (T.length + 1) _ _ := loc_miss (loc_miss loc_hit)
  rw [hm2.2]
  rfl
 ·rw [if_neg hn] at h2
  exact ⟨sS, by rw [h2, placeL_old hn]⟩
end Go.Proofs.YtfdgbghlanbddaaDoor.Av
set_option linter.unusedVariables false
set_option linter.unusedSimpArgs false
set_option maxRecDepth 8000
namespace Go.Proofs.YtfdgbghlanbddaaDoor.Av
open Go.RowKit Go.Proofs
theorem subM (a b c d e f g h : Ent) (es : List Ent) : Sub es (a :: b :: c :: d :: e :: f :: g :: h :: es) := (sub3 f g h es).trans (sub5 a b c d e _)
theorem setRows_get {l : List (List Int)} {k : Nat} {x : List Int} (h : l[k]? = some x) : (setRows l)[k]? = some [ints x] := by simp [setRows, h]
theorem cleans_i64 (l : List Int) : (l.map fun n => [AV.int .i64 n]).all cleans = true := by
 rw [List.all_eq_true]
 intro x hx
 obtain ⟨r, _, rfl⟩ := List.mem_map.1 hx
 rfl
theorem cleans_bool (l : List Bool) : (l.map fun b => [AV.bool b]).all cleans = true := by
 rw [List.all_eq_true]
 intro x hx
 obtain ⟨r, _, rfl⟩ := List.mem_map.1 hx
 rfl
theorem rowTo_at {n : Nf} {fs : List Int} {sets : List (List Int)} {x : List Int} {i j : Nat} (hi : i < sets.length) (hj : j ≤ fs.length) : (rowTo n fs sets x j).1[i]? = some sets[i] := by
 obtain ⟨⟨t, ht⟩, _⟩ := rowTo_prefix (n := n) (fs := fs) (sets := sets) (x := x) (Nat.zero_le j) hj
 rw [ht, rowTo_zero, List.getElem?_append_left hi, List.getElem?_eq_getElem hi]
theorem rowTo_low {n : Nf} {fs : List Int} {sets : List (List Int)} {x : List Int} {j : Nat} (hst : n.st.length ≤ 2000) (h : ∀ y ∈ sets, ∃ l, y = closed n l) (hj : j ≤ fs.length) : ∀ y ∈ (rowTo n fs sets x j).1, low y := by
 intro y hy
 obtain ⟨l, rfl⟩ := rowTo_closed h hj y hy
 exact closed_low hst l
theorem bfs_short {n : Nf} {fs : List Int} (k : Nat) : ∀ y ∈ (bfs n fs k).sets, y.length ≤ n.st.length := by
 intro y hy
 obtain ⟨l, rfl⟩ := bfs_closed k y hy
 exact closed_len n l
theorem make_form {n : Nf} {mx : Int} (h : mayN n = false) : makeN n mx = (zeroD, 3) := by
 unfold makeN
 rw [if_neg (by rw [h]; decide)]
theorem make_budget {n : Nf} {mx : Int} (h : mayN n = true) {i : Nat} (hi : max mx 0 < ((bfs n n.firsts i).sets.length : Int)) : makeN n mx = (zeroD, 7) := by
 unfold makeN
 rw [if_pos h, if_pos]
 exact bfs_much (i := i) (by omega)
theorem make_done {n : Nf} {mx : Int} (h : mayN n = true) {i : Nat} (h1 : (bfs n n.firsts i).sets.length ≤ i) (h2 : ((bfs n n.firsts i).sets.length : Int) ≤ max mx 0) : makeN n mx = (⟨clsOf n.al, (bfs n n.firsts i).next, (bfs n n.firsts i).ends⟩, 0) := by
 have h3 := bfs_fin (M := (max mx 0).toNat) h1 (by omega)
 unfold makeN
 rw [if_pos h, h3, if_neg (by omega)]
theorem make_walk {w0 : World} {es : List Ent} (n : Nf) (mx : Int) (hs : ∀ s ∈ n.sets, s.ok) (hM : mx ≤ 100000) : ACalls Tryd.prog w0 47 [n.av, .int .i64 mx] es fun v es' => v = .tup [.agg (makeN n mx).1.cells, .int .i64 (makeN n mx).2] ∧ es' = es := by
 unfold Nf.av
 have hrl := repsTo_len n.al 256
 have hfl := n.firsts_len
 refine calls2 (N := 120) Tryd.func47 rfl rfl (by decide) ?_
 refine w_seq ?_
 refine w_region ?_
 refine l_cons rfl (p_box fun s2 => ?_)
 refine l_cons rfl (p_alloc ze_d fun s4 => ?_)
 rw [dRow_len]
 refine l_cons rfl (p_assign ?_)
 refine l_nil ?_
 refine k_seq_normal ?_
 refine w_seq ?_
 refine w_seq ?_
 refine w_region ?_
 refine l_cons rfl (p_loadp ty_36 ?_)
 refine l_cons rfl (p_callr en_30 (may n) ?_)
 refine l_cons rfl (p_not ?_)
 refine l_nil ?_
 refine k_seq_normal ?_
 refine w_b (fun h1 => ?_) (fun h1 => ?_)
 ·skip
  have h1' := h1; (try simp only [decide_eq_true_eq, decide_eq_false_iff_not, Bool.not_eq_true', Bool.not_false, Bool.not_true, Bool.not_eq_false'] at h1')
  refine w_seq ?_
  refine w_region ?_
  refine l_cons rfl (p_build ze_d pl_62 ?_)
  refine l_cons rfl (p_store ty_62 (r' := dRow (fun _ => 0) .nil .nil) ?_ (hl := by rw [dRow_len]; exact Nat.le_refl _) (hn := dRow_len) (hr' := dRow_putAll))
  refine l_cons rfl (p_assign ?_)
  refine l_nil ?_
  refine k_seq_normal ?_
  refine w_ret ?_
  refine k_seq_ret ?_
  rw [make_form (by simpa using h1')]
  exact retctw rfl ty_62 (by first | exact sub2 _ _ _ | exact sub3 _ _ _ _ | exact subM _ _ _ _ _ _ _ _ _) (fun _ _ _ => rep_zero) ⟨rfl, rfl⟩ (hl := by rw [dRow_len]; exact Nat.le_refl _) (ha := dRow_all)
 ·skip
  have h1' := h1; (try simp only [decide_eq_true_eq, decide_eq_false_iff_not, Bool.not_eq_true', Bool.not_false, Bool.not_true, Bool.not_eq_false'] at h1')
  refine w_skip ?_
  refine k_seq_normal ?_
  refine w_seq ?_
  have hst := may_le h1'
  refine w_region ?_
  refine l_cons rfl (p_alloc ze_d fun s6 => ?_)
  rw [dRow_len]
  refine l_nil ?_
  refine k_seq_normal ?_
  refine w_seq ?_
  refine w_region ?_
  refine l_cons rfl (p_assign ?_)
  refine l_nil ?_
  refine k_seq_normal ?_
  refine w_seq ?_
  refine w_region ?_
  refine l_cons rfl (p_loadp ty_36 ?_)
  refine l_cons rfl (p_callr en_49 (subClasses n hs (by omega)) ?_)
  refine l_cons rfl (p_move ?_)
  refine l_cons rfl (p_extract ?_ (hl := Nat.le_of_ble_eq_true rfl))
  refine l_cons rfl (p_extract ?_ (hl := Nat.le_of_ble_eq_true rfl))
  refine l_cons rfl (p_fap fa_62_0 ?_)
  refine l_cons rfl (p_store ty_58 (r' := dRow (fun i => (clsOf n.al i : Int)) .nil .nil) ?_ (hl := by rw [dRow_len]; omega) (hn := byteT_len _) (hr' := dRow_putCls))
  refine l_cons rfl (p_assign ?_)
  refine l_nil ?_
  refine k_seq_normal ?_
  refine w_seq ?_
  refine w_adoptCell' (i := 256) 48 1 loc_hit dRow_256 fun sN => ?_
  rw [dRow_set256]
  refine w_adoptCell' (i := 257) 4 1 (loc_miss loc_hit) dRow_257 fun sE => ?_
  rw [dRow_set257]
  refine w_region ?_
  refine l_cons rfl (p_move ?_)
  refine l_cons rfl (p_makeSlice sl_22 by_5 ze_5 fun s8 => ?_)
  refine l_cons rfl (p_assign ?_)
  refine l_nil ?_
  refine k_seq_normal ?_
  refine w_seq ?_
  refine w_seq ?_
  refine w_region ?_
  refine l_cons rfl (p_assign ?_)
  refine l_nil ?_
  refine k_seq_normal ?_
  refine w_block ?_
  refine w_loop (fun m f es' => ∃ k, m = k ∧ k ≤ 256 ∧ Sub (.row s8 5 1 ((firstTo n.al k).map fun n => [AV.int .u8 n]) :: (.row sE 4 1 [] :: .row sN 48 1 [] :: .row s6 62 258 [dRow (fun i => (clsOf n.al i : Int)) (.own (es.length + 3) sN) (.own (es.length + 4) sE)] :: .row s4 62 258 [dRow (fun _ => 0) .nil .nil] :: .row s2 36 3 [n.cells] :: es)) es' ∧ Knows f [(1, .int .i64 mx), (2, .ptr es.length s2 0 0), (4, .ptr (es.length + 1) s4 0 0), (6, .ptr (es.length + 2) s6 0 0), (8, .own (es.length + 5) s8), (9, .int .i64 ((k : Int) - 1))]) (256) (⟨256, rfl, Nat.le_refl _, by rw [firstTo_top, List.map_replicate]; simp only [Int.toNat_natCast]; exact Sub.refl _, by simp only [Knows, put, upd_apply, Nat.reduceEqDiff, ↓reduceIte, and_true, true_and, eq_self] <;> and_intros <;> rfl⟩) ?_
  rintro m f es' ⟨k, rfl, hk1, hsub, hk⟩
  refine w_pins _ hsub (hk) ?_
  simp only [pins]
  refine w_seq ?_
  refine w_seq ?_
  refine w_region ?_
  refine l_cons rfl (p_move ?_)
  refine l_cons rfl (p_cmp ?_)
  refine l_nil ?_
  refine k_seq_normal ?_
  refine w_b (fun h2 => ?_) (fun h2 => ?_)
  ·skip
   have h2' := h2; (try simp only [decide_eq_true_eq, decide_eq_false_iff_not, Bool.not_eq_true', Bool.not_false, Bool.not_true, Bool.not_eq_false'] at h2')
   refine w_skip ?_
   refine k_seq_normal ?_
   refine w_seq ?_
   refine w_block ?_
   obtain ⟨b, rfl⟩ : ∃ b, m = b + 1 := ⟨m - 1, by omega⟩
   rw [show (((b + 1 : Nat) : Int) - 1) = (b : Int) by omega]
   have hcb := cls_lt' n.al (show b < 256 by omega)
   refine w_region ?_
   refine l_cons rfl (p_move ?_)
   refine l_cons rfl (p_move ?_)
   refine l_cons rfl (p_fap fa_62_0 ?_)
   refine l_cons rfl (p_ixa ar_58 (a := .ptr (es.length + 2) s6 0 b) ?_ (h0 := by omega) (h1 := by omega) (ho := by simp))
   refine l_cons rfl (p_loadp ty_5 (a := .int .u8 (clsOf n.al b : Int)) ?_ (hl := by rw [dRow_len]; omega) (ha := dRow_load (p := (fun i => (clsOf n.al i : Int))) (k := b) (by omega)))
   refine l_cons rfl (p_move ?_)
   refine l_cons rfl (p_conv in_3 in_5 ?_ (hb := wrap8 (n := (b : Int)) (by omega) (by omega)))
   refine l_cons rfl (p_ixo sl_22 (a := .ptr (es.length + 5) s8 (clsOf n.al b) 0) ?_ (h0 := by omega) (h1 := by simp only [List.length_map, firstTo_len]; omega))
   refine l_cons rfl (p_store ty_5 (r' := [.int .u8 (b : Int)]) ?_ (hr := rowU8 (by rw [firstTo_len]; exact hcb)) (hl := Nat.le_refl 1) (hr' := rfl))
   refine l_nil ?_
   refine k_blk_normal ?_
   refine k_seq_normal ?_
   refine w_region ?_
   refine l_cons rfl (p_move ?_)
   refine l_cons rfl (p_arith ?_)
   refine l_cons rfl (p_assign ?_)
   refine l_nil ?_
   refine k_seq_normal ?_
   exact ⟨b, by omega, b, rfl, by omega, by rw [← firstTo_step n.al (show b < 256 by omega), List.map_set]; exact Sub.refl _, by simp only [Knows, put, upd_apply, Nat.reduceEqDiff, ↓reduceIte, and_true, true_and, eq_self] <;> and_intros <;> rfl⟩
  ·skip
   have h2' := h2; (try simp only [decide_eq_true_eq, decide_eq_false_iff_not, Bool.not_eq_true', Bool.not_false, Bool.not_true, Bool.not_eq_false'] at h2')
   refine w_exit ?_
   refine k_seq_exit ?_
   refine k_seq_exit ?_
   refine k_blk_here ?_
   refine k_seq_normal ?_
   refine w_seq ?_
   obtain rfl : m = 0 := by omega
   rw [firstTo_all n.eqv, show (repsTo n.al 256).map Int.ofNat = n.firsts from rfl]
   refine w_freezeTop 8 ?_ (hclean := cleans_u8 _)
   refine w_region ?_
   refine l_cons rfl (p_makeMap fun s39 => ?_)
   refine l_cons rfl (p_build ze_109 pl_109 ?_)
   refine l_cons rfl (p_box fun s41 => ?_)
   refine l_cons rfl (p_assign ?_)
   refine l_nil ?_
   refine k_seq_normal ?_
   refine w_seq ?_
   refine w_adoptCell' (i := 0) 48 1 loc_hit rfl fun sS => ?_
   refine w_region ?_
   refine l_cons rfl (p_move ?_)
   refine l_cons rfl (p_loadp ty_36 ?_)
   refine l_cons rfl (p_fap fa_36_1 ?_)
   refine l_cons rfl (p_loadp ty_3 ?_)
   refine l_cons rfl (p_buildList sl_48 ze_3 ?_)
   refine l_cons rfl (p_callr en_78 (closed_walk n [n.start] (by omega)) ?_)
   refine l_cons rfl (p_call en_89 ((place_mk (T := (.row sE 4 1 [] :: .row sN 48 1 [] :: .row s6 62 258 [dRow (fun i => (clsOf n.al i : Int)) (.own (es.length + 3) sN) (.own (es.length + 4) sE)] :: .row s4 62 258 [dRow (fun _ => 0) .nil .nil] :: .row s2 36 3 [n.cells] :: es)) (sS := sS) [] (closed n [n.start]) (closed_low hst _) (fun y hy => absurd hy List.not_mem_nil) (Nat.zero_le _) (by have := closed_len n [n.start]; omega)).mono ?_))
   rintro _ es1 ⟨rfl, sS, rfl⟩
   refine l_nil ?_
   refine k_seq_normal ?_
   refine w_seq ?_
   refine w_seq ?_
   refine w_region ?_
   refine l_cons rfl (p_assign ?_)
   refine l_nil ?_
   refine k_seq_normal ?_
   refine w_block ?_
   refine w_loop (fun m f es' => ∃ i sE sN sS, m = (max mx 0).toNat + 1 - i ∧ i ≤ (bfs n n.firsts i).sets.length ∧ i ≤ (max mx 0).toNat ∧ Sub (.row sS 48 1 (setRows (bfs n n.firsts i).sets) :: .row s41 109 2 [[.own (es.length + 7) sS, .mp (es.length + 5) s39]] :: .mp s39 (keysOf (bfs n n.firsts i).sets) :: .row sE 4 1 ((bfs n n.firsts i).ends.map fun b => [AV.bool b]) :: .row sN 48 1 (setRows (bfs n n.firsts i).next) :: .row s6 62 258 [dRow (fun i => (clsOf n.al i : Int)) (.own (es.length + 3) sN) (.own (es.length + 4) sE)] :: .row s4 62 258 [dRow (fun _ => 0) .nil .nil] :: .row s2 36 3 [n.cells] :: es) es' ∧ Knows f [(1, .int .i64 mx), (2, .ptr es.length s2 0 0), (4, .ptr (es.length + 1) s4 0 0), (6, .ptr (es.length + 2) s6 0 0), (8, .list 1 (n.firsts.map fun n => [.int .u8 n])), (10, .ptr (es.length + 6) s41 0 0), (11, .int .i64 (i : Int))]) ((max mx 0).toNat + 1) (⟨0, sE, sN, sS, rfl, Nat.zero_le _, Nat.zero_le _, Sub.refl _, by simp only [Knows, put, upd_apply, Nat.reduceEqDiff, ↓reduceIte, and_true, true_and, eq_self] <;> and_intros <;> rfl⟩) ?_
   rintro m f es' ⟨i, sE, sN, sS, rfl, hi1, hi2, hsub, hk⟩
   have hbl := bfs_lens (n := n) (fs := n.firsts) i
   refine w_pins _ hsub (hk) ?_
   simp only [pins]
   refine w_seq ?_
   refine w_seq ?_
   refine w_region ?_
   refine l_cons rfl (p_move ?_)
   refine l_cons rfl (p_move ?_)
   first | refine l_cons rfl (p_ncp ?_) | refine l_cons rfl (p_ncf ?_)
   refine l_cons rfl (p_fap fa_109_0 ?_)
   refine l_cons rfl (p_loadp ty_59 (a := .own (es.length + 7) sS) ?_)
   refine l_cons rfl (p_leno sl_59 (a := .int .i64 ((bfs n n.firsts i).sets.length : Int)) ?_ (ha := by rw [setRows_len]))
   refine l_cons rfl (p_cmp ?_)
   refine l_nil ?_
   refine k_seq_normal ?_
   refine w_b (fun h3 => ?_) (fun h3 => ?_)
   ·skip
    have h3' := h3; (try simp only [decide_eq_true_eq, decide_eq_false_iff_not, Bool.not_eq_true', Bool.not_false, Bool.not_true, Bool.not_eq_false'] at h3')
    refine w_skip ?_
    refine k_seq_normal ?_
    refine w_seq ?_
    refine w_block ?_
    refine w_seq ?_
    refine w_seq ?_
    refine w_region ?_
    refine l_cons rfl (p_move ?_)
    first | refine l_cons rfl (p_ncp ?_) | refine l_cons rfl (p_ncf ?_)
    refine l_cons rfl (p_fap fa_109_0 ?_)
    refine l_cons rfl (p_loadp ty_59 (a := .own (es.length + 7) sS) ?_)
    refine l_cons rfl (p_leno sl_59 (a := .int .i64 ((bfs n n.firsts i).sets.length : Int)) ?_ (ha := by rw [setRows_len]))
    refine l_cons rfl (p_move ?_)
    refine l_cons rfl (p_max ?_)
    refine l_cons rfl (p_cmp ?_)
    refine l_nil ?_
    refine k_seq_normal ?_
    refine w_b (fun h4 => ?_) (fun h4 => ?_)
    ·skip
     have h4' := h4; (try simp only [decide_eq_true_eq, decide_eq_false_iff_not, Bool.not_eq_true', Bool.not_false, Bool.not_true, Bool.not_eq_false'] at h4')
     refine w_seq ?_
     refine w_region ?_
     refine l_cons rfl (p_build ze_d pl_62 ?_)
     refine l_cons rfl (p_store ty_62 (r' := dRow (fun _ => 0) .nil .nil) ?_ (hl := by rw [dRow_len]; exact Nat.le_refl _) (hn := dRow_len) (hr' := dRow_putAll))
     refine l_cons rfl (p_assign ?_)
     refine l_nil ?_
     refine k_seq_normal ?_
     refine w_ret ?_
     refine k_seq_ret ?_
     refine k_blk_ret ?_
     refine k_seq_ret ?_
     refine k_seq_ret ?_
     refine k_blk_ret ?_
     refine k_seq_ret ?_
     rw [make_budget (by simpa using h1') (i := i) (by omega)]
     exact retctw rfl ty_62 (by first | exact sub2 _ _ _ | exact sub3 _ _ _ _ | exact subM _ _ _ _ _ _ _ _ _) (fun _ _ _ => rep_zero) ⟨rfl, rfl⟩ (hl := by rw [dRow_len]; exact Nat.le_refl _) (ha := dRow_all)
    ·skip
     have h4' := h4; (try simp only [decide_eq_true_eq, decide_eq_false_iff_not, Bool.not_eq_true', Bool.not_false, Bool.not_true, Bool.not_eq_false'] at h4')
     refine w_skip ?_
     refine k_seq_normal ?_
     refine w_seq ?_
     refine w_region ?_
     refine l_cons rfl (p_assign ?_)
     refine l_nil ?_
     refine k_seq_normal ?_
     refine w_seq ?_
     refine w_seq ?_
     refine w_adopt 12 3 1 rfl fun s12 => ?_
     simp only [upd_upd]
     refine w_region ?_
     refine l_cons rfl (p_move ?_)
     refine l_cons rfl (p_lenl sl_22 ?_)
     refine l_cons rfl (p_move ?_)
     refine l_nil ?_
     refine k_seq_normal ?_
     refine w_block ?_
     refine w_loop (fun m f es' => ∃ j sS s12, m = n.firsts.length - j ∧ j ≤ n.firsts.length ∧ Sub (.row s12 3 1 ((rowTo n n.firsts (bfs n n.firsts i).sets ((bfs n n.firsts i).sets[i]'(by omega)) j).2.map fun n => [AV.int .i64 n]) :: .row sS 48 1 (setRows (rowTo n n.firsts (bfs n n.firsts i).sets ((bfs n n.firsts i).sets[i]'(by omega)) j).1) :: .row s41 109 2 [[.own (es.length + 7) sS, .mp (es.length + 5) s39]] :: .mp s39 (keysOf (rowTo n n.firsts (bfs n n.firsts i).sets ((bfs n n.firsts i).sets[i]'(by omega)) j).1) :: .row sE 4 1 ((bfs n n.firsts i).ends.map fun b => [AV.bool b]) :: .row sN 48 1 (setRows (bfs n n.firsts i).next) :: .row s6 62 258 [dRow (fun i => (clsOf n.al i : Int)) (.own (es.length + 3) sN) (.own (es.length + 4) sE)] :: .row s4 62 258 [dRow (fun _ => 0) .nil .nil] :: .row s2 36 3 [n.cells] :: es) es' ∧ Knows f [(1, .int .i64 mx), (2, .ptr es.length s2 0 0), (4, .ptr (es.length + 1) s4 0 0), (6, .ptr (es.length + 2) s6 0 0), (8, .list 1 (n.firsts.map fun n => [.int .u8 n])), (10, .ptr (es.length + 6) s41 0 0), (11, .int .i64 (i : Int)), (12, .own (es.length + 8) s12), (67, .list 1 (n.firsts.map fun n => [.int .u8 n])), (68, .int .i64 (n.firsts.length : Int)), (69, .int .i64 (j : Int))]) (n.firsts.length) (⟨0, sS, s12, (Nat.sub_zero _).symm, Nat.zero_le _, by rw [rowTo_zero]; exact Sub.refl _, by simp only [Knows, put, upd_apply, Nat.reduceEqDiff, ↓reduceIte, and_true, true_and, eq_self] <;> and_intros <;> rfl⟩) ?_
     rintro m f es' ⟨j, sS, s12, rfl, hj1, hsub, hk⟩
     have hgx := rowTo_at (n := n) (fs := n.firsts) (x := ((bfs n n.firsts i).sets[i]'(by omega))) (show i < (bfs n n.firsts i).sets.length by omega) hj1
     have hrl2 := rowTo_len2 (n := n) (fs := n.firsts) (sets := (bfs n n.firsts i).sets) (x := ((bfs n n.firsts i).sets[i]'(by omega))) hj1
     have hrc := rowTo_cap (n := n) (fs := n.firsts) (sets := (bfs n n.firsts i).sets) (x := ((bfs n n.firsts i).sets[i]'(by omega))) j hj1
     have hrlow := rowTo_low (fs := n.firsts) hst (bfs_closed (fs := n.firsts) i) hj1 (x := ((bfs n n.firsts i).sets[i]'(by omega)))
     have fsl := bfs_short (n := n) (fs := n.firsts) i
     have hix := (List.getElem?_eq_some_iff.1 hgx).1
     refine w_pins _ hsub (hk) ?_
     simp only [pins]
     refine w_seq ?_
     refine w_region ?_
     refine l_cons rfl (p_cmp ?_)
     refine l_nil ?_
     refine k_seq_normal ?_
     refine w_seq ?_
     refine w_b (fun h5 => ?_) (fun h5 => ?_)
     ·skip
      have h5' := h5; (try simp only [decide_eq_true_eq, decide_eq_false_iff_not, Bool.not_eq_true', Bool.not_false, Bool.not_true, Bool.not_eq_false'] at h5')
      refine w_skip ?_
      refine k_seq_normal ?_
      refine w_seq ?_
      refine w_block ?_
      refine w_seq ?_
      refine w_region ?_
      refine l_cons rfl (p_ixl sl_22 (a := .fptr 1 (n.firsts.map fun n => [.int .u8 n]) j 0) ?_ (h0 := by omega) (h1 := by simp only [List.length_map]; omega))
      refine l_cons rfl (p_loadf ty_5 (a := .int .u8 (n.firsts[j]'(by omega))) ?_ (hr := rowU8 (by omega)) (hl := Nat.le_refl 1) (ha := rfl))
      refine l_cons rfl (p_assign ?_)
      refine l_nil ?_
      refine k_seq_normal ?_
      have hfj := Nf.firsts_mem (List.getElem_mem (show j < n.firsts.length by omega))
      refine w_drawn 14 [6, 8, 9, 11, 12, 13] (fun e => at_ e es.length = some (.row s2 36 3 [n.cells])) mixed (by kernel_rfl) (at_miss _ (at_miss _ (at_miss _ (at_miss _ (at_miss _ (at_miss _ (at_miss _ (at_miss _ (at_hit _ _))))))))) ?_
      refine q1 12 (hg := rfl) (hu := rfl) (h := by rintro f _ hG1; exact p_move ⟨rfl, rfl⟩) (k := ?_)
      refine q1 10 (hg := rfl) (hu := rfl) (h := by rintro f _ hG1; exact p_move ⟨rfl, rfl⟩) (k := ?_)
      refine q1 2 (hg := rfl) (hu := rfl) (h := by rintro f _ hG1; exact p_loadp ty_36 ⟨rfl, rfl⟩) (k := ?_)
      refine q1 10 (hg := rfl) (hu := rfl) (h := by rintro f _ hG1; exact p_move ⟨rfl, rfl⟩) (k := ?_)
      first | refine q1 76 (hg := rfl) (hu := rfl) (h := by rintro f _ hG1; exact p_ncp ⟨rfl, rfl⟩) (k := ?_) | refine q1 76 (hg := rfl) (hu := rfl) (h := by rintro f _ hG1; exact p_ncf ⟨rfl, rfl⟩) (k := ?_)
      refine q1 77 (hg := rfl) (hu := rfl) (h := by rintro f _ hG1; exact p_fap fa_109_0 ⟨rfl, rfl⟩) (k := ?_)
      refine q1 11 (hg := rfl) (hu := rfl) (h := by rintro f _ hG1; exact p_move ⟨rfl, rfl⟩) (k := ?_)
      refine q1 14 (hg := rfl) (hu := rfl) (h := by rintro f _ hG1; exact p_move ⟨rfl, rfl⟩) (k := ?_)
      refine q_end ?_
      refine m1 78 (hu := rfl) (h := fun f => p_loadp ty_59 (a := .own (es.length + 7) sS) ?_)
      refine ⟨_, rfl, at_miss _ (at_miss _ (at_miss _ (at_miss _ (at_miss _ (at_miss _ (at_miss _ (at_miss _ (at_hit _ _)))))))), ?_⟩
      refine m2 79 80 (hu := rfl) (h := fun f => p_ixo sl_59 (a := .ptr (es.length + 7) sS i 0) ?_ (h0 := by omega) (h1 := by rw [setRows_len]; omega))
      refine ⟨_, rfl, at_miss _ (at_miss _ (at_miss _ (at_miss _ (at_miss _ (at_miss _ (at_miss _ (at_miss _ (at_hit _ _)))))))), ?_⟩
      refine m1 81 (hu := rfl) (h := fun f => p_loadp ty_48 (a := ints ((bfs n n.firsts i).sets[i]'(by omega))) ?_ (hr := setRows_get hgx) (hl := Nat.le_refl 1) (ha := rfl))
      refine ⟨_, rfl, at_miss _ (at_miss _ (at_miss _ (at_miss _ (at_miss _ (at_miss _ (at_miss _ (at_miss _ (at_hit _ _)))))))), ?_⟩
      refine m3 75 82 83 (hu := rfl) (h := fun f => p_callr en_79 (stepped_walk n ((bfs n n.firsts i).sets[i]'(by omega)) (n.firsts[j]'(by omega)) hst (by have := fsl _ (List.getElem_mem (show i < (bfs n n.firsts i).sets.length by omega)); omega) hfj.1 hfj.2) ?_)
      refine ⟨_, rfl, at_miss _ (at_miss _ (at_miss _ (at_miss _ (at_miss _ (at_miss _ (at_miss _ (at_miss _ (at_hit _ _)))))))), ?_⟩
      refine m2 74 84 (hu := rfl) (h := fun f => p_call en_89 ((place_mk1 (T := (.row sE 4 1 ((bfs n n.firsts i).ends.map fun b => [AV.bool b]) :: .row sN 48 1 (setRows (bfs n n.firsts i).next) :: .row s6 62 258 [dRow (fun i => (clsOf n.al i : Int)) (.own (es.length + 3) sN) (.own (es.length + 4) sE)] :: .row s4 62 258 [dRow (fun _ => 0) .nil .nil] :: .row s2 36 3 [n.cells] :: es)) (sS := sS) (rowTo n n.firsts (bfs n n.firsts i).sets ((bfs n n.firsts i).sets[i]'(by omega)) j).1 (stepped n ((bfs n n.firsts i).sets[i]'(by omega)) (n.firsts[j]'(by omega))) (closed_low hst _) hrlow (by omega) (by have := closed_len n (stepTo n ((bfs n n.firsts i).sets[i]'(by omega)) (n.firsts[j]'(by omega))); unfold stepped; omega)).mono ?_))
      rintro _ es1 ⟨rfl, sS', rfl⟩
      simp only [mkE]
      refine ⟨_, rfl, at_miss _ (at_miss _ (at_miss _ (at_miss _ (at_miss _ (at_miss _ (at_miss _ (at_miss _ (at_hit _ _)))))))), ?_⟩
      refine m1 85 (hu := rfl) (h := fun f => p_buildList sl_48 ze_3 ?_)
      refine ⟨_, rfl, at_miss _ (at_miss _ (at_miss _ (at_miss _ (at_miss _ (at_miss _ (at_miss _ (at_miss _ (at_hit _ _)))))))), ?_⟩
      refine m_end ?_
      refine l_cons rfl (p_append sl_48 by_3 ze_3 (fun s87 => ?_) (hb := by simp only [setRows_len, List.length_map, List.length_cons, List.length_nil, most]; omega))
      refine l_cons rfl (p_assign ?_)
      refine l_nil ?_
      refine k_blk_normal ?_
      refine k_seq_normal ?_
      refine w_region ?_
      refine l_cons rfl (p_arith ?_)
      refine l_cons rfl (p_move ?_)
      refine l_nil ?_
      refine k_seq_normal ?_
      exact ⟨n.firsts.length - (j + 1), by omega, j + 1, sS', s87, rfl, by omega, by rw [rowTo_succ (by omega), List.map_append]; exact Sub.refl _, by simp only [Knows, put, upd_apply, Nat.reduceEqDiff, ↓reduceIte, and_true, true_and, eq_self] <;> and_intros <;> rfl⟩
     ·skip
      have h5' := h5; (try simp only [decide_eq_true_eq, decide_eq_false_iff_not, Bool.not_eq_true', Bool.not_false, Bool.not_true, Bool.not_eq_false'] at h5')
      refine w_exit ?_
      refine k_seq_exit ?_
      refine k_seq_exit ?_
      refine k_blk_here ?_
      refine k_seq_normal ?_
      refine w_seq ?_
      have hjj : j = n.firsts.length := by omega
      refine w_freezeTop 12 ?_ (hclean := cleans_i64 _)
      refine w_region ?_
      refine l_cons rfl (p_fap fa_62_1 ?_)
      refine l_cons rfl (p_loadp ty_59 (a := .own (es.length + 3) sN) ?_ (hl := by rw [dRow_len]; omega) (ha := dRow_load256))
      refine l_cons rfl (p_move ?_)
      refine l_cons rfl (p_buildList sl_59 ze_48 (rows := [[ints (rowTo n n.firsts (bfs n n.firsts i).sets ((bfs n n.firsts i).sets[i]'(by omega)) j).2]]) ?_ (hr := rfl))
      refine l_cons rfl (p_append sl_59 by_48 ze_48 (fun s93 => ?_) (hb := by simp only [setRows_len, List.length_map, List.length_cons, List.length_nil, most]; omega))
      refine l_cons rfl (p_fap fa_62_1 ?_)
      refine l_cons rfl (p_store ty_59 (r' := dRow (fun i => (clsOf n.al i : Int)) (.own (es.length + 3) s93) (.own (es.length + 4) sE)) ?_ (hl := by rw [dRow_len]; omega) (hr' := dRow_put256))
      refine l_nil ?_
      refine k_seq_normal ?_
      refine w_drawn 13 [] (fun e => e = _) mixed (by kernel_rfl) rfl ?_
      refine q1 6 (hg := rfl) (hu := rfl) (h := by rintro f _ rfl; exact p_fap fa_62_2 ⟨rfl, rfl⟩) (k := ?_)
      refine q1 95 (hg := rfl) (hu := rfl) (h := by rintro f _ rfl; exact p_loadp ty_60 (a := .own (es.length + 4) sE) ⟨rfl, rfl⟩ (hl := by rw [dRow_len]; omega) (ha := dRow_load257)) (k := ?_)
      refine q1 10 (hg := rfl) (hu := rfl) (h := by rintro f _ rfl; exact p_move ⟨rfl, rfl⟩) (k := ?_)
      first | refine q1 97 (hg := rfl) (hu := rfl) (h := by rintro f _ rfl; exact p_ncp ⟨rfl, rfl⟩) (k := ?_) | refine q1 97 (hg := rfl) (hu := rfl) (h := by rintro f _ rfl; exact p_ncf ⟨rfl, rfl⟩) (k := ?_)
      refine q1 98 (hg := rfl) (hu := rfl) (h := by rintro f _ rfl; exact p_fap fa_109_0 ⟨rfl, rfl⟩) (k := ?_)
      refine q1 99 (hg := rfl) (hu := rfl) (h := by rintro f _ rfl; exact p_loadp ty_59 (a := .own (es.length + 7) sS) ⟨rfl, rfl⟩) (k := ?_)
      refine q1 11 (hg := rfl) (hu := rfl) (h := by rintro f _ rfl; exact p_move ⟨rfl, rfl⟩) (k := ?_)
      refine q2 100 101 (hg := rfl) (hu := rfl) (h := by rintro f _ rfl; exact p_ixo sl_59 (a := .ptr (es.length + 7) sS i 0) ⟨rfl, rfl⟩ (h0 := by omega) (h1 := by rw [setRows_len]; omega)) (k := ?_)
      refine q1 102 (hg := rfl) (hu := rfl) (h := by rintro f _ rfl; exact p_loadp ty_48 (a := ints ((bfs n n.firsts i).sets[i]'(by omega))) ⟨rfl, rfl⟩ (hr := setRows_get hgx) (hl := Nat.le_refl 1) (ha := rfl)) (k := ?_)
      refine q1 2 (hg := rfl) (hu := rfl) (h := by rintro f _ rfl; exact p_fap fa_36_2 ⟨rfl, rfl⟩) (k := ?_)
      refine q1 104 (hg := rfl) (hu := rfl) (h := by rintro f _ rfl; exact p_loadp ty_3 ⟨rfl, rfl⟩) (k := ?_)
      refine q2 103 105 (hg := rfl) (hu := rfl) (h := by rintro f _ rfl; exact p_callr en_80 (contains_walk ((bfs n n.firsts i).sets[i]'(by omega)) n.stop) ⟨rfl, rfl⟩) (k := ?_)
      refine q1 106 (hg := rfl) (hu := rfl) (h := by rintro f _ rfl; exact p_buildList sl_60 ze_4 ⟨rfl, rfl⟩) (k := ?_)
      refine q_end ?_
      refine m_end ?_
      refine l_cons rfl (p_append sl_60 by_4 ze_4 (fun s108 => ?_) (hb := by simp only [setRows_len, List.length_map, List.length_cons, List.length_nil, most]; omega))
      refine l_cons rfl (p_fap fa_62_2 ?_)
      refine l_cons rfl (p_store ty_60 (r' := dRow (fun i => (clsOf n.al i : Int)) (.own (es.length + 3) s93) (.own (es.length + 4) s108)) ?_ (hl := by rw [dRow_len]; omega) (hr' := dRow_put257))
      refine l_nil ?_
      refine k_blk_normal ?_
      refine k_seq_normal ?_
      refine w_region ?_
      refine l_cons rfl (p_move ?_)
      refine l_cons rfl (p_arith ?_)
      refine l_cons rfl (p_assign ?_)
      refine l_nil ?_
      refine k_seq_normal ?_
      have hb3 := bfs_le (n := n) (fs := n.firsts) (show i ≤ i + 1 by omega)
      exact ⟨(max mx 0).toNat + 1 - (i + 1), by omega, i + 1, s108, s93, sS, rfl, by omega, by omega, by rw [bfs_alive (show i < (bfs n n.firsts i).sets.length by omega), ← hjj, setRows_app, List.map_append]; exact Sub.refl _, by simp only [Knows, put, upd_apply, Nat.reduceEqDiff, ↓reduceIte, and_true, true_and, eq_self] <;> and_intros <;> rfl⟩
   ·skip
    have h3' := h3; (try simp only [decide_eq_true_eq, decide_eq_false_iff_not, Bool.not_eq_true', Bool.not_false, Bool.not_true, Bool.not_eq_false'] at h3')
    refine w_exit ?_
    refine k_seq_exit ?_
    refine k_seq_exit ?_
    refine k_blk_here ?_
    refine k_seq_normal ?_
    refine w_seq ?_
    refine w_seq ?_
    refine w_region ?_
    refine l_cons rfl (p_move ?_)
    first | refine l_cons rfl (p_ncp ?_) | refine l_cons rfl (p_ncf ?_)
    refine l_cons rfl (p_fap fa_109_0 ?_)
    refine l_cons rfl (p_loadp ty_59 (a := .own (es.length + 7) sS) ?_)
    refine l_cons rfl (p_leno sl_59 (a := .int .i64 ((bfs n n.firsts i).sets.length : Int)) ?_ (ha := by rw [setRows_len]))
    refine l_cons rfl (p_move ?_)
    refine l_cons rfl (p_max ?_)
    refine l_cons rfl (p_cmp ?_)
    refine l_nil ?_
    refine k_seq_normal ?_
    refine w_b (fun h6 => ?_) (fun h6 => ?_)
    ·skip
     have h6' := h6; (try simp only [decide_eq_true_eq, decide_eq_false_iff_not, Bool.not_eq_true', Bool.not_false, Bool.not_true, Bool.not_eq_false'] at h6')
     refine w_seq ?_
     refine w_region ?_
     refine l_cons rfl (p_build ze_d pl_62 ?_)
     refine l_cons rfl (p_store ty_62 (r' := dRow (fun _ => 0) .nil .nil) ?_ (hl := by rw [dRow_len]; exact Nat.le_refl _) (hn := dRow_len) (hr' := dRow_putAll))
     refine l_cons rfl (p_assign ?_)
     refine l_nil ?_
     refine k_seq_normal ?_
     refine w_ret ?_
     refine k_seq_ret ?_
     rw [make_budget (by simpa using h1') (i := i) (by omega)]
     exact retctw rfl ty_62 (by first | exact sub2 _ _ _ | exact sub3 _ _ _ _ | exact subM _ _ _ _ _ _ _ _ _) (fun _ _ _ => rep_zero) ⟨rfl, rfl⟩ (hl := by rw [dRow_len]; exact Nat.le_refl _) (ha := dRow_all)
    ·skip
     have h6' := h6; (try simp only [decide_eq_true_eq, decide_eq_false_iff_not, Bool.not_eq_true', Bool.not_false, Bool.not_true, Bool.not_eq_false'] at h6')
     refine w_skip ?_
     refine k_seq_normal ?_
     refine w_seq ?_
     refine w_less (fun _ => .inl rfl) (sub3 _ _ _ _) ?_
     refine w_freezeCell' (i := 256) (id := es.length + 2) (j := es.length + 3) (loc_miss loc_hit) (loc_miss (loc_miss loc_hit)) (by omega) dRow_256 (cleans_sets _) ?_
     rw [dRow_set256]
     refine w_freezeCell' (i := 257) (id := es.length + 2) (j := es.length + 4) loc_hit (loc_miss (loc_miss loc_hit)) (by omega) dRow_257 (cleans_bool _) ?_
     rw [dRow_set257]
     refine w_region ?_
     refine l_cons rfl (p_loadp ty_62 (a := .agg (dRow (fun i => (clsOf n.al i : Int)) (.list 1 (setRows (bfs n n.firsts i).next)) (.list 1 ((bfs n n.firsts i).ends.map fun b => [AV.bool b])))) ?_ (hl := by rw [dRow_len]; exact Nat.le_refl _) (ha := dRow_all))
     refine l_cons rfl (p_store ty_62 (r' := dRow (fun i => (clsOf n.al i : Int)) (.list 1 (setRows (bfs n n.firsts i).next)) (.list 1 ((bfs n n.firsts i).ends.map fun b => [AV.bool b]))) ?_ (hl := by rw [dRow_len]; exact Nat.le_refl _) (hn := dRow_len) (hr' := dRow_putAll))
     refine l_cons rfl (p_assign ?_)
     refine l_nil ?_
     refine k_seq_normal ?_
     refine w_ret ?_
     rw [make_done (by simpa using h1') (i := i) (by omega) (by omega)]
     exact retct rfl ty_62 (by first | exact sub5 _ _ _ _ _ _) ⟨rfl, rfl⟩ (hl := by rw [dRow_len]; exact Nat.le_refl _) (ha := dRow_all)
end Go.Proofs.YtfdgbghlanbddaaDoor.Av
set_option linter.unusedVariables false
set_option linter.unusedSimpArgs false
set_option maxRecDepth 8000
namespace Go.Proofs.YtfdgbghlanbddaaDoor.Av
open Go.RowKit Go.Proofs
theorem sub6 (a b c d e f : Ent) (es : List Ent) : Sub es (a :: b :: c :: d :: e :: f :: es) := (sub3 d e f es).trans (sub3 a b c _)
theorem sub7 (a b c d e f g : Ent) (es : List Ent) : Sub es (a :: b :: c :: d :: e :: f :: g :: es) := (sub4 d e f g es).trans (sub3 a b c _)
def findI (sets : List (List Int)) (x : List Int) : Int := if placeIx sets x = sets.length then -1 else (placeIx sets x : Int)
theorem find_yes {sets : List (List Int)} {x : List Int} {k : Nat} (hk : k < sets.length) (h : ∀ j (_ : j < k) (h : j < sets.length), sets[j] ≠ x) (he : sets[k] = x) : findI sets x = k := by
 have := placeIx_at (l := sets) (x := x) (Nat.le_of_lt hk) h (fun _ => he)
 unfold findI
 rw [this, if_neg (by omega)]
theorem find_no {sets : List (List Int)} {x : List Int} (h : ∀ j (h : j < sets.length), sets[j] ≠ x) : findI sets x = -1 := by
 have := placeIx_at (l := sets) (x := x) (Nat.le_refl _) (fun j _ h2 => h j h2) (fun h => absurd h (Nat.lt_irrefl _))
 unfold findI
 rw [if_pos this]
theorem find_neg {sets : List (List Int)} {x : List Int} (h : decide (findI sets x < 0) = true) : placeIx sets x = sets.length := by
 unfold findI at h
 split at h
 ·assumption
 ·simp at h; omega
theorem find_pos {sets : List (List Int)} {x : List Int} (h : decide (findI sets x < 0) = false) : ¬ placeIx sets x = sets.length := by
 intro e
 unfold findI at h
 rw [if_pos e] at h
 simp at h
theorem find_old {sets : List (List Int)} {x : List Int} (h : ¬ placeIx sets x = sets.length) : findI sets x = (placeIx sets x : Int) := if_neg h
theorem byte_put {p : Nat → Int} {r : List AV} (h : r.length = 256) : r.take 0 ++ byteT p ++ r.drop (0 + 256) = byteT p := by
 rw [List.drop_of_length_le (by omega)]
 simp
theorem fill_d {p : Nat → Int} : fillAV (([(0, 256), (256, 1), (257, 1)] : List (Nat × Nat))[·]?) (dRow (fun _ => 0) .nil .nil) [(0, .agg (byteT p))] = some (dRow p .nil .nil) := by
 simp only [fillAV, cellsAV, List.getElem?_cons_zero]
 rw [if_pos ⟨byteT_len _, by rw [dRow_len]; omega⟩, dRow_putCls]
theorem Nf.wds (n : Nf) (h : ∀ s ∈ n.sets, s.ok) : ∀ s ∈ n.st, 0 ≤ s.w0 ∧ 0 ≤ s.w1 ∧ 0 ≤ s.w2 ∧ 0 ≤ s.w3 := by
 intro s hs
 have := h s.set (List.mem_map.2 ⟨s, hs, rfl⟩)
 unfold W4.ok St.set at this
 simp only at this
 omega
theorem refClosed {w0 : World} {es : List Ent} (n : Nf) (h : mayN n = true) : ACalls Tryd.prog w0 43 [n.av, ints [n.start]] es fun v es' => v = ints (closed n [n.start]) ∧ es' = es := by
 have := refClose (w0 := w0) (es := es) n [n.start]
 unfold closeN at this
 rw [if_pos h] at this
 exact this
theorem refStepped {w0 : World} {es : List Ent} (n : Nf) (hok : ∀ s ∈ n.st, 0 ≤ s.w0 ∧ 0 ≤ s.w1 ∧ 0 ≤ s.w2 ∧ 0 ≤ s.w3) (h : mayN n = true) (l : List Int) (b : Int) (hl : l.length ≤ 1099511627776) (hb0 : 0 ≤ b) (hb1 : b < 256) : ACalls Tryd.prog w0 45 [n.av, ints l, .int .u8 b] es fun v es' => v = ints (stepped n l b) ∧ es' = es := by
 have := refStep (w0 := w0) (es := es) n hok l b hl hb0 hb1
 unfold stepN at this
 rw [if_pos h] at this
 exact this
theorem refHas {w0 : World} {es : List Ent} (l : List Int) (x : Int) : ACalls Tryd.prog w0 82 [ints l, .int .i64 x] es fun v es' => v = .bool (l.contains x) ∧ es' = es := by
 have := has_walk (w0 := w0) (es := es) l x
 rw [contains_any]
 have e : (fun y => decide (x = y)) = fun y : Int => decide (y = x) := by
  funext y
  rw [decide_eq_decide]
  exact eq_comm
 rw [e]
 exact this
theorem row_h6 {a b c d e f x : Ent} {es : List Ent} : at_ (a :: b :: c :: d :: e :: f :: x :: es) es.length = some x := at_miss _ (at_miss _ (at_miss _ (at_miss _ (at_miss _ (at_miss _ (at_hit _ _))))))
theorem row_h3 {a b c x d e f : Ent} {es : List Ent} : at_ (a :: b :: c :: x :: d :: e :: f :: es) (es.length + 3) = some x := at_miss _ (at_miss _ (at_miss _ (at_hit _ _)))
theorem same9_walk {w0 : World} {es : List Ent} (a b : List Int) : ACalls Tryd.prog w0 124 [ints a, ints b] es fun v es' => v = .bool (decide (a = b)) ∧ es' = es := by
 unfold ints
 refine calls2 (N := 26) Tryd.func124 rfl rfl (by decide) ?_
 refine w_seq ?_
 refine w_region ?_
 refine l_cons rfl (p_assign ?_)
 refine l_nil ?_
 refine k_seq_normal ?_
 refine w_seq ?_
 refine w_seq ?_
 refine w_len 0 fun hl => ?_
 rw [List.length_map] at hl
 simp only [most] at hl
 refine w_region ?_
 refine l_cons rfl (p_move ?_)
 refine l_cons rfl (p_lenl sl_48 ?_)
 refine l_cons rfl (p_move ?_)
 refine l_cons rfl (p_lenl sl_48 ?_)
 refine l_cons rfl (p_cmp ?_)
 refine l_nil ?_
 refine k_seq_normal ?_
 refine w_b (fun h1 => ?_) (fun h1 => ?_)
 ·skip
  have h1' := h1; (try simp only [decide_eq_true_eq, decide_eq_false_iff_not, Bool.not_eq_true', Bool.not_false, Bool.not_true, Bool.not_eq_false'] at h1')
  refine w_seq ?_
  refine w_region ?_
  refine l_cons rfl (p_assign ?_)
  refine l_nil ?_
  refine k_seq_normal ?_
  refine w_ret ?_
  refine k_seq_ret ?_
  refine ret1b rfl ?_ <;> exact ex2 subx ⟨by rw [show decide (a = b) = false from decide_eq_false (by rintro rfl; simp_all)], rfl⟩
 ·skip
  have h1' := h1; (try simp only [decide_eq_true_eq, decide_eq_false_iff_not, Bool.not_eq_true', Bool.not_false, Bool.not_true, Bool.not_eq_false'] at h1')
  refine w_skip ?_
  refine k_seq_normal ?_
  refine w_seq ?_
  refine w_seq ?_
  refine w_region ?_
  refine l_cons rfl (p_assign ?_)
  refine l_nil ?_
  refine k_seq_normal ?_
  refine w_block ?_
  refine w_loop (fun m f es' => ∃ k, m = a.length - k ∧ k ≤ a.length ∧ (∀ j (_ : j < k) (h1 : j < a.length) (h2 : j < b.length), a[j] = b[j]) ∧ es' = es ∧ Knows f [(0, .list 1 (a.map fun n => [.int .i64 n])), (1, .list 1 (b.map fun n => [.int .i64 n])), (5, .int .i64 k)]) (a.length) (⟨0, rfl, Nat.zero_le _, fun j hj => absurd hj (Nat.not_lt_zero _), rfl, by simp only [Knows, put, upd_apply, Nat.reduceEqDiff, ↓reduceIte, and_true, true_and, eq_self] <;> and_intros <;> rfl⟩) ?_
  rintro m f es' ⟨k, rfl, hk1, hk2, rfl, hk⟩
  have hab : a.length = b.length := by simp_all; omega
  refine w_pins _ (Sub.refl _) (hk) ?_
  simp only [pins]
  refine w_seq ?_
  refine w_seq ?_
  refine w_region ?_
  refine l_cons rfl (p_move ?_)
  refine l_cons rfl (p_move ?_)
  refine l_cons rfl (p_lenl sl_48 ?_)
  refine l_cons rfl (p_cmp ?_)
  refine l_nil ?_
  refine k_seq_normal ?_
  refine w_b (fun h2 => ?_) (fun h2 => ?_)
  ·skip
   have h2' := h2; (try simp only [decide_eq_true_eq, decide_eq_false_iff_not, Bool.not_eq_true', Bool.not_false, Bool.not_true, Bool.not_eq_false'] at h2')
   refine w_skip ?_
   refine k_seq_normal ?_
   refine w_seq ?_
   refine w_block ?_
   refine w_seq ?_
   refine w_drawn 8 [] (fun e => e = _) mixed (by kernel_rfl) rfl ?_
   refine q1 0 (hg := rfl) (hu := rfl) (h := by rintro f _ rfl; exact p_move ⟨rfl, rfl⟩) (k := ?_)
   refine q1 5 (hg := rfl) (hu := rfl) (h := by rintro f _ rfl; exact p_move ⟨rfl, rfl⟩) (k := ?_)
   refine q2 17 18 (hg := rfl) (hu := rfl) (h := by rintro f _ rfl; exact p_ixl sl_48 ⟨rfl, rfl⟩) (k := ?_)
   refine q1 19 (hg := rfl) (hu := rfl) (h := by rintro f _ rfl; exact p_loadf ty_3 ⟨rfl, rfl⟩) (k := ?_)
   refine q1 1 (hg := rfl) (hu := rfl) (h := by rintro f _ rfl; exact p_move ⟨rfl, rfl⟩) (k := ?_)
   refine q1 5 (hg := rfl) (hu := rfl) (h := by rintro f _ rfl; exact p_move ⟨rfl, rfl⟩) (k := ?_)
   refine q2 21 22 (hg := rfl) (hu := rfl) (h := by rintro f _ rfl; exact p_ixl sl_48 ⟨rfl, rfl⟩) (k := ?_)
   refine q1 23 (hg := rfl) (hu := rfl) (h := by rintro f _ rfl; exact p_loadf ty_3 ⟨rfl, rfl⟩) (k := ?_)
   refine q_end ?_
   refine m_end ?_
   refine l_cons rfl (p_cmp ?_)
   refine l_nil ?_
   refine k_seq_normal ?_
   refine w_b (fun h3 => ?_) (fun h3 => ?_)
   ·skip
    have h3' := h3; (try simp only [decide_eq_true_eq, decide_eq_false_iff_not, Bool.not_eq_true', Bool.not_false, Bool.not_true, Bool.not_eq_false'] at h3')
    refine w_seq ?_
    refine w_region ?_
    refine l_cons rfl (p_assign ?_)
    refine l_nil ?_
    refine k_seq_normal ?_
    refine w_ret ?_
    refine k_blk_ret ?_
    refine k_seq_ret ?_
    refine k_seq_ret ?_
    refine k_blk_ret ?_
    refine k_seq_ret ?_
    refine ret1b rfl ?_ <;> exact ex2 subx ⟨by rw [same_no (k := k) (by omega) (by omega) (by simp_all)], rfl⟩
   ·skip
    have h3' := h3; (try simp only [decide_eq_true_eq, decide_eq_false_iff_not, Bool.not_eq_true', Bool.not_false, Bool.not_true, Bool.not_eq_false'] at h3')
    refine w_skip ?_
    refine k_blk_normal ?_
    refine k_seq_normal ?_
    refine w_region ?_
    refine l_cons rfl (p_move ?_)
    refine l_cons rfl (p_arith ?_)
    refine l_cons rfl (p_assign ?_)
    refine l_nil ?_
    refine k_seq_normal ?_
    exact ⟨a.length - (k + 1), by omega, k + 1, rfl, by omega, fun j hj h1 h2 => by
     rcases Nat.lt_or_eq_of_le (Nat.le_of_lt_succ hj) with h9 | h9
     ·exact hk2 j h9 h1 h2
     ·subst h9; simp_all, rfl, by simp only [Knows, put, upd_apply, Nat.reduceEqDiff, ↓reduceIte, and_true, true_and, eq_self] <;> and_intros <;> rfl⟩
  ·skip
   have h2' := h2; (try simp only [decide_eq_true_eq, decide_eq_false_iff_not, Bool.not_eq_true', Bool.not_false, Bool.not_true, Bool.not_eq_false'] at h2')
   refine w_exit ?_
   refine k_seq_exit ?_
   refine k_seq_exit ?_
   refine k_blk_here ?_
   refine k_seq_normal ?_
   refine w_seq ?_
   refine w_region ?_
   refine l_cons rfl (p_assign ?_)
   refine l_nil ?_
   refine k_seq_normal ?_
   refine w_ret ?_
   refine ret1b rfl ?_ <;> exact ex2 subx ⟨by rw [same_yes hab (fun j h1 h2 => hk2 j (by omega) h1 h2)], rfl⟩
theorem first_walk {w0 : World} {es : List Ent} (n : Nf) : ACalls Tryd.prog w0 90 [.agg (byteT (fun i => (clsOf n.al i : Int))), .int .i64 ((repsTo n.al 256).length : Int)] es fun v es' => v = .list 1 (n.firsts.map fun n => [.int .u8 n]) ∧ es' = es := by
 have hrl := repsTo_len n.al 256
 refine calls2 (N := 21) Tryd.func90 rfl rfl (by decide) ?_
 refine w_seq ?_
 refine w_region ?_
 refine l_cons rfl (p_box fun s2 => ?_)
 rw [byteT_len]
 refine l_cons rfl (p_assign ?_)
 refine l_nil ?_
 refine k_seq_normal ?_
 refine w_seq ?_
 refine w_region ?_
 refine l_cons rfl (p_move ?_)
 refine l_cons rfl (p_makeSlice sl_22 by_5 ze_5 fun s5 => ?_)
 refine l_cons rfl (p_assign ?_)
 refine l_nil ?_
 refine k_seq_normal ?_
 refine w_seq ?_
 refine w_seq ?_
 refine w_region ?_
 refine l_cons rfl (p_assign ?_)
 refine l_nil ?_
 refine k_seq_normal ?_
 refine w_block ?_
 refine w_loop (fun m f es' => ∃ k, m = k ∧ k ≤ 256 ∧ Sub (.row s5 5 1 ((firstTo n.al k).map fun n => [AV.int .u8 n]) :: .row s2 58 256 [byteT (fun i => (clsOf n.al i : Int))] :: es) es' ∧ Knows f [(2, .ptr es.length s2 0 0), (5, .own (es.length + 1) s5), (6, .int .i64 ((k : Int) - 1))]) (256) (⟨256, rfl, Nat.le_refl _, by rw [firstTo_top, List.map_replicate]; simp only [Int.toNat_natCast]; exact Sub.refl _, by simp only [Knows, put, upd_apply, Nat.reduceEqDiff, ↓reduceIte, and_true, true_and, eq_self] <;> and_intros <;> rfl⟩) ?_
 rintro m f es' ⟨k, rfl, hk1, hsub, hk⟩
 refine w_pins _ hsub (hk) ?_
 simp only [pins]
 refine w_seq ?_
 refine w_seq ?_
 refine w_region ?_
 refine l_cons rfl (p_move ?_)
 refine l_cons rfl (p_cmp ?_)
 refine l_nil ?_
 refine k_seq_normal ?_
 refine w_b (fun h1 => ?_) (fun h1 => ?_)
 ·skip
  have h1' := h1; (try simp only [decide_eq_true_eq, decide_eq_false_iff_not, Bool.not_eq_true', Bool.not_false, Bool.not_true, Bool.not_eq_false'] at h1')
  refine w_skip ?_
  refine k_seq_normal ?_
  refine w_seq ?_
  refine w_block ?_
  obtain ⟨b, rfl⟩ : ∃ b, m = b + 1 := ⟨m - 1, by omega⟩
  rw [show (((b + 1 : Nat) : Int) - 1) = (b : Int) by omega]
  have hcb := cls_lt' n.al (show b < 256 by omega)
  refine w_region ?_
  refine l_cons rfl (p_move ?_)
  refine l_cons rfl (p_move ?_)
  refine l_cons rfl (p_ixa ar_58 (a := .ptr es.length s2 0 b) ?_ (h0 := by omega) (h1 := by omega) (ho := by simp))
  refine l_cons rfl (p_loadp ty_5 (a := .int .u8 (clsOf n.al b : Int)) ?_ (hl := by rw [byteT_len]; omega) (ha := byteT_load (p := (fun i => (clsOf n.al i : Int))) (k := b) (by omega)))
  refine l_cons rfl (p_move ?_)
  refine l_cons rfl (p_conv in_3 in_5 ?_ (hb := wrap8 (n := (b : Int)) (by omega) (by omega)))
  refine l_cons rfl (p_ixo sl_22 (a := .ptr (es.length + 1) s5 (clsOf n.al b) 0) ?_ (h0 := by omega) (h1 := by simp only [List.length_map, firstTo_len]; omega))
  refine l_cons rfl (p_store ty_5 (r' := [.int .u8 (b : Int)]) ?_ (hr := rowU8 (by rw [firstTo_len]; exact hcb)) (hl := Nat.le_refl 1) (hr' := rfl))
  refine l_nil ?_
  refine k_blk_normal ?_
  refine k_seq_normal ?_
  refine w_region ?_
  refine l_cons rfl (p_move ?_)
  refine l_cons rfl (p_arith ?_)
  refine l_cons rfl (p_assign ?_)
  refine l_nil ?_
  refine k_seq_normal ?_
  exact ⟨b, by omega, b, rfl, by omega, by rw [← firstTo_step n.al (show b < 256 by omega), List.map_set]; exact Sub.refl _, by simp only [Knows, put, upd_apply, Nat.reduceEqDiff, ↓reduceIte, and_true, true_and, eq_self] <;> and_intros <;> rfl⟩
 ·skip
  have h1' := h1; (try simp only [decide_eq_true_eq, decide_eq_false_iff_not, Bool.not_eq_true', Bool.not_false, Bool.not_true, Bool.not_eq_false'] at h1')
  refine w_exit ?_
  refine k_seq_exit ?_
  refine k_seq_exit ?_
  refine k_blk_here ?_
  refine k_seq_normal ?_
  refine w_seq ?_
  obtain rfl : m = 0 := by omega
  rw [firstTo_all n.eqv, show (repsTo n.al 256).map Int.ofNat = n.firsts from rfl]
  refine w_freezeTop 5 ?_ (hclean := cleans_u8 _)
  refine w_region ?_
  refine l_cons rfl (p_move ?_)
  refine l_cons rfl (p_assign ?_)
  refine l_nil ?_
  refine k_seq_normal ?_
  refine w_ret ?_
  refine ret1b rfl ?_ <;> exact ex2 subx ⟨rfl, rfl⟩
theorem find_walk {w0 : World} {es : List Ent} {id s : Nat} (sets : List (List Int)) (x : List Int) (hb : at_ es id = some (.row s 48 1 (setRows sets))) (hl : sets.length ≤ 1000000) : ACalls Tryd.prog w0 91 [.own id s, ints x] es fun v es' => v = .int .i64 (findI sets x) ∧ es' = es := by
 refine calls2 (N := 19) Tryd.func91 rfl rfl (by decide) ?_
 refine w_seq ?_
 refine w_region ?_
 refine l_cons rfl (p_assign ?_)
 refine l_nil ?_
 refine k_seq_normal ?_
 refine w_seq ?_
 refine w_seq ?_
 refine w_region ?_
 refine l_cons rfl (p_assign ?_)
 refine l_nil ?_
 refine k_seq_normal ?_
 refine w_block ?_
 refine w_loop (fun m f es' => ∃ k, m = sets.length - k ∧ k ≤ sets.length ∧ (∀ j (_ : j < k) (h : j < sets.length), sets[j] ≠ x) ∧ es' = es ∧ Knows f [(0, .own id s), (1, ints x), (5, .int .i64 (k : Int))]) (sets.length) (⟨0, rfl, Nat.zero_le _, fun j hj => absurd hj (Nat.not_lt_zero _), rfl, by simp only [Knows, put, upd_apply, Nat.reduceEqDiff, ↓reduceIte, and_true, true_and, eq_self] <;> and_intros <;> rfl⟩) ?_
 rintro m f es' ⟨k, rfl, hk1, hk2, rfl, hk⟩
 refine w_pins _ (Sub.refl _) (hk) ?_
 simp only [pins]
 refine w_seq ?_
 refine w_seq ?_
 refine w_region ?_
 refine l_cons rfl (p_move ?_)
 refine l_cons rfl (p_move ?_)
 refine l_cons rfl (p_leno sl_59 (a := .int .i64 (sets.length : Int)) ?_ (ha := by rw [setRows_len]))
 refine l_cons rfl (p_cmp ?_)
 refine l_nil ?_
 refine k_seq_normal ?_
 refine w_b (fun h1 => ?_) (fun h1 => ?_)
 ·skip
  have h1' := h1; (try simp only [decide_eq_true_eq, decide_eq_false_iff_not, Bool.not_eq_true', Bool.not_false, Bool.not_true, Bool.not_eq_false'] at h1')
  refine w_skip ?_
  refine k_seq_normal ?_
  refine w_seq ?_
  refine w_block ?_
  refine w_seq ?_
  refine w_region ?_
  refine l_cons rfl (p_move ?_)
  refine l_cons rfl (p_move ?_)
  refine l_cons rfl (p_ixo sl_59 (a := .ptr id s k 0) ?_ (h0 := by omega) (h1 := by rw [setRows_len]; omega))
  refine l_cons rfl (p_loadp ty_48 (a := ints (sets[k]'(by omega))) ?_ (hr := setRows_at (by omega)) (hl := Nat.le_refl 1) (ha := rfl))
  refine l_cons rfl (p_move ?_)
  refine l_cons rfl (p_callr en_124 (same9_walk (sets[k]'(by omega)) x) ?_)
  refine l_nil ?_
  refine k_seq_normal ?_
  refine w_b (fun h2 => ?_) (fun h2 => ?_)
  ·skip
   have h2' := h2; (try simp only [decide_eq_true_eq, decide_eq_false_iff_not, Bool.not_eq_true', Bool.not_false, Bool.not_true, Bool.not_eq_false'] at h2')
   refine w_seq ?_
   refine w_region ?_
   refine l_cons rfl (p_move ?_)
   refine l_cons rfl (p_assign ?_)
   refine l_nil ?_
   refine k_seq_normal ?_
   refine w_ret ?_
   refine k_blk_ret ?_
   refine k_seq_ret ?_
   refine k_seq_ret ?_
   refine k_blk_ret ?_
   refine k_seq_ret ?_
   refine ret1b rfl ?_ <;> exact ex2 subx ⟨by rw [find_yes (k := k) (by omega) hk2 (by assumption)], rfl⟩
  ·skip
   have h2' := h2; (try simp only [decide_eq_true_eq, decide_eq_false_iff_not, Bool.not_eq_true', Bool.not_false, Bool.not_true, Bool.not_eq_false'] at h2')
   refine w_skip ?_
   refine k_blk_normal ?_
   refine k_seq_normal ?_
   refine w_region ?_
   refine l_cons rfl (p_move ?_)
   refine l_cons rfl (p_arith ?_)
   refine l_cons rfl (p_assign ?_)
   refine l_nil ?_
   refine k_seq_normal ?_
   exact ⟨sets.length - (k + 1), by omega, k + 1, rfl, by omega, fun j hj h => by
    rcases Nat.lt_or_eq_of_le (Nat.le_of_lt_succ hj) with h9 | h9
    ·exact hk2 j h9 h
    ·subst h9; assumption, rfl, by simp only [Knows, put, upd_apply, Nat.reduceEqDiff, ↓reduceIte, and_true, true_and, eq_self] <;> and_intros <;> rfl⟩
 ·skip
  have h1' := h1; (try simp only [decide_eq_true_eq, decide_eq_false_iff_not, Bool.not_eq_true', Bool.not_false, Bool.not_true, Bool.not_eq_false'] at h1')
  refine w_exit ?_
  refine k_seq_exit ?_
  refine k_seq_exit ?_
  refine k_blk_here ?_
  refine k_seq_normal ?_
  refine w_seq ?_
  refine w_region ?_
  refine l_cons rfl (p_assign ?_)
  refine l_nil ?_
  refine k_seq_normal ?_
  refine w_ret ?_
  refine ret1b rfl ?_ <;> exact ex2 subx ⟨by rw [find_no (fun j h => hk2 j (by omega) h)], rfl⟩
theorem refMake_walk {w0 : World} {es : List Ent} (n : Nf) (mx : Int) (hs : ∀ s ∈ n.sets, s.ok) (hM : mx ≤ 100000) : ACalls Tryd.prog w0 48 [n.av, .int .i64 mx] es fun v es' => v = .tup [.agg (makeN n mx).1.cells, .int .i64 (makeN n mx).2] ∧ es' = es := by
  unfold Nf.av
  have hrl := repsTo_len n.al 256
  have hfl := n.firsts_len
  have hok := n.wds hs
  refine calls2 (N := 108) Tryd.func48 rfl rfl (by decide) ?_
  refine w_seq ?_
  refine w_region ?_
  refine l_cons rfl (p_box fun s2 => ?_)
  refine l_cons rfl (p_alloc ze_d fun s4 => ?_)
  rw [dRow_len]
  refine l_cons rfl (p_assign ?_)
  refine l_nil ?_
  refine k_seq_normal ?_
  refine w_seq ?_
  refine w_seq ?_
  refine w_region ?_
  refine l_cons rfl (p_loadp ty_36 ?_)
  refine l_cons rfl (p_callr en_42 (refMay n) ?_)
  refine l_cons rfl (p_not ?_)
  refine l_nil ?_
  refine k_seq_normal ?_
  refine w_b (fun h1 => ?_) (fun h1 => ?_)
  · skip
    have h1' := h1; (try simp only [decide_eq_true_eq, decide_eq_false_iff_not, Bool.not_eq_true', Bool.not_false, Bool.not_true, Bool.not_eq_false'] at h1')
    refine w_seq ?_
    refine w_region ?_
    refine l_cons rfl (p_build ze_d pl_62 ?_)
    refine l_cons rfl (p_store ty_62 (r' := dRow (fun _ => 0) .nil .nil) ?_ (hl := by rw [dRow_len]; exact Nat.le_refl _) (hn := dRow_len) (hr' := dRow_putAll))
    refine l_cons rfl (p_assign ?_)
    refine l_nil ?_
    refine k_seq_normal ?_
    refine w_ret ?_
    refine k_seq_ret ?_
    rw [make_form (by simpa using h1')]
    exact retctw rfl ty_62 (by first | exact sub2 _ _ _ | exact sub7 _ _ _ _ _ _ _ _) (fun _ _ _ => rep_zero) ⟨rfl, rfl⟩ (hl := by rw [dRow_len]; exact Nat.le_refl _) (ha := dRow_all)
  · skip
    have h1' := h1; (try simp only [decide_eq_true_eq, decide_eq_false_iff_not, Bool.not_eq_true', Bool.not_false, Bool.not_true, Bool.not_eq_false'] at h1')
    refine w_skip ?_
    refine k_seq_normal ?_
    refine w_seq ?_
    have hst := may_le h1'
    refine w_region ?_
    refine l_cons rfl (p_loadp ty_36 ?_)
    refine l_cons rfl (p_callr en_50 (refClassesN n hs (by omega)) ?_)
    refine l_cons rfl (p_move ?_)
    refine l_cons rfl (p_extract ?_ (hl := Nat.le_of_ble_eq_true rfl))
    refine l_cons rfl (p_extract ?_ (hl := Nat.le_of_ble_eq_true rfl))
    refine l_cons rfl (p_alloc ze_58 fun s6 => ?_)
    rw [List.length_replicate]
    refine l_cons rfl (p_store ty_58 (r' := byteT (fun i => (clsOf n.al i : Int))) ?_ (hl := by rw [List.length_replicate]; omega) (hn := byteT_len _) (hr' := byte_put (List.length_replicate ..)))
    refine l_cons rfl (p_assign ?_)
    refine l_nil ?_
    refine k_seq_normal ?_
    refine w_seq ?_
    refine w_region ?_
    refine l_cons rfl (p_loadp ty_58 (a := .agg (byteT (fun i => (clsOf n.al i : Int)))) ?_ (hl := by simp only [byteT_len]; omega) (ha := byteT_all _))
    refine l_cons rfl (p_move ?_)
    refine l_cons rfl (p_callr en_90 (first_walk n) ?_)
    refine l_cons rfl (p_assign ?_)
    refine l_nil ?_
    refine k_seq_normal ?_
    refine w_seq ?_
    refine w_region ?_
    refine l_cons rfl (p_loadp ty_58 (a := .agg (byteT (fun i => (clsOf n.al i : Int)))) ?_ (hl := by simp only [byteT_len]; omega) (ha := byteT_all _))
    refine l_cons rfl (p_build ze_d pl_62 (l := dRow (fun i => (clsOf n.al i : Int)) .nil .nil) ?_ (hl := fill_d))
    refine l_cons rfl (p_alloc ze_d fun s9 => ?_)
    rw [dRow_len]
    refine l_cons rfl (p_store ty_62 (r' := dRow (fun i => (clsOf n.al i : Int)) .nil .nil) ?_ (hl := by rw [dRow_len]; exact Nat.le_refl _) (hn := dRow_len) (hr' := dRow_putAll))
    refine l_nil ?_
    refine k_seq_normal ?_
    refine w_seq ?_
    refine w_adoptCell' (i := 256) 48 1 loc_hit dRow_256 fun sN => ?_
    rw [dRow_set256]
    refine w_adoptCell' (i := 257) 4 1 (loc_miss loc_hit) dRow_257 fun sE => ?_
    rw [dRow_set257]
    refine w_region ?_
    refine l_cons rfl (p_loadp ty_36 ?_)
    refine l_cons rfl (p_fap fa_36_1 ?_)
    refine l_cons rfl (p_loadp ty_3 ?_)
    refine l_cons rfl (p_buildList sl_48 ze_3 ?_)
    refine l_cons rfl (p_callr en_43 (refClosed n (by simpa using h1')) ?_)
    refine l_cons rfl (p_buildSlice sl_59 ze_48 fun sS => ?_)
    refine l_cons rfl (p_assign ?_)
    refine l_nil ?_
    refine k_seq_normal ?_
    refine w_seq ?_
    refine w_seq ?_
    refine w_region ?_
    refine l_cons rfl (p_assign ?_)
    refine l_nil ?_
    refine k_seq_normal ?_
    refine w_block ?_
    refine w_loop (fun m f es' => ∃ i sets next ends sE sN sS, (((⟨sets, next, ends⟩ : Bf) = (bfs n n.firsts i) ∧ m = mx.toNat + 2 - i ∧ i ≤ sets.length) ∨ (mx < (sets.length : Int) ∧ m = 0 ∧ ∃ w, max mx 0 < ((bfs n n.firsts w).sets.length : Int))) ∧ 0 < sets.length ∧ Sub (.row sS 48 1 (setRows sets) :: (.row sE 4 1 (ends.map fun b => [AV.bool b])) :: (.row sN 48 1 (setRows next)) :: .row s9 62 258 [dRow (fun i => (clsOf n.al i : Int)) (.own (es.length + 4) sN) (.own (es.length + 5) sE)] :: .row s6 58 256 [byteT (fun i => (clsOf n.al i : Int))] :: .row s4 62 258 [dRow (fun _ => 0) .nil .nil] :: .row s2 36 3 [n.cells] :: es) es' ∧ Knows f [(1, .int .i64 mx), (2, .ptr es.length s2 0 0), (4, .ptr (es.length + 1) s4 0 0), (7, .int .i64 ((repsTo n.al 256).length : Int)), (8, .list 1 (n.firsts.map fun n => [.int .u8 n])), (9, .ptr (es.length + 3) s9 0 0), (10, .own (es.length + 6) sS), (11, .int .i64 (i : Int))]) (mx.toNat + 2) (⟨0, _, _, _, sE, sN, sS, .inl ⟨rfl, rfl, Nat.zero_le _⟩, Nat.zero_lt_one, Sub.refl _, by simp only [Knows, put, upd_apply, Nat.reduceEqDiff, ↓reduceIte, and_true, true_and, eq_self] <;> and_intros <;> rfl⟩) ?_
    rintro m f es' ⟨i, sets, next, ends, sE, sN, sS, hst0, hsp, hsub, hk⟩
    refine w_pins _ hsub (hk) ?_
    simp only [pins]
    refine w_seq ?_
    refine w_seq ?_
    refine w_region ?_
    refine l_cons rfl (p_move ?_)
    refine l_cons rfl (p_move ?_)
    refine l_cons rfl (p_leno sl_59 (a := .int .i64 (sets.length : Int)) ?_ (ha := by rw [setRows_len]))
    refine l_cons rfl (p_cmp ?_)
    refine l_cons rfl (p_move ?_)
    refine g_b rfl (fun h2 => ?_) (fun h2 => ?_)
    · skip
      have h2' := h2; (try simp only [decide_eq_true_eq, decide_eq_false_iff_not, Bool.not_eq_true', Bool.not_false, Bool.not_true, Bool.not_eq_false'] at h2')
      refine (p_move ?_)
      refine g_y rfl h2 (p_leno sl_59 (a := .int .i64 (sets.length : Int)) ?_ (ha := by rw [setRows_len]))
      refine g_y rfl h2 (p_move ?_)
      refine g_y rfl h2 (p_cmp ?_)
      refine l_cons rfl (p_pickt h2 ?_)
      refine l_nil ?_
      refine k_seq_normal ?_
      refine w_b (fun h3 => ?_) (fun h3 => ?_)
      · skip
        have h3' := h3; (try simp only [decide_eq_true_eq, decide_eq_false_iff_not, Bool.not_eq_true', Bool.not_false, Bool.not_true, Bool.not_eq_false'] at h3')
        have hnm : (⟨sets, next, ends⟩ : Bf) = (bfs n n.firsts i) ∧ m = mx.toNat + 2 - i ∧ i ≤ sets.length := hst0.resolve_right (fun hh => absurd hh.1 (by omega))
        obtain ⟨hB, rfl, hi1⟩ := hnm
        obtain ⟨rfl, rfl, rfl⟩ : sets = (bfs n n.firsts i).sets ∧ next = (bfs n n.firsts i).next ∧ ends = (bfs n n.firsts i).ends := ⟨congrArg Bf.sets hB, congrArg Bf.next hB, congrArg Bf.ends hB⟩
        clear hst0 hB
        have hbl := bfs_lens (n := n) (fs := n.firsts) i
        refine w_skip ?_
        refine k_seq_normal ?_
        refine w_seq ?_
        refine w_block ?_
        refine w_seq ?_
        refine w_region ?_
        refine l_cons rfl (p_assign ?_)
        refine l_nil ?_
        refine k_seq_normal ?_
        refine w_seq ?_
        refine w_seq ?_
        refine w_adopt 12 3 1 rfl fun s12 => ?_
        simp only [upd_upd]
        refine w_region ?_
        refine l_cons rfl (p_assign ?_)
        refine l_nil ?_
        refine k_seq_normal ?_
        refine w_block ?_
        refine w_loop (fun m f es' => ∃ j sS s12, m = n.firsts.length - j ∧ j ≤ n.firsts.length ∧ Sub (.row s12 3 1 ((rowTo n n.firsts (bfs n n.firsts i).sets ((bfs n n.firsts i).sets[i]'(by omega)) j).2.map fun n => [AV.int .i64 n]) :: .row sS 48 1 (setRows (rowTo n n.firsts (bfs n n.firsts i).sets ((bfs n n.firsts i).sets[i]'(by omega)) j).1) :: (.row sE 4 1 ((bfs n n.firsts i).ends.map fun b => [AV.bool b])) :: (.row sN 48 1 (setRows (bfs n n.firsts i).next)) :: .row s9 62 258 [dRow (fun i => (clsOf n.al i : Int)) (.own (es.length + 4) sN) (.own (es.length + 5) sE)] :: .row s6 58 256 [byteT (fun i => (clsOf n.al i : Int))] :: .row s4 62 258 [dRow (fun _ => 0) .nil .nil] :: .row s2 36 3 [n.cells] :: es) es' ∧ Knows f [(1, .int .i64 mx), (2, .ptr es.length s2 0 0), (4, .ptr (es.length + 1) s4 0 0), (7, .int .i64 ((repsTo n.al 256).length : Int)), (8, .list 1 (n.firsts.map fun n => [.int .u8 n])), (9, .ptr (es.length + 3) s9 0 0), (10, .own (es.length + 6) sS), (11, .int .i64 (i : Int)), (12, .own (es.length + 7) s12), (13, .int .i64 (j : Int))]) (n.firsts.length) (⟨0, sS, s12, (Nat.sub_zero _).symm, Nat.zero_le _, by rw [rowTo_zero]; exact Sub.refl _, by simp only [Knows, put, upd_apply, Nat.reduceEqDiff, ↓reduceIte, and_true, true_and, eq_self] <;> and_intros <;> rfl⟩) ?_
        rintro m f es' ⟨j, sS, s12, rfl, hj1, hsub, hk⟩
        have hgx := rowTo_at (n := n) (fs := n.firsts) (x := ((bfs n n.firsts i).sets[i]'(by omega))) (show i < (bfs n n.firsts i).sets.length by omega) hj1
        have hrl2 := rowTo_len2 (n := n) (fs := n.firsts) (sets := (bfs n n.firsts i).sets) (x := ((bfs n n.firsts i).sets[i]'(by omega))) hj1
        have hrc := rowTo_cap (n := n) (fs := n.firsts) (sets := (bfs n n.firsts i).sets) (x := ((bfs n n.firsts i).sets[i]'(by omega))) j hj1
        have hrg := rowTo_le (n := n) (fs := n.firsts) (sets := (bfs n n.firsts i).sets) (x := ((bfs n n.firsts i).sets[i]'(by omega))) (Nat.zero_le j) hj1
        rw [rowTo_zero] at hrg
        have fsl := bfs_short (n := n) (fs := n.firsts) i
        have hix := (List.getElem?_eq_some_iff.1 hgx).1
        refine w_pins _ hsub (hk) ?_
        simp only [pins]
        refine w_seq ?_
        refine w_seq ?_
        refine w_region ?_
        refine l_cons rfl (p_move ?_)
        refine l_cons rfl (p_move ?_)
        refine l_cons rfl (p_cmp ?_)
        refine l_cons rfl (p_move ?_)
        refine g_b rfl (fun h4 => ?_) (fun h4 => ?_)
        · skip
          have h4' := h4; (try simp only [decide_eq_true_eq, decide_eq_false_iff_not, Bool.not_eq_true', Bool.not_false, Bool.not_true, Bool.not_eq_false'] at h4')
          refine (p_move ?_)
          refine g_y rfl h4 (p_leno sl_59 (a := .int .i64 ((rowTo n n.firsts (bfs n n.firsts i).sets ((bfs n n.firsts i).sets[i]'(by omega)) j).1.length : Int)) ?_ (ha := by rw [setRows_len]))
          refine g_y rfl h4 (p_move ?_)
          refine g_y rfl h4 (p_cmp ?_)
          refine l_cons rfl (p_pickt h4 ?_)
          refine l_nil ?_
          refine k_seq_normal ?_
          refine w_b (fun h5 => ?_) (fun h5 => ?_)
          · skip
            have h5' := h5; (try simp only [decide_eq_true_eq, decide_eq_false_iff_not, Bool.not_eq_true', Bool.not_false, Bool.not_true, Bool.not_eq_false'] at h5')
            refine w_skip ?_
            refine k_seq_normal ?_
            refine w_seq ?_
            refine w_block ?_
            refine w_seq ?_
            have hfj := Nf.firsts_mem (List.getElem_mem (show j < n.firsts.length by omega))
            refine w_drawn 9 [] (fun e => e = _) mixed (by kernel_rfl) rfl ?_
            refine q1 2 (hg := rfl) (hu := rfl) (h := by rintro f _ rfl; exact p_loadp ty_36 ⟨rfl, rfl⟩) (k := ?_)
            refine q1 10 (hg := rfl) (hu := rfl) (h := by rintro f _ rfl; exact p_move ⟨rfl, rfl⟩) (k := ?_)
            refine q1 11 (hg := rfl) (hu := rfl) (h := by rintro f _ rfl; exact p_move ⟨rfl, rfl⟩) (k := ?_)
            refine q2 60 61 (hg := rfl) (hu := rfl) (h := by rintro f _ rfl; exact p_ixo sl_59 (a := .ptr (es.length + 6) sS i 0) ⟨rfl, rfl⟩ (h0 := by omega) (h1 := by rw [setRows_len]; omega)) (k := ?_)
            refine q1 62 (hg := rfl) (hu := rfl) (h := by rintro f _ rfl; exact p_loadp ty_48 (a := ints ((bfs n n.firsts i).sets[i]'(by omega))) ⟨rfl, rfl⟩ (hr := setRows_get hgx) (hl := Nat.le_refl 1) (ha := rfl)) (k := ?_)
            refine q1 8 (hg := rfl) (hu := rfl) (h := by rintro f _ rfl; exact p_move ⟨rfl, rfl⟩) (k := ?_)
            refine q1 13 (hg := rfl) (hu := rfl) (h := by rintro f _ rfl; exact p_move ⟨rfl, rfl⟩) (k := ?_)
            refine q2 64 65 (hg := rfl) (hu := rfl) (h := by rintro f _ rfl; exact p_ixl sl_22 (a := .fptr 1 (n.firsts.map fun n => [.int .u8 n]) j 0) ⟨rfl, rfl⟩ (h0 := by omega) (h1 := by simp only [List.length_map]; omega)) (k := ?_)
            refine q1 66 (hg := rfl) (hu := rfl) (h := by rintro f _ rfl; exact p_loadf ty_5 (a := .int .u8 (n.firsts[j]'(by omega))) ⟨rfl, rfl⟩ (hr := rowU8 (by omega)) (hl := Nat.le_refl 1) (ha := rfl)) (k := ?_)
            refine q_end ?_
            refine m_end ?_
            refine l_cons rfl (p_callr en_45 (refStepped n hok (by simpa using h1') ((bfs n n.firsts i).sets[i]'(by omega)) (n.firsts[j]'(by omega)) (by have := fsl _ (List.getElem_mem (show i < (bfs n n.firsts i).sets.length by omega)); omega) hfj.1 hfj.2) ?_)
            refine l_cons rfl (p_assign ?_)
            refine l_nil ?_
            refine k_seq_normal ?_
            refine w_seq ?_
            refine w_region ?_
            refine l_cons rfl (p_move ?_)
            refine l_cons rfl (p_move ?_)
            refine l_cons rfl (p_callr en_91 (find_walk (rowTo n n.firsts (bfs n n.firsts i).sets ((bfs n n.firsts i).sets[i]'(by omega)) j).1 (stepped n ((bfs n n.firsts i).sets[i]'(by omega)) (n.firsts[j]'(by omega))) (at_miss _ (at_hit _ _)) (by omega)) ?_)
            refine l_cons rfl (p_assign ?_)
            refine l_nil ?_
            refine k_seq_normal ?_
            refine w_seq ?_
            refine w_seq ?_
            refine w_region ?_
            refine l_cons rfl (p_move ?_)
            refine l_cons rfl (p_cmp ?_)
            refine l_nil ?_
            refine k_seq_normal ?_
            refine w_b (fun h6 => ?_) (fun h6 => ?_)
            · skip
              have h6' := h6; (try simp only [decide_eq_true_eq, decide_eq_false_iff_not, Bool.not_eq_true', Bool.not_false, Bool.not_true, Bool.not_eq_false'] at h6')
              have hnew : placeIx (rowTo n n.firsts (bfs n n.firsts i).sets ((bfs n n.firsts i).sets[i]'(by omega)) j).1 (stepped n ((bfs n n.firsts i).sets[i]'(by omega)) (n.firsts[j]'(by omega))) = (rowTo n n.firsts (bfs n n.firsts i).sets ((bfs n n.firsts i).sets[i]'(by omega)) j).1.length := find_neg h6
              refine w_seq ?_
              refine w_region ?_
              refine l_cons rfl (p_move ?_)
              refine l_cons rfl (p_leno sl_59 (a := .int .i64 ((rowTo n n.firsts (bfs n n.firsts i).sets ((bfs n n.firsts i).sets[i]'(by omega)) j).1.length : Int)) ?_ (ha := by rw [setRows_len]))
              refine l_cons rfl (p_assign ?_)
              refine l_nil ?_
              refine k_seq_normal ?_
              refine w_region ?_
              refine l_cons rfl (p_move ?_)
              refine l_cons rfl (p_move ?_)
              refine l_cons rfl (p_buildList sl_59 ze_48 (rows := [[ints (stepped n ((bfs n n.firsts i).sets[i]'(by omega)) (n.firsts[j]'(by omega)))]]) ?_ (hr := rfl))
              refine l_cons rfl (p_append sl_59 by_48 ze_48 (fun s79 => ?_) (hb := by simp only [setRows_len, List.length_map, List.length_cons, List.length_nil, most]; omega))
              refine l_cons rfl (p_assign ?_)
              refine l_nil ?_
              refine k_seq_normal ?_
              refine w_region ?_
              refine l_cons rfl (p_move ?_)
              refine l_cons rfl (p_move ?_)
              refine l_cons rfl (p_buildList sl_48 ze_3 ?_)
              refine l_cons rfl (p_append sl_48 by_3 ze_3 (fun s83 => ?_) (hb := by simp only [setRows_len, List.length_map, List.length_cons, List.length_nil, most]; omega))
              refine l_cons rfl (p_assign ?_)
              refine l_nil ?_
              refine k_blk_normal ?_
              refine k_seq_normal ?_
              refine w_region ?_
              refine l_cons rfl (p_move ?_)
              refine l_cons rfl (p_arith ?_)
              refine l_cons rfl (p_assign ?_)
              refine l_nil ?_
              refine k_seq_normal ?_
              first
              | exact ⟨n.firsts.length - (j + 1), by omega, j + 1, s79, s83, rfl, by omega, by rw [rowTo_succ (by omega), placeL_new hnew, hnew, setRows_app, List.map_append]; exact Sub.refl _, by simp only [Knows, put, upd_apply, Nat.reduceEqDiff, ↓reduceIte, and_true, true_and, eq_self] <;> and_intros <;> rfl⟩
              | exact ⟨n.firsts.length - (j + 1), by omega, j + 1, sS, s83, rfl, by omega, by rw [rowTo_succ (by omega), placeL_old hold, List.map_append]; exact Sub.refl _, by simp only [Knows, put, upd_apply, Nat.reduceEqDiff, ↓reduceIte, and_true, true_and, eq_self] <;> and_intros <;> rfl⟩
            · skip
              have h6' := h6; (try simp only [decide_eq_true_eq, decide_eq_false_iff_not, Bool.not_eq_true', Bool.not_false, Bool.not_true, Bool.not_eq_false'] at h6')
              have hold : ¬ placeIx (rowTo n n.firsts (bfs n n.firsts i).sets ((bfs n n.firsts i).sets[i]'(by omega)) j).1 (stepped n ((bfs n n.firsts i).sets[i]'(by omega)) (n.firsts[j]'(by omega))) = (rowTo n n.firsts (bfs n n.firsts i).sets ((bfs n n.firsts i).sets[i]'(by omega)) j).1.length := find_pos h6
              rw [find_old hold]
              refine w_skip ?_
              refine k_seq_normal ?_
              refine w_region ?_
              refine l_cons rfl (p_move ?_)
              refine l_cons rfl (p_move ?_)
              refine l_cons rfl (p_buildList sl_48 ze_3 ?_)
              refine l_cons rfl (p_append sl_48 by_3 ze_3 (fun s83 => ?_) (hb := by simp only [setRows_len, List.length_map, List.length_cons, List.length_nil, most]; omega))
              refine l_cons rfl (p_assign ?_)
              refine l_nil ?_
              refine k_blk_normal ?_
              refine k_seq_normal ?_
              refine w_region ?_
              refine l_cons rfl (p_move ?_)
              refine l_cons rfl (p_arith ?_)
              refine l_cons rfl (p_assign ?_)
              refine l_nil ?_
              refine k_seq_normal ?_
              first
              | exact ⟨n.firsts.length - (j + 1), by omega, j + 1, s79, s83, rfl, by omega, by rw [rowTo_succ (by omega), placeL_new hnew, hnew, setRows_app, List.map_append]; exact Sub.refl _, by simp only [Knows, put, upd_apply, Nat.reduceEqDiff, ↓reduceIte, and_true, true_and, eq_self] <;> and_intros <;> rfl⟩
              | exact ⟨n.firsts.length - (j + 1), by omega, j + 1, sS, s83, rfl, by omega, by rw [rowTo_succ (by omega), placeL_old hold, List.map_append]; exact Sub.refl _, by simp only [Knows, put, upd_apply, Nat.reduceEqDiff, ↓reduceIte, and_true, true_and, eq_self] <;> and_intros <;> rfl⟩
          · skip
            have h5' := h5; (try simp only [decide_eq_true_eq, decide_eq_false_iff_not, Bool.not_eq_true', Bool.not_false, Bool.not_true, Bool.not_eq_false'] at h5')
            refine w_exit ?_
            refine k_seq_exit ?_
            refine k_seq_exit ?_
            refine k_blk_here ?_
            refine k_seq_normal ?_
            refine w_freezeTop 12 ?_ (hclean := cleans_i64 _)
            refine w_drawn 17 [4, 15] (fun e => at_ e es.length = some (.row s2 36 3 [n.cells]) ∧ at_ e (es.length + 3) = some (.row s9 62 258 [dRow (fun i => (clsOf n.al i : Int)) (.own (es.length + 4) sN) (.own (es.length + 5) sE)]) ∧ at_ e (es.length + 6) = some (.row sS 48 1 (setRows (rowTo n n.firsts (bfs n n.firsts i).sets ((bfs n n.firsts i).sets[i]'(by omega)) j).1))) mixed (by kernel_rfl) ⟨row_h6, row_h3, at_hit _ _⟩ ?_
            refine q1 9 (hg := rfl) (hu := rfl) (h := by rintro f _ ⟨hG1, hG2, hG3⟩; exact p_fap fa_62_1 ⟨rfl, rfl⟩) (k := ?_)
            refine q1 84 (hg := rfl) (hu := rfl) (h := by rintro f _ ⟨hG1, hG2, hG3⟩; exact p_loadp ty_59 (a := .own (es.length + 4) sN) ⟨rfl, rfl⟩ (hl := by rw [dRow_len]; omega) (ha := dRow_load256)) (k := ?_)
            refine q1 12 (hg := rfl) (hu := rfl) (h := by rintro f _ ⟨hG1, hG2, hG3⟩; exact p_move ⟨rfl, rfl⟩) (k := ?_)
            refine q1 86 (hg := rfl) (hu := rfl) (h := by rintro f _ ⟨hG1, hG2, hG3⟩; exact p_buildList sl_59 ze_48 (rows := [[ints (rowTo n n.firsts (bfs n n.firsts i).sets ((bfs n n.firsts i).sets[i]'(by omega)) j).2]]) ⟨rfl, rfl⟩ (hr := rfl)) (k := ?_)
            refine q1 9 (hg := rfl) (hu := rfl) (h := by rintro f _ ⟨hG1, hG2, hG3⟩; exact p_fap fa_62_2 ⟨rfl, rfl⟩) (k := ?_)
            refine q1 89 (hg := rfl) (hu := rfl) (h := by rintro f _ ⟨hG1, hG2, hG3⟩; exact p_loadp ty_60 (a := .own (es.length + 5) sE) ⟨rfl, rfl⟩ (hl := by rw [dRow_len]; omega) (ha := dRow_load257)) (k := ?_)
            refine q1 10 (hg := rfl) (hu := rfl) (h := by rintro f _ ⟨hG1, hG2, hG3⟩; exact p_move ⟨rfl, rfl⟩) (k := ?_)
            refine q1 11 (hg := rfl) (hu := rfl) (h := by rintro f _ ⟨hG1, hG2, hG3⟩; exact p_move ⟨rfl, rfl⟩) (k := ?_)
            refine q2 91 92 (hg := rfl) (hu := rfl) (h := by rintro f _ ⟨hG1, hG2, hG3⟩; exact p_ixo sl_59 (a := .ptr (es.length + 6) sS i 0) ⟨rfl, rfl⟩ (h0 := by omega) (h1 := by rw [setRows_len]; omega)) (k := ?_)
            refine q1 93 (hg := rfl) (hu := rfl) (h := by rintro f _ ⟨hG1, hG2, hG3⟩; exact p_loadp ty_48 (a := ints ((bfs n n.firsts i).sets[i]'(by omega))) ⟨rfl, rfl⟩ (hr := setRows_get hgx) (hl := Nat.le_refl 1) (ha := rfl)) (k := ?_)
            refine q1 2 (hg := rfl) (hu := rfl) (h := by rintro f _ ⟨hG1, hG2, hG3⟩; exact p_fap fa_36_2 ⟨rfl, rfl⟩) (k := ?_)
            refine q1 95 (hg := rfl) (hu := rfl) (h := by rintro f _ ⟨hG1, hG2, hG3⟩; exact p_loadp ty_3 ⟨rfl, rfl⟩) (k := ?_)
            refine q2 94 96 (hg := rfl) (hu := rfl) (h := by rintro f _ ⟨hG1, hG2, hG3⟩; exact p_callr en_82 (refHas ((bfs n n.firsts i).sets[i]'(by omega)) n.stop) ⟨rfl, rfl⟩) (k := ?_)
            refine q1 97 (hg := rfl) (hu := rfl) (h := by rintro f _ ⟨hG1, hG2, hG3⟩; exact p_buildList sl_60 ze_4 ⟨rfl, rfl⟩) (k := ?_)
            refine q1 9 (hg := rfl) (hu := rfl) (h := by rintro f _ ⟨hG1, hG2, hG3⟩; exact p_fap fa_62_1 ⟨rfl, rfl⟩) (k := ?_)
            refine q_end ?_
            refine m2 85 87 (hu := rfl) (h := fun f => p_append sl_59 by_48 ze_48 (fun s88 => ?_) (hb := by simp only [setRows_len, List.length_map, List.length_cons, List.length_nil, most]; omega))
            refine ⟨_, rfl, ⟨row_h6, row_h3, at_hit _ _⟩, ?_⟩
            refine m2 90 98 (hu := rfl) (h := fun f => p_append sl_60 by_4 ze_4 (fun s99 => ?_) (hb := by simp only [setRows_len, List.length_map, List.length_cons, List.length_nil, most]; omega))
            refine ⟨_, rfl, ⟨row_h6, row_h3, at_hit _ _⟩, ?_⟩
            refine m_end ?_
            refine l_cons rfl (p_store ty_59 (r' := dRow (fun i => (clsOf n.al i : Int)) (.own (es.length + 4) s88) (.own (es.length + 5) sE)) ?_ (hl := by rw [dRow_len]; omega) (hr' := dRow_put256))
            refine l_cons rfl (p_fap fa_62_2 ?_)
            refine l_cons rfl (p_store ty_60 (r' := dRow (fun i => (clsOf n.al i : Int)) (.own (es.length + 4) s88) (.own (es.length + 5) s99)) ?_ (hl := by rw [dRow_len]; omega) (hr' := dRow_put257))
            refine l_nil ?_
            refine k_blk_normal ?_
            refine k_seq_normal ?_
            refine w_region ?_
            refine l_cons rfl (p_move ?_)
            refine l_cons rfl (p_arith ?_)
            refine l_cons rfl (p_assign ?_)
            refine l_nil ?_
            refine k_seq_normal ?_
            first
            | (have hjj : j = n.firsts.length := by omega
               exact ⟨mx.toNat + 2 - (i + 1), by omega, i + 1, _, _, _, s99, s88, sS, .inl ⟨by rw [bfs_alive (show i < (bfs n n.firsts i).sets.length by omega), ← hjj], rfl, by omega⟩, by omega, by rw [setRows_app, List.map_append]; exact Sub.refl _, by simp only [Knows, put, upd_apply, Nat.reduceEqDiff, ↓reduceIte, and_true, true_and, eq_self] <;> and_intros <;> rfl⟩)
            | (have hov := rowTo_le (n := n) (fs := n.firsts) (sets := (bfs n n.firsts i).sets) (x := ((bfs n n.firsts i).sets[i]'(by omega))) hj1 (Nat.le_refl _)
               exact ⟨0, by omega, i + 1, (rowTo n n.firsts (bfs n n.firsts i).sets ((bfs n n.firsts i).sets[i]'(by omega)) j).1, (bfs n n.firsts i).next ++ [(rowTo n n.firsts (bfs n n.firsts i).sets ((bfs n n.firsts i).sets[i]'(by omega)) j).2], (bfs n n.firsts i).ends ++ [((bfs n n.firsts i).sets[i]'(by omega)).contains n.stop], s99, s88, sS, .inr ⟨by omega, rfl, i + 1, by rw [bfs_alive (show i < (bfs n n.firsts i).sets.length by omega)]; simp only; omega⟩, by omega, by rw [setRows_app, List.map_append]; exact Sub.refl _, by simp only [Knows, put, upd_apply, Nat.reduceEqDiff, ↓reduceIte, and_true, true_and, eq_self] <;> and_intros <;> rfl⟩)
        · skip
          have h4' := h4; (try simp only [decide_eq_true_eq, decide_eq_false_iff_not, Bool.not_eq_true', Bool.not_false, Bool.not_true, Bool.not_eq_false'] at h4')
          refine g_n rfl h4 ?_
          refine g_n rfl h4 ?_
          refine g_n rfl h4 ?_
          refine l_cons rfl (p_pickf h4 ?_)
          refine l_nil ?_
          refine k_seq_normal ?_
          refine w_f rfl ?_
          refine w_exit ?_
          refine k_seq_exit ?_
          refine k_seq_exit ?_
          refine k_blk_here ?_
          refine k_seq_normal ?_
          refine w_freezeTop 12 ?_ (hclean := cleans_i64 _)
          refine w_drawn 17 [4, 15] (fun e => at_ e es.length = some (.row s2 36 3 [n.cells]) ∧ at_ e (es.length + 3) = some (.row s9 62 258 [dRow (fun i => (clsOf n.al i : Int)) (.own (es.length + 4) sN) (.own (es.length + 5) sE)]) ∧ at_ e (es.length + 6) = some (.row sS 48 1 (setRows (rowTo n n.firsts (bfs n n.firsts i).sets ((bfs n n.firsts i).sets[i]'(by omega)) j).1))) mixed (by kernel_rfl) ⟨row_h6, row_h3, at_hit _ _⟩ ?_
          refine q1 9 (hg := rfl) (hu := rfl) (h := by rintro f _ ⟨hG1, hG2, hG3⟩; exact p_fap fa_62_1 ⟨rfl, rfl⟩) (k := ?_)
          refine q1 84 (hg := rfl) (hu := rfl) (h := by rintro f _ ⟨hG1, hG2, hG3⟩; exact p_loadp ty_59 (a := .own (es.length + 4) sN) ⟨rfl, rfl⟩ (hl := by rw [dRow_len]; omega) (ha := dRow_load256)) (k := ?_)
          refine q1 12 (hg := rfl) (hu := rfl) (h := by rintro f _ ⟨hG1, hG2, hG3⟩; exact p_move ⟨rfl, rfl⟩) (k := ?_)
          refine q1 86 (hg := rfl) (hu := rfl) (h := by rintro f _ ⟨hG1, hG2, hG3⟩; exact p_buildList sl_59 ze_48 (rows := [[ints (rowTo n n.firsts (bfs n n.firsts i).sets ((bfs n n.firsts i).sets[i]'(by omega)) j).2]]) ⟨rfl, rfl⟩ (hr := rfl)) (k := ?_)
          refine q1 9 (hg := rfl) (hu := rfl) (h := by rintro f _ ⟨hG1, hG2, hG3⟩; exact p_fap fa_62_2 ⟨rfl, rfl⟩) (k := ?_)
          refine q1 89 (hg := rfl) (hu := rfl) (h := by rintro f _ ⟨hG1, hG2, hG3⟩; exact p_loadp ty_60 (a := .own (es.length + 5) sE) ⟨rfl, rfl⟩ (hl := by rw [dRow_len]; omega) (ha := dRow_load257)) (k := ?_)
          refine q1 10 (hg := rfl) (hu := rfl) (h := by rintro f _ ⟨hG1, hG2, hG3⟩; exact p_move ⟨rfl, rfl⟩) (k := ?_)
          refine q1 11 (hg := rfl) (hu := rfl) (h := by rintro f _ ⟨hG1, hG2, hG3⟩; exact p_move ⟨rfl, rfl⟩) (k := ?_)
          refine q2 91 92 (hg := rfl) (hu := rfl) (h := by rintro f _ ⟨hG1, hG2, hG3⟩; exact p_ixo sl_59 (a := .ptr (es.length + 6) sS i 0) ⟨rfl, rfl⟩ (h0 := by omega) (h1 := by rw [setRows_len]; omega)) (k := ?_)
          refine q1 93 (hg := rfl) (hu := rfl) (h := by rintro f _ ⟨hG1, hG2, hG3⟩; exact p_loadp ty_48 (a := ints ((bfs n n.firsts i).sets[i]'(by omega))) ⟨rfl, rfl⟩ (hr := setRows_get hgx) (hl := Nat.le_refl 1) (ha := rfl)) (k := ?_)
          refine q1 2 (hg := rfl) (hu := rfl) (h := by rintro f _ ⟨hG1, hG2, hG3⟩; exact p_fap fa_36_2 ⟨rfl, rfl⟩) (k := ?_)
          refine q1 95 (hg := rfl) (hu := rfl) (h := by rintro f _ ⟨hG1, hG2, hG3⟩; exact p_loadp ty_3 ⟨rfl, rfl⟩) (k := ?_)
          refine q2 94 96 (hg := rfl) (hu := rfl) (h := by rintro f _ ⟨hG1, hG2, hG3⟩; exact p_callr en_82 (refHas ((bfs n n.firsts i).sets[i]'(by omega)) n.stop) ⟨rfl, rfl⟩) (k := ?_)
          refine q1 97 (hg := rfl) (hu := rfl) (h := by rintro f _ ⟨hG1, hG2, hG3⟩; exact p_buildList sl_60 ze_4 ⟨rfl, rfl⟩) (k := ?_)
          refine q1 9 (hg := rfl) (hu := rfl) (h := by rintro f _ ⟨hG1, hG2, hG3⟩; exact p_fap fa_62_1 ⟨rfl, rfl⟩) (k := ?_)
          refine q_end ?_
          refine m2 85 87 (hu := rfl) (h := fun f => p_append sl_59 by_48 ze_48 (fun s88 => ?_) (hb := by simp only [setRows_len, List.length_map, List.length_cons, List.length_nil, most]; omega))
          refine ⟨_, rfl, ⟨row_h6, row_h3, at_hit _ _⟩, ?_⟩
          refine m2 90 98 (hu := rfl) (h := fun f => p_append sl_60 by_4 ze_4 (fun s99 => ?_) (hb := by simp only [setRows_len, List.length_map, List.length_cons, List.length_nil, most]; omega))
          refine ⟨_, rfl, ⟨row_h6, row_h3, at_hit _ _⟩, ?_⟩
          refine m_end ?_
          refine l_cons rfl (p_store ty_59 (r' := dRow (fun i => (clsOf n.al i : Int)) (.own (es.length + 4) s88) (.own (es.length + 5) sE)) ?_ (hl := by rw [dRow_len]; omega) (hr' := dRow_put256))
          refine l_cons rfl (p_fap fa_62_2 ?_)
          refine l_cons rfl (p_store ty_60 (r' := dRow (fun i => (clsOf n.al i : Int)) (.own (es.length + 4) s88) (.own (es.length + 5) s99)) ?_ (hl := by rw [dRow_len]; omega) (hr' := dRow_put257))
          refine l_nil ?_
          refine k_blk_normal ?_
          refine k_seq_normal ?_
          refine w_region ?_
          refine l_cons rfl (p_move ?_)
          refine l_cons rfl (p_arith ?_)
          refine l_cons rfl (p_assign ?_)
          refine l_nil ?_
          refine k_seq_normal ?_
          first
          | (have hjj : j = n.firsts.length := by omega
             exact ⟨mx.toNat + 2 - (i + 1), by omega, i + 1, _, _, _, s99, s88, sS, .inl ⟨by rw [bfs_alive (show i < (bfs n n.firsts i).sets.length by omega), ← hjj], rfl, by omega⟩, by omega, by rw [setRows_app, List.map_append]; exact Sub.refl _, by simp only [Knows, put, upd_apply, Nat.reduceEqDiff, ↓reduceIte, and_true, true_and, eq_self] <;> and_intros <;> rfl⟩)
          | (have hov := rowTo_le (n := n) (fs := n.firsts) (sets := (bfs n n.firsts i).sets) (x := ((bfs n n.firsts i).sets[i]'(by omega))) hj1 (Nat.le_refl _)
             exact ⟨0, by omega, i + 1, (rowTo n n.firsts (bfs n n.firsts i).sets ((bfs n n.firsts i).sets[i]'(by omega)) j).1, (bfs n n.firsts i).next ++ [(rowTo n n.firsts (bfs n n.firsts i).sets ((bfs n n.firsts i).sets[i]'(by omega)) j).2], (bfs n n.firsts i).ends ++ [((bfs n n.firsts i).sets[i]'(by omega)).contains n.stop], s99, s88, sS, .inr ⟨by omega, rfl, i + 1, by rw [bfs_alive (show i < (bfs n n.firsts i).sets.length by omega)]; simp only; omega⟩, by omega, by rw [setRows_app, List.map_append]; exact Sub.refl _, by simp only [Knows, put, upd_apply, Nat.reduceEqDiff, ↓reduceIte, and_true, true_and, eq_self] <;> and_intros <;> rfl⟩)
      · skip
        have h3' := h3; (try simp only [decide_eq_true_eq, decide_eq_false_iff_not, Bool.not_eq_true', Bool.not_false, Bool.not_true, Bool.not_eq_false'] at h3')
        refine w_exit ?_
        refine k_seq_exit ?_
        refine k_seq_exit ?_
        refine k_blk_here ?_
        refine k_seq_normal ?_
        refine w_seq ?_
        refine w_seq ?_
        refine w_region ?_
        refine l_cons rfl (p_move ?_)
        refine l_cons rfl (p_leno sl_59 (a := .int .i64 (sets.length : Int)) ?_ (ha := by rw [setRows_len]))
        refine l_cons rfl (p_move ?_)
        refine l_cons rfl (p_cmp ?_)
        refine l_nil ?_
        refine k_seq_normal ?_
        refine w_b (fun h7 => ?_) (fun h7 => ?_)
        · skip
          have h7' := h7; (try simp only [decide_eq_true_eq, decide_eq_false_iff_not, Bool.not_eq_true', Bool.not_false, Bool.not_true, Bool.not_eq_false'] at h7')
          refine w_seq ?_
          have hbud : makeN n mx = (zeroD, 7) := by
            rcases hst0 with ⟨hB, _, _⟩ | ⟨_, _, w, hw⟩
            · refine make_budget (by simpa using h1') (i := i) ?_
              rw [← hB]
              simp only
              omega
            · exact make_budget (by simpa using h1') hw
          refine w_region ?_
          refine l_cons rfl (p_build ze_d pl_62 ?_)
          refine l_cons rfl (p_store ty_62 (r' := dRow (fun _ => 0) .nil .nil) ?_ (hl := by rw [dRow_len]; exact Nat.le_refl _) (hn := dRow_len) (hr' := dRow_putAll))
          refine l_cons rfl (p_assign ?_)
          refine l_nil ?_
          refine k_seq_normal ?_
          refine w_ret ?_
          refine k_seq_ret ?_
          rw [hbud]
          exact retctw rfl ty_62 (by first | exact sub2 _ _ _ | exact sub7 _ _ _ _ _ _ _ _) (fun _ _ _ => rep_zero) ⟨rfl, rfl⟩ (hl := by rw [dRow_len]; exact Nat.le_refl _) (ha := dRow_all)
        · skip
          have h7' := h7; (try simp only [decide_eq_true_eq, decide_eq_false_iff_not, Bool.not_eq_true', Bool.not_false, Bool.not_true, Bool.not_eq_false'] at h7')
          refine w_skip ?_
          refine k_seq_normal ?_
          refine w_seq ?_
          obtain ⟨hB, hm0, hi1⟩ := hst0.resolve_right (fun hh => absurd hh.1 (by omega))
          obtain ⟨rfl, rfl, rfl⟩ : sets = (bfs n n.firsts i).sets ∧ next = (bfs n n.firsts i).next ∧ ends = (bfs n n.firsts i).ends := ⟨congrArg Bf.sets hB, congrArg Bf.next hB, congrArg Bf.ends hB⟩
          refine w_less (fun _ => .inl rfl) (sub1 _ _) ?_
          refine w_freezeCell' (i := 256) (id := es.length + 3) (j := es.length + 4) (loc_miss loc_hit) (loc_miss (loc_miss loc_hit)) (by omega) dRow_256 (cleans_sets _) ?_
          rw [dRow_set256]
          refine w_freezeCell' (i := 257) (id := es.length + 3) (j := es.length + 5) loc_hit (loc_miss (loc_miss loc_hit)) (by omega) dRow_257 (cleans_bool _) ?_
          rw [dRow_set257]
          refine w_region ?_
          refine l_cons rfl (p_loadp ty_62 (a := .agg (dRow (fun i => (clsOf n.al i : Int)) (.list 1 (setRows (bfs n n.firsts i).next)) (.list 1 ((bfs n n.firsts i).ends.map fun b => [AV.bool b])))) ?_ (hl := by rw [dRow_len]; exact Nat.le_refl _) (ha := dRow_all))
          refine l_cons rfl (p_store ty_62 (r' := dRow (fun i => (clsOf n.al i : Int)) (.list 1 (setRows (bfs n n.firsts i).next)) (.list 1 ((bfs n n.firsts i).ends.map fun b => [AV.bool b]))) ?_ (hl := by rw [dRow_len]; exact Nat.le_refl _) (hn := dRow_len) (hr' := dRow_putAll))
          refine l_cons rfl (p_assign ?_)
          refine l_nil ?_
          refine k_seq_normal ?_
          refine w_ret ?_
          rw [make_done (by simpa using h1') (i := i) (by omega) (by omega)]
          exact retct rfl ty_62 (sub6 _ _ _ _ _ _ _) ⟨rfl, rfl⟩ (hl := by rw [dRow_len]; exact Nat.le_refl _) (ha := dRow_all)
    · skip
      have h2' := h2; (try simp only [decide_eq_true_eq, decide_eq_false_iff_not, Bool.not_eq_true', Bool.not_false, Bool.not_true, Bool.not_eq_false'] at h2')
      refine g_n rfl h2 ?_
      refine g_n rfl h2 ?_
      refine g_n rfl h2 ?_
      refine l_cons rfl (p_pickf h2 ?_)
      refine l_nil ?_
      refine k_seq_normal ?_
      refine w_f rfl ?_
      refine w_exit ?_
      refine k_seq_exit ?_
      refine k_seq_exit ?_
      refine k_blk_here ?_
      refine k_seq_normal ?_
      refine w_seq ?_
      refine w_seq ?_
      refine w_region ?_
      refine l_cons rfl (p_move ?_)
      refine l_cons rfl (p_leno sl_59 (a := .int .i64 (sets.length : Int)) ?_ (ha := by rw [setRows_len]))
      refine l_cons rfl (p_move ?_)
      refine l_cons rfl (p_cmp ?_)
      refine l_nil ?_
      refine k_seq_normal ?_
      refine w_b (fun h8 => ?_) (fun h8 => ?_)
      · skip
        have h8' := h8; (try simp only [decide_eq_true_eq, decide_eq_false_iff_not, Bool.not_eq_true', Bool.not_false, Bool.not_true, Bool.not_eq_false'] at h8')
        refine w_seq ?_
        have hbud : makeN n mx = (zeroD, 7) := by
          rcases hst0 with ⟨hB, _, _⟩ | ⟨_, _, w, hw⟩
          · refine make_budget (by simpa using h1') (i := i) ?_
            rw [← hB]
            simp only
            omega
          · exact make_budget (by simpa using h1') hw
        refine w_region ?_
        refine l_cons rfl (p_build ze_d pl_62 ?_)
        refine l_cons rfl (p_store ty_62 (r' := dRow (fun _ => 0) .nil .nil) ?_ (hl := by rw [dRow_len]; exact Nat.le_refl _) (hn := dRow_len) (hr' := dRow_putAll))
        refine l_cons rfl (p_assign ?_)
        refine l_nil ?_
        refine k_seq_normal ?_
        refine w_ret ?_
        refine k_seq_ret ?_
        rw [hbud]
        exact retctw rfl ty_62 (by first | exact sub2 _ _ _ | exact sub7 _ _ _ _ _ _ _ _) (fun _ _ _ => rep_zero) ⟨rfl, rfl⟩ (hl := by rw [dRow_len]; exact Nat.le_refl _) (ha := dRow_all)
      · skip
        have h8' := h8; (try simp only [decide_eq_true_eq, decide_eq_false_iff_not, Bool.not_eq_true', Bool.not_false, Bool.not_true, Bool.not_eq_false'] at h8')
        refine w_skip ?_
        refine k_seq_normal ?_
        refine w_seq ?_
        obtain ⟨hB, hm0, hi1⟩ := hst0.resolve_right (fun hh => absurd hh.1 (by omega))
        obtain ⟨rfl, rfl, rfl⟩ : sets = (bfs n n.firsts i).sets ∧ next = (bfs n n.firsts i).next ∧ ends = (bfs n n.firsts i).ends := ⟨congrArg Bf.sets hB, congrArg Bf.next hB, congrArg Bf.ends hB⟩
        refine w_less (fun _ => .inl rfl) (sub1 _ _) ?_
        refine w_freezeCell' (i := 256) (id := es.length + 3) (j := es.length + 4) (loc_miss loc_hit) (loc_miss (loc_miss loc_hit)) (by omega) dRow_256 (cleans_sets _) ?_
        rw [dRow_set256]
        refine w_freezeCell' (i := 257) (id := es.length + 3) (j := es.length + 5) loc_hit (loc_miss (loc_miss loc_hit)) (by omega) dRow_257 (cleans_bool _) ?_
        rw [dRow_set257]
        refine w_region ?_
        refine l_cons rfl (p_loadp ty_62 (a := .agg (dRow (fun i => (clsOf n.al i : Int)) (.list 1 (setRows (bfs n n.firsts i).next)) (.list 1 ((bfs n n.firsts i).ends.map fun b => [AV.bool b])))) ?_ (hl := by rw [dRow_len]; exact Nat.le_refl _) (ha := dRow_all))
        refine l_cons rfl (p_store ty_62 (r' := dRow (fun i => (clsOf n.al i : Int)) (.list 1 (setRows (bfs n n.firsts i).next)) (.list 1 ((bfs n n.firsts i).ends.map fun b => [AV.bool b]))) ?_ (hl := by rw [dRow_len]; exact Nat.le_refl _) (hn := dRow_len) (hr' := dRow_putAll))
        refine l_cons rfl (p_assign ?_)
        refine l_nil ?_
        refine k_seq_normal ?_
        refine w_ret ?_
        rw [make_done (by simpa using h1') (i := i) (by omega) (by omega)]
        exact retct rfl ty_62 (sub6 _ _ _ _ _ _ _) ⟨rfl, rfl⟩ (hl := by rw [dRow_len]; exact Nat.le_refl _) (ha := dRow_all)
end Go.Proofs.YtfdgbghlanbddaaDoor.Av
set_option linter.unusedVariables false
set_option linter.unusedSimpArgs false
set_option maxRecDepth 8000
namespace Go.Proofs.YtfdgbghlanbddaaDoor.Av
open Go.RowKit Go.Proofs
variable {d : Df}
theorem row_ints {l : List (List Int)} {k : Nat} (h : k < l.length) : (l.map fun r => [ints r])[k]? = some [ints l[k]] := by simp [h]
end Go.Proofs.YtfdgbghlanbddaaDoor.Av
