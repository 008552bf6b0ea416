import Derived.Test.YtfdgbghlanbddaaDoorAvK0
import Derived.Test.YtfdgbghlanbddaaDoorAvK1
import Derived.Lib.TrailingZeros
import Derived.Laws.Bits64b
set_option linter.unusedVariables false
set_option linter.unusedSimpArgs false
set_option maxRecDepth 8000
namespace Go.Proofs.YtfdgbghlanbddaaDoor.Av
open Go.RowKit Go.Proofs
theorem light_walk {w0 : World} {es : List Ent} (n : Nf) (k : Int) : ACalls Tryd.prog w0 36 [n.av, .int .i64 k] es fun v es' => v = .bool (lightN n k) ∧ es' = es := by
  unfold Nf.av
  refine calls2 (N := 26) Tryd.func36 rfl rfl (by decide) ?_
  refine w_seq ?_
  refine w_region ?_
  refine l_cons rfl (p_box fun s2 => ?_)
  refine l_cons rfl (p_assign ?_)
  refine l_nil ?_
  refine k_seq_normal ?_
  refine w_seq ?_
  refine w_seq ?_
  refine w_region ?_
  refine l_cons rfl (p_fap fa_36_0 ?_)
  refine l_cons rfl (p_loadp ty_34 ?_)
  refine l_len 7 fun hlen => ?_
  simp only [List.length_map, most] at hlen
  first | refine l_cons rfl (p_lenl sl_34 ?_) | refine l_cons rfl (p_leno sl_34 ?_) | refine l_cons rfl (p_lenn sl_34 ?_)
  refine l_cons rfl (p_move ?_)
  refine l_cons rfl (p_cmp ?_)
  refine l_nil ?_
  refine k_seq_normal ?_
  refine w_b (fun h1 => ?_) (fun h1 => ?_)
  · skip
    have h1' := h1; (try simp only [decide_eq_true_eq, decide_eq_false_iff_not, Bool.not_eq_true', Bool.not_false, Bool.not_true, Bool.not_eq_false'] at h1')
    refine w_seq ?_
    refine w_region ?_
    refine l_cons rfl (p_assign ?_)
    refine l_nil ?_
    refine k_seq_normal ?_
    refine w_ret ?_
    refine k_seq_ret ?_
    exact ret1 rfl (by simp only [ev_tmp, ev_const, ev_func, ofConst_int, ofConst_bool, ofConst_str, ofConst_nil, upd_apply, Nat.reduceEqDiff, ↓reduceIte] <;> exact rfl) (by first | exact Sub.refl _ | exact sub1 _ _ | exact sub2 _ _ _ | exact sub3 _ _ _ _ | exact sub4 _ _ _ _ _ | exact sub5 _ _ _ _ _ _) ⟨by rw [light_no (j := 0) (.inl (by omega))], rfl⟩
  · skip
    have h1' := h1; (try simp only [decide_eq_true_eq, decide_eq_false_iff_not, Bool.not_eq_true', Bool.not_false, Bool.not_true, Bool.not_eq_false'] at h1')
    refine w_skip ?_
    refine k_seq_normal ?_
    refine w_seq ?_
    refine w_seq ?_
    refine w_region ?_
    refine l_cons rfl (p_assign ?_)
    refine l_nil ?_
    refine k_seq_normal ?_
    refine w_block ?_
    refine w_loop (fun m f es' => ∃ j, m = n.st.length - j ∧ j ≤ n.st.length ∧ (n.st.take j).all (fun s => decide (s.free.length ≤ 20)) = true ∧ es' = .row s2 36 3 [n.cells] :: es ∧ Knows f [(2, .ptr es.length s2 0 0), (5, .int .i64 j)]) (n.st.length) (⟨0, rfl, Nat.zero_le _, rfl, rfl, by simp only [Knows, upd_apply, Nat.reduceEqDiff, ↓reduceIte, and_true, true_and, eq_self] <;> and_intros <;> rfl⟩) ?_
    rintro m f es' ⟨j, rfl, hj1, hj2, rfl, hk⟩
    refine w_pins _ (Sub.refl _) (hk) ?_
    simp only [pins]
    refine w_seq ?_
    refine w_seq ?_
    refine w_region ?_
    refine l_cons rfl (p_move ?_)
    refine l_cons rfl (p_fap fa_36_0 ?_)
    refine l_cons rfl (p_loadp ty_34 ?_)
    first | refine l_cons rfl (p_lenl sl_34 ?_) | refine l_cons rfl (p_leno sl_34 ?_) | refine l_cons rfl (p_lenn sl_34 ?_)
    refine l_cons rfl (p_cmp ?_)
    refine l_nil ?_
    refine k_seq_normal ?_
    refine w_b (fun h2 => ?_) (fun h2 => ?_)
    · skip
      have h2' := h2; (try simp only [decide_eq_true_eq, decide_eq_false_iff_not, Bool.not_eq_true', Bool.not_false, Bool.not_true, Bool.not_eq_false'] at h2')
      refine w_skip ?_
      refine k_seq_normal ?_
      refine w_seq ?_
      refine w_block ?_
      refine w_seq ?_
      refine w_region ?_
      refine l_cons rfl (p_fap fa_36_0 ?_)
      refine l_cons rfl (p_loadp ty_34 ?_)
      refine l_cons rfl (p_move ?_)
      first | refine l_cons rfl (p_ixl sl_34 ?_) | refine l_cons rfl (p_ixo sl_34 ?_)
      first | refine l_cons rfl (p_fap fa_75_2 ?_) | refine l_cons rfl (p_faf fa_75_2 ?_)
      first | refine l_cons rfl (p_loadf ty_48 ?_) | refine l_cons rfl (p_loadp ty_48 ?_)
      first | refine l_cons rfl (p_lenl sl_48 ?_) | refine l_cons rfl (p_leno sl_48 ?_) | refine l_cons rfl (p_lenn sl_48 ?_)
      refine l_cons rfl (p_cmp ?_)
      refine l_nil ?_
      refine k_seq_normal ?_
      refine w_b (fun h3 => ?_) (fun h3 => ?_)
      · skip
        have h3' := h3; (try simp only [decide_eq_true_eq, decide_eq_false_iff_not, Bool.not_eq_true', Bool.not_false, Bool.not_true, Bool.not_eq_false'] at h3')
        refine w_seq ?_
        refine w_region ?_
        refine l_cons rfl (p_assign ?_)
        refine l_nil ?_
        refine k_seq_normal ?_
        refine w_ret ?_
        refine k_blk_ret ?_
        refine k_seq_ret ?_
        refine k_seq_ret ?_
        refine k_blk_ret ?_
        refine k_seq_ret ?_
        exact ret1 rfl (by simp only [ev_tmp, ev_const, ev_func, ofConst_int, ofConst_bool, ofConst_str, ofConst_nil, upd_apply, Nat.reduceEqDiff, ↓reduceIte] <;> exact rfl) (by first | exact Sub.refl _ | exact sub1 _ _ | exact sub2 _ _ _ | exact sub3 _ _ _ _ | exact sub4 _ _ _ _ _ | exact sub5 _ _ _ _ _ _) ⟨by rw [light_no (j := j) (.inr ⟨by omega, by omega⟩)], rfl⟩
      · skip
        have h3' := h3; (try simp only [decide_eq_true_eq, decide_eq_false_iff_not, Bool.not_eq_true', Bool.not_false, Bool.not_true, Bool.not_eq_false'] at h3')
        refine w_skip ?_
        refine k_blk_normal ?_
        refine k_seq_normal ?_
        refine w_region ?_
        refine l_cons rfl (p_move ?_)
        refine l_cons rfl (p_arith ?_)
        refine l_cons rfl (p_assign ?_)
        refine l_nil ?_
        refine k_seq_normal ?_
        exact ⟨n.st.length - (j + 1), by omega, j + 1, rfl, by omega, take_all (by omega) hj2 (by simp only [decide_eq_true_eq]; omega), rfl, by simp only [Knows, upd_apply, Nat.reduceEqDiff, ↓reduceIte, and_true, true_and, eq_self] <;> and_intros <;> rfl⟩
    · skip
      have h2' := h2; (try simp only [decide_eq_true_eq, decide_eq_false_iff_not, Bool.not_eq_true', Bool.not_false, Bool.not_true, Bool.not_eq_false'] at h2')
      refine w_exit ?_
      refine k_seq_exit ?_
      refine k_seq_exit ?_
      refine k_blk_here ?_
      refine k_seq_normal ?_
      refine w_seq ?_
      refine w_region ?_
      refine l_cons rfl (p_assign ?_)
      refine l_nil ?_
      refine k_seq_normal ?_
      refine w_ret ?_
      exact ret1 rfl (by simp only [ev_tmp, ev_const, ev_func, ofConst_int, ofConst_bool, ofConst_str, ofConst_nil, upd_apply, Nat.reduceEqDiff, ↓reduceIte] <;> exact rfl) (by first | exact Sub.refl _ | exact sub1 _ _ | exact sub2 _ _ _ | exact sub3 _ _ _ _ | exact sub4 _ _ _ _ _ | exact sub5 _ _ _ _ _ _) ⟨by rw [light_yes (by omega) (by rw [← hj2, List.take_of_length_le (by omega)])], rfl⟩
theorem bytesetHas {w0 : World} {es : List Ent} (c0 c1 c2 c3 b : Int) (hb0 : 0 ≤ b) (hb1 : b < 256) : ACalls Tryd.prog w0 100 [.agg [.int .u64 c0, .int .u64 c1, .int .u64 c2, .int .u64 c3], .int .u8 b] es fun v es' => v = .bool (hasW c0 c1 c2 c3 b) ∧ es' = es := by
  obtain ⟨q, hq4, hq, hw⟩ := word_at c0 c1 c2 c3 hb0 hb1
  refine calls2 (N := 14) Tryd.func100 rfl rfl (by decide) ?_
  refine w_seq ?_
  refine w_region ?_
  refine l_cons rfl (p_box fun s2 => ?_)
  refine l_cons rfl (p_assign ?_)
  refine l_nil ?_
  refine k_seq_normal ?_
  refine w_seq ?_
  refine w_region ?_
  refine l_cons rfl (p_move ?_)
  refine l_cons rfl (p_arith ?_ (hb := quo64 hb0 hb1))
  refine l_cons rfl (p_ixa ar_26 (a := .ptr es.length s2 0 q) ?_ (h0 := by omega) (h1 := by omega) (ho := by rw [hq]; simp))
  refine l_cons rfl (p_loadp ty_24 (a := .int .u64 (word c0 c1 c2 c3 b)) ?_ (hl := by simp only [List.length_cons, List.length_nil]; omega) (ha := hw))
  refine l_cons rfl (p_move ?_)
  refine l_cons rfl (p_arith ?_ (hb := rem64 hb0))
  refine l_cons rfl (p_shr ?_)
  refine l_cons rfl (p_arith ?_ (hb := and1 _))
  refine l_cons rfl (p_cmp ?_)
  refine l_cons rfl (p_assign ?_)
  refine l_nil ?_
  refine k_seq_normal ?_
  refine w_ret ?_
  exact ret1 rfl (by simp only [ev_tmp, ev_const, ev_func, ofConst_int, ofConst_bool, ofConst_str, ofConst_nil, upd_apply, Nat.reduceEqDiff, ↓reduceIte] <;> exact rfl) (by first | exact Sub.refl _ | exact sub1 _ _ | exact sub2 _ _ _ | exact sub3 _ _ _ _ | exact sub4 _ _ _ _ _ | exact sub5 _ _ _ _ _ _) ⟨rfl, rfl⟩
theorem ref1Has {w0 : World} {es : List Ent} (c0 c1 c2 c3 b : Int) (hb0 : 0 ≤ b) (hb1 : b < 256) (hc0 : 0 ≤ c0) (hc1 : 0 ≤ c1) (hc2 : 0 ≤ c2) (hc3 : 0 ≤ c3) : ACalls Tryd.prog w0 55 [.agg [.int .u64 c0, .int .u64 c1, .int .u64 c2, .int .u64 c3], .int .u8 b] es fun v es' => v = .bool (hasW c0 c1 c2 c3 b) ∧ es' = es := by
  obtain ⟨q, hq4, hq, hw⟩ := word_at c0 c1 c2 c3 hb0 hb1
  refine calls2 (N := 14) Tryd.func55 rfl rfl (by decide) ?_
  refine w_seq ?_
  refine w_region ?_
  refine l_cons rfl (p_box fun s2 => ?_)
  refine l_cons rfl (p_assign ?_)
  refine l_nil ?_
  refine k_seq_normal ?_
  refine w_seq ?_
  refine w_region ?_
  refine l_cons rfl (p_move ?_)
  refine l_cons rfl (p_arith ?_ (hb := quo64 hb0 hb1))
  refine l_cons rfl (p_ixa ar_26 (a := .ptr es.length s2 0 q) ?_ (h0 := by omega) (h1 := by omega) (ho := by rw [hq]; simp))
  refine l_cons rfl (p_loadp ty_24 (a := .int .u64 (word c0 c1 c2 c3 b)) ?_ (hl := by simp only [List.length_cons, List.length_nil]; omega) (ha := hw))
  refine l_cons rfl (p_move ?_)
  refine l_cons rfl (p_arith ?_ (hb := rem64 hb0))
  refine l_cons rfl (p_shr ?_)
  refine l_cons rfl (p_arith ?_ (hb := rem2 (shr_nonneg (word_nonneg hc0 hc1 hc2 hc3 b) _)))
  refine l_cons rfl (p_cmp ?_)
  refine l_cons rfl (p_assign ?_)
  refine l_nil ?_
  refine k_seq_normal ?_
  refine w_ret ?_
  exact ret1 rfl (by simp only [ev_tmp, ev_const, ev_func, ofConst_int, ofConst_bool, ofConst_str, ofConst_nil, upd_apply, Nat.reduceEqDiff, ↓reduceIte] <;> exact rfl) (by first | exact Sub.refl _ | exact sub1 _ _ | exact sub2 _ _ _ | exact sub3 _ _ _ _ | exact sub4 _ _ _ _ _ | exact sub5 _ _ _ _ _ _) ⟨rfl, rfl⟩
theorem index_walk {w0 : World} {es : List Ent} (l : List Int) (x : Int) : ACalls Tryd.prog w0 117 [ints l, .int .i64 x] es fun v es' => v = .int .i64 (firstIdx (fun y => decide (x = y)) l) ∧ es' = es := by
  unfold ints
  refine calls2 (N := 19) Tryd.func117 rfl rfl (by decide) ?_
  refine w_seq ?_
  refine w_region ?_
  refine l_cons rfl (p_assign ?_)
  refine l_nil ?_
  refine k_seq_normal ?_
  refine w_seq ?_
  refine w_seq ?_
  refine w_len 0 fun hl => ?_
  rw [List.length_map] at hl
  simp only [most] at hl
  refine w_region ?_
  refine l_cons rfl (p_move ?_)
  refine l_cons rfl (p_lenl sl_48 ?_)
  refine l_cons rfl (p_move ?_)
  refine l_nil ?_
  refine k_seq_normal ?_
  refine w_block ?_
  refine w_loop (fun n f es' => ∃ k, n = l.length - k ∧ k ≤ l.length ∧ (∀ j (hj : j < k) (hjl : j < l.length), decide (x = l[j]) = false) ∧ es' = es ∧ Knows f [(0, .list 1 (l.map fun n => [.int .i64 n])), (1, .int .i64 x), (7, .int .i64 l.length), (8, .int .i64 k)]) (l.length) (⟨0, rfl, Nat.zero_le _, fun j hj => absurd hj (Nat.not_lt_zero _), rfl, by simp only [Knows, upd_apply, Nat.reduceEqDiff, ↓reduceIte, and_true, true_and, eq_self] <;> and_intros <;> rfl⟩) ?_
  rintro n f es' ⟨k, rfl, hk1, hk2, rfl, hk⟩
  refine w_pins _ (Sub.refl _) (hk) ?_
  simp only [pins]
  refine w_seq ?_
  refine w_region ?_
  refine l_cons rfl (p_cmp ?_)
  refine l_nil ?_
  refine k_seq_normal ?_
  refine w_seq ?_
  refine w_b (fun h1 => ?_) (fun h1 => ?_)
  · skip
    have h1' := h1; (try simp only [decide_eq_true_eq, decide_eq_false_iff_not, Bool.not_eq_true', Bool.not_false, Bool.not_true, Bool.not_eq_false'] at h1')
    refine w_skip ?_
    refine k_seq_normal ?_
    refine w_seq ?_
    refine w_block ?_
    refine w_seq ?_
    refine w_region ?_
    refine l_cons rfl (p_move ?_)
    refine l_cons rfl (p_assign ?_)
    refine l_nil ?_
    refine k_seq_normal ?_
    refine w_seq ?_
    refine w_region ?_
    refine l_cons rfl (p_move ?_)
    refine l_cons rfl (p_move ?_)
    refine l_cons rfl (p_move ?_)
    refine l_cons rfl (p_ixl sl_48 ?_)
    refine l_cons rfl (p_loadf ty_3 ?_)
    refine l_cons rfl (p_cmp ?_)
    refine l_nil ?_
    refine k_seq_normal ?_
    refine w_b (fun h2 => ?_) (fun h2 => ?_)
    · skip
      have h2' := h2; (try simp only [decide_eq_true_eq, decide_eq_false_iff_not, Bool.not_eq_true', Bool.not_false, Bool.not_true, Bool.not_eq_false'] at h2')
      refine w_seq ?_
      refine w_region ?_
      refine l_cons rfl (p_move ?_)
      refine l_cons rfl (p_assign ?_)
      refine l_nil ?_
      refine k_seq_normal ?_
      refine w_ret ?_
      refine k_blk_ret ?_
      refine k_seq_ret ?_
      refine k_seq_ret ?_
      refine k_blk_ret ?_
      refine k_seq_ret ?_
      exact ret1 rfl (by simp only [ev_tmp, ev_const, ev_func, ofConst_int, ofConst_bool, ofConst_str, ofConst_nil, upd_apply, Nat.reduceEqDiff, ↓reduceIte] <;> exact rfl) (Sub.refl _) ⟨by rw [firstIdx_at (l := l) (k := k) (by omega) (fun j hj => hk2 j hj (by omega)) (by assumption)], rfl⟩
    · skip
      have h2' := h2; (try simp only [decide_eq_true_eq, decide_eq_false_iff_not, Bool.not_eq_true', Bool.not_false, Bool.not_true, Bool.not_eq_false'] at h2')
      refine w_skip ?_
      refine k_blk_normal ?_
      refine k_seq_normal ?_
      refine w_region ?_
      refine l_cons rfl (p_arith ?_)
      refine l_cons rfl (p_move ?_)
      refine l_nil ?_
      refine k_seq_normal ?_
      exact ⟨l.length - (k + 1), by omega, k + 1, rfl, by omega, fun j hj hjl => by
        rcases Nat.lt_or_eq_of_le (Nat.le_of_lt_succ hj) with h9 | h9
        · exact hk2 j h9 hjl
        · subst h9; assumption, rfl, by simp only [Knows, upd_apply, Nat.reduceEqDiff, ↓reduceIte, and_true, true_and, eq_self] <;> and_intros <;> rfl⟩
  · skip
    have h1' := h1; (try simp only [decide_eq_true_eq, decide_eq_false_iff_not, Bool.not_eq_true', Bool.not_false, Bool.not_true, Bool.not_eq_false'] at h1')
    refine w_exit ?_
    refine k_seq_exit ?_
    refine k_seq_exit ?_
    refine k_blk_here ?_
    refine k_seq_normal ?_
    refine w_seq ?_
    refine w_region ?_
    refine l_cons rfl (p_assign ?_)
    refine l_nil ?_
    refine k_seq_normal ?_
    refine w_ret ?_
    exact ret1 rfl (by simp only [ev_tmp, ev_const, ev_func, ofConst_int, ofConst_bool, ofConst_str, ofConst_nil, upd_apply, Nat.reduceEqDiff, ↓reduceIte] <;> exact rfl) (Sub.refl _) ⟨by rw [firstIdx_no (l := l) (fun j hj => hk2 j (by omega) hj)], rfl⟩
theorem contains_walk {w0 : World} {es : List Ent} (l : List Int) (x : Int) : ACalls Tryd.prog w0 80 [ints l, .int .i64 x] es fun v es' => v = .bool (l.contains x) ∧ es' = es := by
  refine calls2 (N := 9) Tryd.func80 rfl rfl (by decide) ?_
  refine w_seq ?_
  refine w_region ?_
  refine l_cons rfl (p_assign ?_)
  refine l_nil ?_
  refine k_seq_normal ?_
  refine w_seq ?_
  refine w_region ?_
  refine l_cons rfl (p_move ?_)
  refine l_cons rfl (p_move ?_)
  refine l_cons rfl (p_callr en_117 (index_walk l x) ?_)
  refine l_cons rfl (p_cmp ?_)
  refine l_cons rfl (p_assign ?_)
  refine l_nil ?_
  refine k_seq_normal ?_
  refine w_ret ?_
  exact ret1 rfl (by simp only [ev_tmp, ev_const, ev_func, ofConst_int, ofConst_bool, ofConst_str, ofConst_nil, upd_apply, Nat.reduceEqDiff, ↓reduceIte] <;> exact rfl) (by first | exact Sub.refl _ | exact sub1 _ _ | exact sub2 _ _ _ | exact sub3 _ _ _ _ | exact sub4 _ _ _ _ _ | exact sub5 _ _ _ _ _ _) ⟨by rw [contains_any, ← firstIdx_ge], rfl⟩
theorem stepped_walk {w0 : World} {es : List Ent} (n : Nf) (l : List Int) (b : Int) (hn : n.st.length ≤ 2000) (hl : l.length ≤ 1099511627776) (hb0 : 0 ≤ b) (hb1 : b < 256) :
    ACalls Tryd.prog w0 79 [n.av, ints l, .int .u8 b] es fun v es' => v = ints (stepped n l b) ∧ es' = es := by
  unfold Nf.av ints
  refine calls3 (N := 57) Tryd.func79 rfl rfl (by decide) ?_
  refine w_seq ?_
  refine w_region ?_
  refine l_cons rfl (p_box fun s3 => ?_)
  refine l_cons rfl (p_assign ?_)
  refine l_nil ?_
  refine k_seq_normal ?_
  refine w_seq ?_
  refine w_region ?_
  refine l_cons rfl (p_assign ?_)
  refine l_nil ?_
  refine k_seq_normal ?_
  refine w_seq ?_
  refine w_seq ?_
  refine w_adopt 7 3 1 rfl fun s7 => ?_
  simp only [upd_upd]
  refine w_region ?_
  refine l_cons rfl (p_move ?_)
  refine l_cons rfl (p_lenl sl_48 ?_)
  refine l_cons rfl (p_move ?_)
  refine l_nil ?_
  refine k_seq_normal ?_
  refine w_block ?_
  refine w_loop (fun m f es' => ∃ k s7, m = l.length - k ∧ k ≤ l.length ∧ es' = .row s7 3 1 ((stepTo n (l.take k) b).map fun n => [.int .i64 n]) :: .row s3 36 3 [n.cells] :: es ∧ Knows f [(2, .int .u8 b), (3, .ptr es.length s3 0 0), (7, .own (es.length + 1) s7), (10, .list 1 (l.map fun n => [.int .i64 n])), (11, .int .i64 l.length), (12, .int .i64 k)]) (l.length) (⟨0, s7, rfl, Nat.zero_le _, rfl, by simp only [Knows, upd_apply, Nat.reduceEqDiff, ↓reduceIte, and_true, true_and, eq_self] <;> and_intros <;> rfl⟩) ?_
  rintro m f es' ⟨k, s7, rfl, hk1, rfl, hk⟩
  have hle := stepTo_le n (l.take k) b
  rw [List.length_take] at hle
  refine w_pins _ (Sub.refl _) (hk) ?_
  simp only [pins]
  refine w_seq ?_
  refine w_region ?_
  refine l_cons rfl (p_cmp ?_)
  refine l_nil ?_
  refine k_seq_normal ?_
  refine w_seq ?_
  refine w_b (fun h1 => ?_) (fun h1 => ?_)
  · skip
    have h1' := h1; (try simp only [decide_eq_true_eq, decide_eq_false_iff_not, Bool.not_eq_true', Bool.not_false, Bool.not_true, Bool.not_eq_false'] at h1')
    refine w_skip ?_
    refine k_seq_normal ?_
    refine w_seq ?_
    refine w_block ?_
    refine w_seq ?_
    refine w_region ?_
    refine l_cons rfl (p_ixl sl_48 ?_)
    refine l_cons rfl (p_loadf ty_3 ?_)
    refine l_cons rfl (p_assign ?_)
    refine l_nil ?_
    refine k_seq_normal ?_
    refine w_seq ?_
    refine w_region ?_
    refine l_cons rfl (p_move ?_)
    refine l_cons rfl (p_cmp ?_)
    refine l_cons rfl (p_move ?_)
    refine g_b rfl (fun h2 => ?_) (fun h2 => ?_)
    · skip
      have h2' := h2; (try simp only [decide_eq_true_eq, decide_eq_false_iff_not, Bool.not_eq_true', Bool.not_false, Bool.not_true, Bool.not_eq_false'] at h2')
      refine (p_move ?_)
      refine g_y rfl h2 (p_fap fa_36_0 ?_)
      refine g_y rfl h2 (p_loadp ty_34 ?_)
      first | refine g_y rfl h2 (p_lenl sl_34 ?_) | refine g_y rfl h2 (p_leno sl_34 ?_) | refine g_y rfl h2 (p_lenn sl_34 ?_)
      refine g_y rfl h2 (p_cmp ?_)
      refine l_cons rfl (p_pickt h2 ?_)
      refine l_cons rfl (p_move ?_)
      refine g_b rfl (fun h3 => ?_) (fun h3 => ?_)
      · skip
        have h3' := h3; (try simp only [decide_eq_true_eq, decide_eq_false_iff_not, Bool.not_eq_true', Bool.not_false, Bool.not_true, Bool.not_eq_false'] at h3')
        refine (p_fap fa_36_0 ?_)
        refine g_y rfl h3 (p_loadp ty_34 ?_)
        refine g_y rfl h3 (p_move ?_)
        first | refine g_y rfl h3 (p_ixl sl_34 ?_) | refine g_y rfl h3 (p_ixo sl_34 ?_)
        first | refine g_y rfl h3 (p_fap fa_75_1 ?_) | refine g_y rfl h3 (p_faf fa_75_1 ?_)
        first | refine g_y rfl h3 (p_loadf ty_3 ?_) | refine g_y rfl h3 (p_loadp ty_3 ?_)
        refine g_y rfl h3 (p_cmp ?_)
        refine l_cons rfl (p_pickt h3 ?_)
        refine l_cons rfl (p_move ?_)
        refine g_b rfl (fun h4 => ?_) (fun h4 => ?_)
        · skip
          have h4' := h4; (try simp only [decide_eq_true_eq, decide_eq_false_iff_not, Bool.not_eq_true', Bool.not_false, Bool.not_true, Bool.not_eq_false'] at h4')
          refine (p_fap fa_36_0 ?_)
          refine g_y rfl h4 (p_loadp ty_34 ?_)
          refine g_y rfl h4 (p_move ?_)
          first | refine g_y rfl h4 (p_ixl sl_34 ?_) | refine g_y rfl h4 (p_ixo sl_34 ?_)
          first | refine g_y rfl h4 (p_fap fa_75_0 ?_) | refine g_y rfl h4 (p_faf fa_75_0 ?_)
          first | refine g_y rfl h4 (p_loadf ty_26 ?_) | refine g_y rfl h4 (p_loadp ty_26 ?_)
          refine g_y rfl h4 (p_move ?_)
          refine g_y rfl h4 (p_callr en_100 (bytesetHas _ _ _ _ _ hb0 hb1) ?_)
          refine l_cons rfl (p_pickt h4 ?_)
          refine l_nil ?_
          refine k_seq_normal ?_
          refine w_b (fun h5 => ?_) (fun h5 => ?_)
          · skip
            have h5' := h5; (try simp only [decide_eq_true_eq, decide_eq_false_iff_not, Bool.not_eq_true', Bool.not_false, Bool.not_true, Bool.not_eq_false'] at h5')
            refine w_region ?_
            refine l_cons rfl (p_move ?_)
            refine l_cons rfl (p_fap fa_36_0 ?_)
            refine l_cons rfl (p_loadp ty_34 ?_)
            refine l_cons rfl (p_move ?_)
            first | refine l_cons rfl (p_ixl sl_34 ?_) | refine l_cons rfl (p_ixo sl_34 ?_)
            first | refine l_cons rfl (p_fap fa_75_1 ?_) | refine l_cons rfl (p_faf fa_75_1 ?_)
            first | refine l_cons rfl (p_loadf ty_3 ?_) | refine l_cons rfl (p_loadp ty_3 ?_)
            refine l_cons rfl (p_buildList sl_48 ze_3 ?_)
            refine l_cons rfl (p_append sl_48 by_3 ze_3 (fun s52 => ?_))
            refine l_cons rfl (p_assign ?_)
            refine l_nil ?_
            refine k_blk_normal ?_
            refine k_seq_normal ?_
            refine w_region ?_
            refine l_cons rfl (p_arith ?_)
            refine l_cons rfl (p_move ?_)
            refine l_nil ?_
            refine k_seq_normal ?_
            first
            | exact ⟨l.length - (k + 1), by omega, k + 1, s52, rfl, by omega, by rw [stepTo_succ (by omega), stepOne_yes (by omega) (by omega) (by omega) (by assumption), List.map_append]; rfl, by simp only [Knows, upd_apply, Nat.reduceEqDiff, ↓reduceIte, and_true, true_and, eq_self] <;> and_intros <;> rfl⟩
            | exact ⟨l.length - (k + 1), by omega, k + 1, s7, rfl, by omega, by rw [stepTo_succ (by omega), stepOne_no (by first | exact .inl (by omega) | exact .inr (.inl (by omega)) | exact .inr (.inr ⟨by omega, .inl (by omega)⟩) | exact .inr (.inr ⟨by omega, .inr (by assumption)⟩))]; simp, by simp only [Knows, upd_apply, Nat.reduceEqDiff, ↓reduceIte, and_true, true_and, eq_self] <;> and_intros <;> rfl⟩
          · skip
            have h5' := h5; (try simp only [decide_eq_true_eq, decide_eq_false_iff_not, Bool.not_eq_true', Bool.not_false, Bool.not_true, Bool.not_eq_false'] at h5')
            refine w_skip ?_
            refine k_blk_normal ?_
            refine k_seq_normal ?_
            refine w_region ?_
            refine l_cons rfl (p_arith ?_)
            refine l_cons rfl (p_move ?_)
            refine l_nil ?_
            refine k_seq_normal ?_
            first
            | exact ⟨l.length - (k + 1), by omega, k + 1, s52, rfl, by omega, by rw [stepTo_succ (by omega), stepOne_yes (by omega) (by omega) (by omega) (by assumption), List.map_append]; rfl, by simp only [Knows, upd_apply, Nat.reduceEqDiff, ↓reduceIte, and_true, true_and, eq_self] <;> and_intros <;> rfl⟩
            | exact ⟨l.length - (k + 1), by omega, k + 1, s7, rfl, by omega, by rw [stepTo_succ (by omega), stepOne_no (by first | exact .inl (by omega) | exact .inr (.inl (by omega)) | exact .inr (.inr ⟨by omega, .inl (by omega)⟩) | exact .inr (.inr ⟨by omega, .inr (by assumption)⟩))]; simp, by simp only [Knows, upd_apply, Nat.reduceEqDiff, ↓reduceIte, and_true, true_and, eq_self] <;> and_intros <;> rfl⟩
        · skip
          have h4' := h4; (try simp only [decide_eq_true_eq, decide_eq_false_iff_not, Bool.not_eq_true', Bool.not_false, Bool.not_true, Bool.not_eq_false'] at h4')
          refine g_n rfl h4 ?_
          refine g_n rfl h4 ?_
          refine g_n rfl h4 ?_
          refine g_n rfl h4 ?_
          refine g_n rfl h4 ?_
          refine g_n rfl h4 ?_
          refine g_n rfl h4 ?_
          refine l_cons rfl (p_pickf h4 ?_)
          refine l_nil ?_
          refine k_seq_normal ?_
          refine w_f rfl ?_
          refine w_skip ?_
          refine k_blk_normal ?_
          refine k_seq_normal ?_
          refine w_region ?_
          refine l_cons rfl (p_arith ?_)
          refine l_cons rfl (p_move ?_)
          refine l_nil ?_
          refine k_seq_normal ?_
          first
          | exact ⟨l.length - (k + 1), by omega, k + 1, s52, rfl, by omega, by rw [stepTo_succ (by omega), stepOne_yes (by omega) (by omega) (by omega) (by assumption), List.map_append]; rfl, by simp only [Knows, upd_apply, Nat.reduceEqDiff, ↓reduceIte, and_true, true_and, eq_self] <;> and_intros <;> rfl⟩
          | exact ⟨l.length - (k + 1), by omega, k + 1, s7, rfl, by omega, by rw [stepTo_succ (by omega), stepOne_no (by first | exact .inl (by omega) | exact .inr (.inl (by omega)) | exact .inr (.inr ⟨by omega, .inl (by omega)⟩) | exact .inr (.inr ⟨by omega, .inr (by assumption)⟩))]; simp, by simp only [Knows, upd_apply, Nat.reduceEqDiff, ↓reduceIte, and_true, true_and, eq_self] <;> and_intros <;> rfl⟩
      · skip
        have h3' := h3; (try simp only [decide_eq_true_eq, decide_eq_false_iff_not, Bool.not_eq_true', Bool.not_false, Bool.not_true, Bool.not_eq_false'] at h3')
        refine g_n rfl h3 ?_
        refine g_n rfl h3 ?_
        refine g_n rfl h3 ?_
        refine g_n rfl h3 ?_
        refine g_n rfl h3 ?_
        refine g_n rfl h3 ?_
        refine l_cons rfl (p_pickf h3 ?_)
        refine l_cons rfl (p_move ?_)
        refine g_n rfl rfl ?_
        refine g_n rfl rfl ?_
        refine g_n rfl rfl ?_
        refine g_n rfl rfl ?_
        refine g_n rfl rfl ?_
        refine g_n rfl rfl ?_
        refine g_n rfl rfl ?_
        refine g_n rfl rfl ?_
        refine l_cons rfl (p_pickf rfl ?_)
        refine l_nil ?_
        refine k_seq_normal ?_
        refine w_f rfl ?_
        refine w_skip ?_
        refine k_blk_normal ?_
        refine k_seq_normal ?_
        refine w_region ?_
        refine l_cons rfl (p_arith ?_)
        refine l_cons rfl (p_move ?_)
        refine l_nil ?_
        refine k_seq_normal ?_
        first
        | exact ⟨l.length - (k + 1), by omega, k + 1, s52, rfl, by omega, by rw [stepTo_succ (by omega), stepOne_yes (by omega) (by omega) (by omega) (by assumption), List.map_append]; rfl, by simp only [Knows, upd_apply, Nat.reduceEqDiff, ↓reduceIte, and_true, true_and, eq_self] <;> and_intros <;> rfl⟩
        | exact ⟨l.length - (k + 1), by omega, k + 1, s7, rfl, by omega, by rw [stepTo_succ (by omega), stepOne_no (by first | exact .inl (by omega) | exact .inr (.inl (by omega)) | exact .inr (.inr ⟨by omega, .inl (by omega)⟩) | exact .inr (.inr ⟨by omega, .inr (by assumption)⟩))]; simp, by simp only [Knows, upd_apply, Nat.reduceEqDiff, ↓reduceIte, and_true, true_and, eq_self] <;> and_intros <;> rfl⟩
    · skip
      have h2' := h2; (try simp only [decide_eq_true_eq, decide_eq_false_iff_not, Bool.not_eq_true', Bool.not_false, Bool.not_true, Bool.not_eq_false'] at h2')
      refine g_n rfl h2 ?_
      refine g_n rfl h2 ?_
      refine g_n rfl h2 ?_
      refine g_n rfl h2 ?_
      refine l_cons rfl (p_pickf h2 ?_)
      refine l_cons rfl (p_move ?_)
      refine g_n rfl rfl ?_
      refine g_n rfl rfl ?_
      refine g_n rfl rfl ?_
      refine g_n rfl rfl ?_
      refine g_n rfl rfl ?_
      refine g_n rfl rfl ?_
      refine g_n rfl rfl ?_
      refine l_cons rfl (p_pickf rfl ?_)
      refine l_cons rfl (p_move ?_)
      refine g_n rfl rfl ?_
      refine g_n rfl rfl ?_
      refine g_n rfl rfl ?_
      refine g_n rfl rfl ?_
      refine g_n rfl rfl ?_
      refine g_n rfl rfl ?_
      refine g_n rfl rfl ?_
      refine g_n rfl rfl ?_
      refine l_cons rfl (p_pickf rfl ?_)
      refine l_nil ?_
      refine k_seq_normal ?_
      refine w_f rfl ?_
      refine w_skip ?_
      refine k_blk_normal ?_
      refine k_seq_normal ?_
      refine w_region ?_
      refine l_cons rfl (p_arith ?_)
      refine l_cons rfl (p_move ?_)
      refine l_nil ?_
      refine k_seq_normal ?_
      first
      | exact ⟨l.length - (k + 1), by omega, k + 1, s52, rfl, by omega, by rw [stepTo_succ (by omega), stepOne_yes (by omega) (by omega) (by omega) (by assumption), List.map_append]; rfl, by simp only [Knows, upd_apply, Nat.reduceEqDiff, ↓reduceIte, and_true, true_and, eq_self] <;> and_intros <;> rfl⟩
      | exact ⟨l.length - (k + 1), by omega, k + 1, s7, rfl, by omega, by rw [stepTo_succ (by omega), stepOne_no (by first | exact .inl (by omega) | exact .inr (.inl (by omega)) | exact .inr (.inr ⟨by omega, .inl (by omega)⟩) | exact .inr (.inr ⟨by omega, .inr (by assumption)⟩))]; simp, by simp only [Knows, upd_apply, Nat.reduceEqDiff, ↓reduceIte, and_true, true_and, eq_self] <;> and_intros <;> rfl⟩
  · skip
    have h1' := h1; (try simp only [decide_eq_true_eq, decide_eq_false_iff_not, Bool.not_eq_true', Bool.not_false, Bool.not_true, Bool.not_eq_false'] at h1')
    refine w_exit ?_
    refine k_seq_exit ?_
    refine k_seq_exit ?_
    refine k_blk_here ?_
    refine k_seq_normal ?_
    refine w_seq ?_
    refine w_freezeTop 7 ?_
    rw [show k = l.length by omega, List.take_length]
    refine w_region ?_
    refine l_cons rfl (p_loadp ty_36 ?_)
    refine l_cons rfl (p_move ?_)
    refine l_cons rfl (p_callr en_78 (closed_walk n (stepTo n l b) hn) ?_)
    refine l_cons rfl (p_assign ?_)
    refine l_nil ?_
    refine k_seq_normal ?_
    refine w_ret ?_
    exact ret1 rfl (by simp only [ev_tmp, ev_const, ev_func, ofConst_int, ofConst_bool, ofConst_str, ofConst_nil, upd_apply, Nat.reduceEqDiff, ↓reduceIte] <;> exact rfl) (by first | exact Sub.refl _ | exact sub1 _ _ | exact sub2 _ _ _ | exact sub3 _ _ _ _ | exact sub4 _ _ _ _ _ | exact sub5 _ _ _ _ _ _) ⟨rfl, rfl⟩
end Go.Proofs.YtfdgbghlanbddaaDoor.Av
set_option linter.unusedVariables false
set_option linter.unusedSimpArgs false
set_option maxRecDepth 8000
namespace Go.Proofs.YtfdgbghlanbddaaDoor.Av
open Go.RowKit Go.Proofs
theorem nodes_leaf {w0 : World} {es : List Ent} : ACalls Tryd.prog w0 108 [.agg [.int .i64 3, .int .u64 0, .int .u64 8589934592, .int .u64 0, .int .u64 0, .nil]] es fun v es' => v = .int .i64 1 ∧ es' = es := by
  refine calls1 (N := 19) Tryd.func108 rfl rfl (by decide) ?_
  refine w_seq ?_
  refine w_region ?_
  refine l_cons rfl (p_box fun s1 => ?_)
  refine l_cons rfl (p_assign ?_)
  refine l_nil ?_
  refine k_seq_normal ?_
  refine w_seq ?_
  refine w_region ?_
  refine l_cons rfl (p_assign ?_)
  refine l_nil ?_
  refine k_seq_normal ?_
  refine w_seq ?_
  refine w_seq ?_
  refine w_region ?_
  refine l_cons rfl (p_fap fa_29_2 ?_)
  refine l_cons rfl (p_loadp ty_27 ?_)
  first | refine l_cons rfl (p_lenl sl_27 ?_) | refine l_cons rfl (p_leno sl_27 ?_) | refine l_cons rfl (p_lenn sl_27 ?_)
  refine l_cons rfl (p_move ?_)
  refine l_nil ?_
  refine k_seq_normal ?_
  refine w_block ?_
  refine w_loop (fun m f es' => Sub (.row s1 29 6 [[.int .i64 3, .int .u64 0, .int .u64 8589934592, .int .u64 0, .int .u64 0, .nil]] :: es) es' ∧ Knows f [(3, .int .i64 1), (8, .int .i64 0), (9, .int .i64 0)]) (0) (⟨Sub.refl _, by simp only [Knows, upd_apply, Nat.reduceEqDiff, ↓reduceIte, and_true, true_and, eq_self] <;> and_intros <;> rfl⟩) ?_
  rintro m f es' ⟨hsub, hk⟩
  refine w_pins _ hsub (hk) ?_
  simp only [pins]
  refine w_seq ?_
  refine w_region ?_
  refine l_cons rfl (p_cmpl false ?_)
  refine l_nil ?_
  refine k_seq_normal ?_
  refine w_seq ?_
  refine w_f rfl ?_
  refine w_exit ?_
  refine k_seq_exit ?_
  refine k_seq_exit ?_
  refine k_blk_here ?_
  refine k_seq_normal ?_
  refine w_seq ?_
  refine w_region ?_
  refine l_cons rfl (p_move ?_)
  refine l_cons rfl (p_assign ?_)
  refine l_nil ?_
  refine k_seq_normal ?_
  refine w_ret ?_
  exact ret1 rfl (by simp only [ev_tmp, ev_const, ev_func, ofConst_int, ofConst_bool, ofConst_str, ofConst_nil, upd_apply, Nat.reduceEqDiff, ↓reduceIte] <;> exact rfl) (by first | exact Sub.refl _ | exact sub1 _ _ | exact sub2 _ _ _ | exact sub3 _ _ _ _ | exact sub4 _ _ _ _ _ | exact sub5 _ _ _ _ _ _) ⟨rfl, rfl⟩
theorem depth_leaf {w0 : World} {es : List Ent} : ACalls Tryd.prog w0 109 [.agg [.int .i64 3, .int .u64 0, .int .u64 8589934592, .int .u64 0, .int .u64 0, .nil]] es fun v es' => v = .int .i64 1 ∧ es' = es := by
  refine calls1 (N := 20) Tryd.func109 rfl rfl (by decide) ?_
  refine w_seq ?_
  refine w_region ?_
  refine l_cons rfl (p_box fun s1 => ?_)
  refine l_cons rfl (p_assign ?_)
  refine l_nil ?_
  refine k_seq_normal ?_
  refine w_seq ?_
  refine w_region ?_
  refine l_cons rfl (p_assign ?_)
  refine l_nil ?_
  refine k_seq_normal ?_
  refine w_seq ?_
  refine w_seq ?_
  refine w_region ?_
  refine l_cons rfl (p_fap fa_29_2 ?_)
  refine l_cons rfl (p_loadp ty_27 ?_)
  first | refine l_cons rfl (p_lenl sl_27 ?_) | refine l_cons rfl (p_leno sl_27 ?_) | refine l_cons rfl (p_lenn sl_27 ?_)
  refine l_cons rfl (p_move ?_)
  refine l_nil ?_
  refine k_seq_normal ?_
  refine w_block ?_
  refine w_loop (fun m f es' => Sub (.row s1 29 6 [[.int .i64 3, .int .u64 0, .int .u64 8589934592, .int .u64 0, .int .u64 0, .nil]] :: es) es' ∧ Knows f [(3, .int .i64 0), (8, .int .i64 0), (9, .int .i64 0)]) (0) (⟨Sub.refl _, by simp only [Knows, upd_apply, Nat.reduceEqDiff, ↓reduceIte, and_true, true_and, eq_self] <;> and_intros <;> rfl⟩) ?_
  rintro m f es' ⟨hsub, hk⟩
  refine w_pins _ hsub (hk) ?_
  simp only [pins]
  refine w_seq ?_
  refine w_region ?_
  refine l_cons rfl (p_cmpl false ?_)
  refine l_nil ?_
  refine k_seq_normal ?_
  refine w_seq ?_
  refine w_f rfl ?_
  refine w_exit ?_
  refine k_seq_exit ?_
  refine k_seq_exit ?_
  refine k_blk_here ?_
  refine k_seq_normal ?_
  refine w_seq ?_
  refine w_region ?_
  refine l_cons rfl (p_move ?_)
  refine l_cons rfl (p_arith ?_)
  refine l_cons rfl (p_assign ?_)
  refine l_nil ?_
  refine k_seq_normal ?_
  refine w_ret ?_
  exact ret1 rfl (by simp only [ev_tmp, ev_const, ev_func, ofConst_int, ofConst_bool, ofConst_str, ofConst_nil, upd_apply, Nat.reduceEqDiff, ↓reduceIte] <;> exact rfl) (by first | exact Sub.refl _ | exact sub1 _ _ | exact sub2 _ _ _ | exact sub3 _ _ _ _ | exact sub4 _ _ _ _ _ | exact sub5 _ _ _ _ _ _) ⟨rfl, rfl⟩
theorem indexRx_nil {w0 : World} {es : List Ent} {g : AV} : ACalls Tryd.prog w0 157 [.nil, g] es fun v es' => v = .int .i64 (-1) ∧ es' = es := by
  refine calls2 (N := 19) Tryd.func157 rfl rfl (by decide) ?_
  refine w_seq ?_
  refine w_region ?_
  refine l_cons rfl (p_assign ?_)
  refine l_nil ?_
  refine k_seq_normal ?_
  refine w_seq ?_
  refine w_seq ?_
  refine w_region ?_
  refine l_cons rfl (p_move ?_)
  refine l_cons rfl (p_lenn sl_27 ?_)
  refine l_cons rfl (p_move ?_)
  refine l_nil ?_
  refine k_seq_normal ?_
  refine w_block ?_
  refine w_loop (fun m f es' => Sub (es) es' ∧ Knows f [(7, .int .i64 0), (8, .int .i64 0)]) (0) (⟨Sub.refl _, by simp only [Knows, upd_apply, Nat.reduceEqDiff, ↓reduceIte, and_true, true_and, eq_self] <;> and_intros <;> rfl⟩) ?_
  rintro m f es' ⟨hsub, hk⟩
  refine w_pins _ hsub (hk) ?_
  simp only [pins]
  refine w_seq ?_
  refine w_region ?_
  refine l_cons rfl (p_cmpl false ?_)
  refine l_nil ?_
  refine k_seq_normal ?_
  refine w_seq ?_
  refine w_f rfl ?_
  refine w_exit ?_
  refine k_seq_exit ?_
  refine k_seq_exit ?_
  refine k_blk_here ?_
  refine k_seq_normal ?_
  refine w_seq ?_
  refine w_region ?_
  refine l_cons rfl (p_assign ?_)
  refine l_nil ?_
  refine k_seq_normal ?_
  refine w_ret ?_
  exact ret1 rfl (by simp only [ev_tmp, ev_const, ev_func, ofConst_int, ofConst_bool, ofConst_str, ofConst_nil, upd_apply, Nat.reduceEqDiff, ↓reduceIte] <;> exact rfl) (by first | exact Sub.refl _ | exact sub1 _ _ | exact sub2 _ _ _ | exact sub3 _ _ _ _ | exact sub4 _ _ _ _ _ | exact sub5 _ _ _ _ _ _) ⟨rfl, rfl⟩
theorem containsRx_nil {w0 : World} {es : List Ent} {g : AV} : ACalls Tryd.prog w0 140 [.nil, g] es fun v es' => v = .bool false ∧ es' = es := by
  refine calls2 (N := 9) Tryd.func140 rfl rfl (by decide) ?_
  refine w_seq ?_
  refine w_region ?_
  refine l_cons rfl (p_assign ?_)
  refine l_nil ?_
  refine k_seq_normal ?_
  refine w_seq ?_
  refine w_region ?_
  refine l_cons rfl (p_move ?_)
  refine l_cons rfl (p_move ?_)
  refine l_cons rfl (p_callr en_157 (indexRx_nil) ?_)
  refine l_cons rfl (p_cmpl false ?_)
  refine l_cons rfl (p_assign ?_)
  refine l_nil ?_
  refine k_seq_normal ?_
  refine w_ret ?_
  exact ret1 rfl (by simp only [ev_tmp, ev_const, ev_func, ofConst_int, ofConst_bool, ofConst_str, ofConst_nil, upd_apply, Nat.reduceEqDiff, ↓reduceIte] <;> exact rfl) (by first | exact Sub.refl _ | exact sub1 _ _ | exact sub2 _ _ _ | exact sub3 _ _ _ _ | exact sub4 _ _ _ _ _ | exact sub5 _ _ _ _ _ _) ⟨rfl, rfl⟩
theorem plain_leaf {w0 : World} {es : List Ent} : ACalls Tryd.prog w0 110 [.agg [.int .i64 3, .int .u64 0, .int .u64 8589934592, .int .u64 0, .int .u64 0, .nil]] es fun v es' => v = .bool true ∧ es' = es := by
  refine calls1 (N := 91) Tryd.func110 rfl rfl (by decide) ?_
  refine w_seq ?_
  refine w_region ?_
  refine l_cons rfl (p_box fun s1 => ?_)
  refine l_cons rfl (p_assign ?_)
  refine l_nil ?_
  refine k_seq_normal ?_
  refine w_seq ?_
  refine w_region ?_
  refine l_cons rfl (p_fap fa_29_1 ?_)
  refine l_cons rfl (p_loadp ty_26 ?_)
  refine l_cons rfl (p_buildArr ze_26 ar_26 ?_)
  refine l_cons rfl (p_eqa ai_26 (b := false) ?_)
  refine l_cons rfl (p_assign ?_)
  refine l_nil ?_
  refine k_seq_normal ?_
  refine w_seq ?_
  refine w_region ?_
  refine l_cons rfl (p_assign ?_)
  refine l_nil ?_
  refine k_seq_normal ?_
  refine w_seq ?_
  refine w_seq ?_
  refine w_region ?_
  refine l_cons rfl (p_fap fa_29_0 ?_)
  refine l_cons rfl (p_loadp ty_3 ?_)
  refine l_nil ?_
  refine k_seq_normal ?_
  refine w_block ?_
  refine w_seq ?_
  refine w_seq ?_
  refine w_region ?_
  refine l_cons rfl (p_cmpl false ?_)
  refine l_cons rfl (p_assign ?_)
  refine l_nil ?_
  refine k_seq_normal ?_
  refine w_f rfl ?_
  refine w_region ?_
  refine l_cons rfl (p_cmpl false ?_)
  refine l_cons rfl (p_assign ?_)
  refine l_nil ?_
  refine k_seq_normal ?_
  refine w_f rfl ?_
  refine w_seq ?_
  refine w_region ?_
  refine l_cons rfl (p_cmpl true ?_)
  refine l_cons rfl (p_assign ?_)
  refine l_nil ?_
  refine k_seq_normal ?_
  refine w_t rfl ?_
  refine w_region ?_
  refine l_cons rfl (p_move ?_)
  refine l_cons rfl (p_not ?_)
  refine l_cons rfl (p_move ?_)
  refine g_y rfl rfl (p_fap fa_29_2 ?_)
  refine g_y rfl rfl (p_loadp ty_27 ?_)
  first | refine g_y rfl rfl (p_lenl sl_27 ?_) | refine g_y rfl rfl (p_leno sl_27 ?_) | refine g_y rfl rfl (p_lenn sl_27 ?_)
  refine g_y rfl rfl (p_cmpl true ?_)
  refine l_cons rfl (p_pickt rfl ?_)
  refine l_cons rfl (p_assign ?_)
  refine l_nil ?_
  refine k_blk_normal ?_
  refine k_seq_normal ?_
  refine w_seq ?_
  refine w_region ?_
  refine l_cons rfl (p_move ?_)
  refine l_cons rfl (p_move ?_)
  refine g_y rfl rfl (p_fap fa_29_2 ?_)
  refine g_y rfl rfl (p_loadp ty_27 ?_)
  refine g_y rfl rfl (p_callr en_140 (containsRx_nil) ?_)
  refine g_y rfl rfl (p_not ?_)
  refine l_cons rfl (p_pickt rfl ?_)
  refine l_cons rfl (p_assign ?_)
  refine l_nil ?_
  refine k_seq_normal ?_
  refine w_ret ?_
  exact ret1 rfl (by simp only [ev_tmp, ev_const, ev_func, ofConst_int, ofConst_bool, ofConst_str, ofConst_nil, upd_apply, Nat.reduceEqDiff, ↓reduceIte] <;> exact rfl) (by first | exact Sub.refl _ | exact sub1 _ _ | exact sub2 _ _ _ | exact sub3 _ _ _ _ | exact sub4 _ _ _ _ _ | exact sub5 _ _ _ _ _ _) ⟨rfl, rfl⟩
theorem rxMay_leaf {w0 : World} {es : List Ent} : ACalls Tryd.prog w0 71 [.agg [.int .i64 3, .int .u64 0, .int .u64 8589934592, .int .u64 0, .int .u64 0, .nil]] es fun v es' => v = .int .i64 0 ∧ es' = es := by
  refine calls1 (N := 15) Tryd.func71 rfl rfl (by decide) ?_
  refine w_seq ?_
  refine w_region ?_
  refine l_cons rfl (p_box fun s1 => ?_)
  refine l_cons rfl (p_assign ?_)
  refine l_nil ?_
  refine k_seq_normal ?_
  refine w_seq ?_
  refine w_block ?_
  refine w_seq ?_
  refine w_region ?_
  refine l_cons rfl (p_loadp ty_29 ?_)
  refine l_cons rfl (p_callr en_108 (nodes_leaf) ?_)
  refine l_cons rfl (p_cmpl false ?_)
  refine l_cons rfl (p_assign ?_)
  refine l_nil ?_
  refine k_seq_normal ?_
  refine w_f rfl ?_
  refine w_seq ?_
  refine w_region ?_
  refine l_cons rfl (p_loadp ty_29 ?_)
  refine l_cons rfl (p_callr en_109 (depth_leaf) ?_)
  refine l_cons rfl (p_cmpl false ?_)
  refine l_cons rfl (p_assign ?_)
  refine l_nil ?_
  refine k_seq_normal ?_
  refine w_f rfl ?_
  refine w_seq ?_
  refine w_region ?_
  refine l_cons rfl (p_loadp ty_29 ?_)
  refine l_cons rfl (p_callr en_110 (plain_leaf) ?_)
  refine l_cons rfl (p_not ?_)
  refine l_cons rfl (p_assign ?_)
  refine l_nil ?_
  refine k_seq_normal ?_
  refine w_f rfl ?_
  refine w_skip ?_
  refine k_blk_normal ?_
  refine k_seq_normal ?_
  refine w_seq ?_
  refine w_region ?_
  refine l_cons rfl (p_assign ?_)
  refine l_nil ?_
  refine k_seq_normal ?_
  refine w_ret ?_
  exact ret1 rfl (by simp only [ev_tmp, ev_const, ev_func, ofConst_int, ofConst_bool, ofConst_str, ofConst_nil, upd_apply, Nat.reduceEqDiff, ↓reduceIte] <;> exact rfl) (by first | exact Sub.refl _ | exact sub1 _ _ | exact sub2 _ _ _ | exact sub3 _ _ _ _ | exact sub4 _ _ _ _ _ | exact sub5 _ _ _ _ _ _) ⟨rfl, rfl⟩
end Go.Proofs.YtfdgbghlanbddaaDoor.Av
set_option linter.unusedVariables false
set_option linter.unusedSimpArgs false
set_option maxRecDepth 8000
namespace Go.Proofs.YtfdgbghlanbddaaDoor.Av
open Go.RowKit Go.Proofs
def nfA : Nf := ⟨[⟨0, 0, 0, 0, -1, []⟩, ⟨0, 8589934592, 0, 0, 0, []⟩], 1, 0⟩
theorem state_walk {w0 : World} {es : List Ent} {ib sb iS sS : Nat} {rows : List (List AV)} (hb : at_ es ib = some (.row sb 94 1 [[.own iS sS]])) (hS : at_ es iS = some (.row sS 75 6 rows)) (hne : ib ≠ iS) (hr : rows.length ≤ 1000000) :
    ACalls Tryd.prog w0 111 [.ptr ib sb 0 0, .nil] es fun v es' => v = .int .i64 rows.length ∧ ∃ sS', es' = setAt (setAt es iS (.row sS' 75 6 (rows ++ [[AV.int .u64 0, .int .u64 0, .int .u64 0, .int .u64 0, .int .i64 (-1), .nil]]))) ib (.row sb 94 1 [[.own iS sS']]) := by
  refine calls2 (N := 22) Tryd.func111 rfl rfl (by decide) ?_
  refine w_seq ?_
  refine w_region ?_
  refine l_cons rfl (p_assign ?_)
  refine l_nil ?_
  refine k_seq_normal ?_
  refine w_seq ?_
  refine w_region ?_
  refine l_cons rfl (p_move ?_)
  refine l_cons rfl (p_move ?_)
  first | refine l_cons rfl (p_ncp ?_) | refine l_cons rfl (p_ncf ?_)
  refine l_cons rfl (p_fap fa_94_0 ?_)
  refine l_cons rfl (p_loadp ty_34 ?_)
  refine l_cons rfl (p_move ?_)
  refine l_cons rfl (p_build ze_75 pl_75 ?_)
  refine l_cons rfl (p_buildList sl_34 ze_75 ?_)
  refine l_cons rfl (p_append sl_34 by_75 ze_75 (fun s13 => ?_))
  have hb1 := (at_setAt_ne (.row s13 75 6 (rows ++ [[AV.int .u64 0, .int .u64 0, .int .u64 0, .int .u64 0, .int .i64 (-1), .nil]])) hne).trans hb
  have hS1 := at_setAt_same (.row s13 75 6 (rows ++ [[AV.int .u64 0, .int .u64 0, .int .u64 0, .int .u64 0, .int .i64 (-1), .nil]])) hS
  first | refine l_cons rfl (p_ncp ?_) | refine l_cons rfl (p_ncf ?_)
  refine l_cons rfl (p_fap fa_94_0 ?_)
  refine l_cons rfl (p_store ty_34 ?_)
  have hb2 := at_setAt_same (.row sb 94 1 [[.own iS s13]]) hb1
  have hS2 := (at_setAt_ne (.row sb 94 1 [[.own iS s13]]) (Ne.symm hne)).trans hS1
  have hlen : (rows ++ [[AV.int .u64 0, .int .u64 0, .int .u64 0, .int .u64 0, .int .i64 (-1), .nil]]).length = rows.length + 1 := by simp
  refine l_nil ?_
  refine k_seq_normal ?_
  refine w_seq ?_
  refine w_region ?_
  refine l_cons rfl (p_move ?_)
  first | refine l_cons rfl (p_ncp ?_) | refine l_cons rfl (p_ncf ?_)
  refine l_cons rfl (p_fap fa_94_0 ?_)
  refine l_cons rfl (p_loadp ty_34 ?_)
  first | refine l_cons rfl (p_lenl sl_34 ?_) | refine l_cons rfl (p_leno sl_34 ?_) | refine l_cons rfl (p_lenn sl_34 ?_)
  refine l_cons rfl (p_arith ?_)
  refine l_cons rfl (p_assign ?_)
  refine l_nil ?_
  refine k_seq_normal ?_
  refine w_ret ?_
  exact ret1 rfl (by simp only [ev_tmp, ev_const, ev_func, ofConst_int, ofConst_bool, ofConst_str, ofConst_nil, upd_apply, Nat.reduceEqDiff, ↓reduceIte] <;> exact rfl) (Sub.refl _) ⟨by rw [hlen]; congr 1; omega, s13, rfl⟩
theorem state_leaf {w0 : World} {T : List Ent} {x : Ent} {sb sS : Nat} {rows : List (List AV)} (hr : rows.length ≤ 1000000) :
    ACalls Tryd.prog w0 111 [.ptr T.length sb 0 0, .nil] (x :: .row sS 75 6 rows :: .row sb 94 1 [[.own (T.length + 1) sS]] :: T) fun v es' => v = .int .i64 rows.length ∧ ∃ sS', es' = x :: .row sS' 75 6 (rows ++ [[AV.int .u64 0, .int .u64 0, .int .u64 0, .int .u64 0, .int .i64 (-1), .nil]]) :: .row sb 94 1 [[.own (T.length + 1) sS']] :: T := by
  refine (state_walk (iS := T.length + 1) (at_miss _ (at_miss _ (at_hit _ _))) (at_miss _ (at_hit _ _)) (by omega) hr).mono ?_
  rintro _ _ ⟨rfl, s', rfl⟩
  exact ⟨rfl, s', setAt2⟩
theorem part_leaf {w0 : World} {T : List Ent} {sb sS : Nat} :
    ACalls Tryd.prog w0 72 [.ptr T.length sb 0 0, .agg [AV.int .i64 3, .int .u64 0, .int .u64 8589934592, .int .u64 0, .int .u64 0, .nil]] (.row sS 75 6 [] :: .row sb 94 1 [[.own (T.length + 1) sS]] :: T) fun v es' => v = .tup [.int .i64 1, .int .i64 0] ∧ ∃ sS', es' = .row sS' 75 6 [[AV.int .u64 0, .int .u64 0, .int .u64 0, .int .u64 0, .int .i64 (-1), .nil], [AV.int .u64 0, .int .u64 8589934592, .int .u64 0, .int .u64 0, .int .i64 0, .nil]] :: .row sb 94 1 [[.own (T.length + 1) sS']] :: T := by
  refine calls2 (N := 84) Tryd.func72 rfl rfl (by decide) ?_
  refine w_seq ?_
  refine w_region ?_
  refine l_cons rfl (p_box fun s3 => ?_)
  refine l_cons rfl (p_assign ?_)
  refine l_cons rfl (p_assign ?_)
  refine l_nil ?_
  refine k_seq_normal ?_
  refine w_seq ?_
  refine w_seq ?_
  refine w_region ?_
  refine l_cons rfl (p_fap fa_29_0 ?_)
  refine l_cons rfl (p_loadp ty_3 ?_)
  refine l_nil ?_
  refine k_seq_normal ?_
  refine w_block ?_
  refine w_seq ?_
  refine w_region ?_
  refine l_cons rfl (p_cmpl true ?_)
  refine l_cons rfl (p_assign ?_)
  refine l_nil ?_
  refine k_seq_normal ?_
  refine w_t rfl ?_
  refine w_seq ?_
  refine w_region ?_
  refine l_cons rfl (p_move ?_)
  refine l_cons rfl (p_call en_111 ((state_leaf (rows := []) (by simp)).mono ?_))
  rintro _ _ ⟨rfl, sA, rfl⟩
  simp only [List.nil_append]
  refine l_cons rfl (p_assign ?_)
  refine l_nil ?_
  refine k_seq_normal ?_
  refine w_seq ?_
  refine w_region ?_
  refine l_cons rfl (p_move ?_)
  refine l_cons rfl (p_call en_111 ((state_leaf (rows := [[AV.int .u64 0, .int .u64 0, .int .u64 0, .int .u64 0, .int .i64 (-1), .nil]]) (by simp)).mono ?_))
  rintro _ _ ⟨rfl, sB, rfl⟩
  simp only [List.cons_append, List.nil_append]
  refine l_cons rfl (p_assign ?_)
  refine l_nil ?_
  refine k_seq_normal ?_
  refine w_seq ?_
  refine w_drawn 16 [15] (fun e => ∃ rws, rws.length = 2 ∧ e = .row s3 29 6 [[AV.int .i64 3, .int .u64 0, .int .u64 8589934592, .int .u64 0, .int .u64 0, .nil]] :: .row sB 75 6 rws :: .row sb 94 1 [[.own (T.length + 1) sB]] :: T) mixed (by kernel_rfl) ⟨_, rfl, rfl⟩ ?_
  refine q1 0 (hg := rfl) (hu := rfl) (h := by rintro f _ ⟨rws, hl, rfl⟩; exact p_move ⟨rfl, rfl⟩) (k := ?_)
  first | refine q1 16 (hg := rfl) (hu := rfl) (h := by rintro f _ ⟨rws, hl, rfl⟩; exact p_ncp ⟨rfl, rfl⟩) (k := ?_) | refine q1 16 (hg := rfl) (hu := rfl) (h := by rintro f _ ⟨rws, hl, rfl⟩; exact p_ncf ⟨rfl, rfl⟩) (k := ?_)
  refine q1 17 (hg := rfl) (hu := rfl) (h := by rintro f _ ⟨rws, hl, rfl⟩; exact p_fap fa_94_0 ⟨rfl, rfl⟩) (k := ?_)
  refine q1 18 (hg := rfl) (hu := rfl) (h := by rintro f _ ⟨rws, hl, rfl⟩; exact p_loadp ty_34 ⟨rfl, rfl⟩) (k := ?_)
  refine q1 4 (hg := rfl) (hu := rfl) (h := by rintro f _ ⟨rws, hl, rfl⟩; exact p_move ⟨rfl, rfl⟩) (k := ?_)
  refine q1 0 (hg := rfl) (hu := rfl) (h := by rintro f _ ⟨rws, hl, rfl⟩; exact p_move ⟨rfl, rfl⟩) (k := ?_)
  first | refine q1 21 (hg := rfl) (hu := rfl) (h := by rintro f _ ⟨rws, hl, rfl⟩; exact p_ncp ⟨rfl, rfl⟩) (k := ?_) | refine q1 21 (hg := rfl) (hu := rfl) (h := by rintro f _ ⟨rws, hl, rfl⟩; exact p_ncf ⟨rfl, rfl⟩) (k := ?_)
  refine q1 22 (hg := rfl) (hu := rfl) (h := by rintro f _ ⟨rws, hl, rfl⟩; exact p_fap fa_94_0 ⟨rfl, rfl⟩) (k := ?_)
  refine q1 23 (hg := rfl) (hu := rfl) (h := by rintro f _ ⟨rws, hl, rfl⟩; exact p_loadp ty_34 ⟨rfl, rfl⟩) (k := ?_)
  refine q1 4 (hg := rfl) (hu := rfl) (h := by rintro f _ ⟨rws, hl, rfl⟩; exact p_move ⟨rfl, rfl⟩) (k := ?_)
  refine q1 3 (hg := rfl) (hu := rfl) (h := by rintro f _ ⟨rws, hl, rfl⟩; exact p_fap fa_29_1 ⟨rfl, rfl⟩) (k := ?_)
  refine q1 26 (hg := rfl) (hu := rfl) (h := by rintro f _ ⟨rws, hl, rfl⟩; exact p_loadp ty_26 ⟨rfl, rfl⟩) (k := ?_)
  refine q1 5 (hg := rfl) (hu := rfl) (h := by rintro f _ ⟨rws, hl, rfl⟩; exact p_move ⟨rfl, rfl⟩) (k := ?_)
  first | refine q2 19 20 (hg := rfl) (hu := rfl) (h := by rintro f _ ⟨rws, hl, rfl⟩; exact p_ixl sl_34 ⟨rfl, rfl⟩) (k := ?_) | refine q2 19 20 (hg := rfl) (hu := rfl) (h := by rintro f _ ⟨rws, hl, rfl⟩; exact p_ixo sl_34 ⟨rfl, rfl⟩) (k := ?_)
  first | refine q1 29 (hg := rfl) (hu := rfl) (h := by rintro f _ ⟨rws, hl, rfl⟩; exact p_fap fa_75_0 ⟨rfl, rfl⟩) (k := ?_) | refine q1 29 (hg := rfl) (hu := rfl) (h := by rintro f _ ⟨rws, hl, rfl⟩; exact p_faf fa_75_0 ⟨rfl, rfl⟩) (k := ?_)
  refine q_end ?_
  refine ms2 30 27 (hu := rfl) (h := fun f => p_store ty_26 ?_)
  refine ⟨rfl, ⟨_, rfl, rfl⟩, ?_⟩
  refine m_end ?_
  first | refine l_cons rfl (p_ixl sl_34 ?_) | refine l_cons rfl (p_ixo sl_34 ?_)
  first | refine l_cons rfl (p_fap fa_75_1 ?_) | refine l_cons rfl (p_faf fa_75_1 ?_)
  refine l_cons rfl (p_store ty_3 ?_)
  refine l_nil ?_
  refine k_seq_normal ?_
  refine w_seq ?_
  refine w_region ?_
  refine l_cons rfl (p_move ?_)
  refine l_cons rfl (p_move ?_)
  refine l_cons rfl (p_assign ?_)
  refine l_cons rfl (p_assign ?_)
  refine l_nil ?_
  refine k_seq_normal ?_
  refine w_ret ?_
  refine k_blk_ret ?_
  refine k_seq_ret ?_
  exact ret2 rfl (by simp only [ev_tmp, ev_const, ev_func, ofConst_int, ofConst_bool, ofConst_str, ofConst_nil, upd_apply, Nat.reduceEqDiff, ↓reduceIte] <;> exact rfl) (by simp only [ev_tmp, ev_const, ev_func, ofConst_int, ofConst_bool, ofConst_str, ofConst_nil, upd_apply, Nat.reduceEqDiff, ↓reduceIte] <;> exact rfl) (sub1 _ _) ⟨rfl, sB, rfl⟩
theorem build_leaf {w0 : World} {es : List Ent} : ACalls Tryd.prog w0 27 [.agg [AV.int .i64 3, .int .u64 0, .int .u64 8589934592, .int .u64 0, .int .u64 0, .nil]] es fun v es' => v = .tup [nfA.av, .int .i64 0] ∧ es' = es := by
  refine calls1 (N := 29) Tryd.func27 rfl rfl (by decide) ?_
  refine w_seq ?_
  refine w_region ?_
  refine l_cons rfl (p_box fun s1 => ?_)
  refine l_cons rfl (p_alloc ze_36 fun s2 => ?_)
  refine l_cons rfl (p_assign ?_)
  refine l_nil ?_
  refine k_seq_normal ?_
  refine w_seq ?_
  refine w_seq ?_
  refine w_region ?_
  refine l_cons rfl (p_loadp ty_29 ?_)
  refine l_cons rfl (p_callr en_71 (rxMay_leaf) ?_)
  refine l_cons rfl (p_assign ?_)
  refine l_nil ?_
  refine k_seq_normal ?_
  refine w_seq ?_
  refine w_region ?_
  refine l_cons rfl (p_move ?_)
  refine l_cons rfl (p_cmpl false ?_)
  refine l_nil ?_
  refine k_seq_normal ?_
  refine w_f rfl ?_
  refine w_skip ?_
  refine k_seq_normal ?_
  refine w_seq ?_
  refine w_region ?_
  refine l_cons rfl (p_build ze_94 pl_94 ?_)
  refine l_cons rfl (p_box fun s15 => ?_)
  refine l_cons rfl (p_assign ?_)
  refine l_nil ?_
  refine k_seq_normal ?_
  refine w_seq ?_
  refine w_adoptVar 75 6 fun sA => ?_
  refine w_region ?_
  refine l_cons rfl (p_move ?_)
  refine l_cons rfl (p_loadp ty_29 ?_)
  refine l_cons rfl (p_call en_72 (part_leaf.mono ?_))
  rintro _ _ ⟨rfl, sB, rfl⟩
  refine l_cons rfl (p_move ?_)
  refine l_cons rfl (p_extract ?_)
  refine l_cons rfl (p_extract ?_)
  refine l_cons rfl (p_assign ?_)
  refine l_cons rfl (p_assign ?_)
  refine l_nil ?_
  refine k_seq_normal ?_
  refine w_seq ?_
  refine w_region ?_
  refine l_cons rfl (p_move ?_)
  first | refine l_cons rfl (p_ncp ?_) | refine l_cons rfl (p_ncf ?_)
  refine l_cons rfl (p_fap fa_94_0 ?_)
  refine l_cons rfl (p_loadp ty_34 ?_)
  refine l_freeze 25 rfl loc_hit rfl ?_
  refine l_retell 25 (fun c m v h => rep_list_nilTo 1 h) ?_
  refine l_cons rfl (p_move ?_)
  refine l_cons rfl (p_move ?_)
  refine l_cons rfl (p_build ze_36 pl_36 ?_)
  refine l_cons rfl (p_store ty_36 ?_)
  refine l_cons rfl (p_assign ?_)
  refine l_nil ?_
  refine k_seq_normal ?_
  refine w_ret ?_
  exact retct rfl ty_36 (by first | exact sub4 _ _ _ _ _ | exact sub3 _ _ _ _ | exact sub5 _ _ _ _ _ _) ⟨rfl, rfl⟩
end Go.Proofs.YtfdgbghlanbddaaDoor.Av
set_option linter.unusedVariables false
set_option linter.unusedSimpArgs false
set_option maxRecDepth 8000
namespace Go.Proofs.YtfdgbghlanbddaaDoor.Av
open Go.RowKit Go.Proofs
theorem of_a {w0 : World} {es : List Ent} : ACalls Tryd.prog w0 68 [.list 1 [[.int .u8 97]]] es fun v es' => v = .agg [AV.int .u64 0, .int .u64 8589934592, .int .u64 0, .int .u64 0] ∧ es' = es := by
  refine calls1 (N := 27) Tryd.func68 rfl rfl (by decide) ?_
  refine w_seq ?_
  refine w_region ?_
  refine l_cons rfl (p_alloc ze_26 fun s2 => ?_)
  refine l_nil ?_
  refine k_seq_normal ?_
  refine w_seq ?_
  refine w_region ?_
  refine l_cons rfl (p_alloc ze_26 fun s3 => ?_)
  refine l_nil ?_
  refine k_seq_normal ?_
  refine w_seq ?_
  refine w_seq ?_
  refine w_region ?_
  refine l_cons rfl (p_assign ?_)
  refine l_nil ?_
  refine k_seq_normal ?_
  refine w_block ?_
  refine w_loop (fun m f es' => (m = 1 ∧ es' = .row s3 26 4 [[AV.int .u64 0, .int .u64 0, .int .u64 0, .int .u64 0]] :: .row s2 26 4 [[AV.int .u64 0, .int .u64 0, .int .u64 0, .int .u64 0]] :: es ∧ Knows f [(0, .list 1 [[.int .u8 97]]), (2, .ptr es.length s2 0 0), (3, .ptr (es.length + 1) s3 0 0), (4, .int .i64 0)]) ∨ (m = 0 ∧ es' = .row s3 26 4 [[AV.int .u64 0, .int .u64 8589934592, .int .u64 0, .int .u64 0]] :: .row s2 26 4 [[AV.int .u64 0, .int .u64 0, .int .u64 0, .int .u64 0]] :: es ∧ Knows f [(0, .list 1 [[.int .u8 97]]), (2, .ptr es.length s2 0 0), (3, .ptr (es.length + 1) s3 0 0), (4, .int .i64 1)])) (1) (Or.inl ⟨rfl, rfl, by simp only [Knows, upd_apply, Nat.reduceEqDiff, ↓reduceIte, and_true, true_and, eq_self] <;> and_intros <;> rfl⟩) ?_
  rintro m f es' (⟨rfl, rfl, hk⟩ | ⟨rfl, rfl, hk⟩)
  · refine w_pins _ (Sub.refl _) hk ?_
    simp only [pins]
    refine w_seq ?_
    refine w_seq ?_
    refine w_region ?_
    refine l_cons rfl (p_move ?_)
    refine l_cons rfl (p_move ?_)
    refine l_cons rfl (p_lenl sl_22 ?_)
    refine l_cons rfl (p_cmpl true ?_)
    refine l_nil ?_
    refine k_seq_normal ?_
    refine w_t rfl ?_
    refine w_skip ?_
    refine k_seq_normal ?_
    refine w_seq ?_
    refine w_block ?_
    refine w_drawn 14 [] (fun e => e = _) mixed (by kernel_rfl) rfl ?_
    refine q1 0 (hg := rfl) (hu := rfl) (h := by rintro f _ rfl; exact p_move ⟨rfl, rfl⟩) (k := ?_)
    refine q1 4 (hg := rfl) (hu := rfl) (h := by rintro f _ rfl; exact p_move ⟨rfl, rfl⟩) (k := ?_)
    refine q2 11 12 (hg := rfl) (hu := rfl) (h := by rintro f _ rfl; exact p_ixl sl_22 ⟨rfl, rfl⟩) (k := ?_)
    refine q1 13 (hg := rfl) (hu := rfl) (h := by rintro f _ rfl; exact p_loadf ty_5 ⟨rfl, rfl⟩) (k := ?_)
    refine q1 14 (hg := rfl) (hu := rfl) (h := by rintro f _ rfl; exact p_arithl 1 ⟨rfl, rfl⟩) (k := ?_)
    refine q2 3 15 (hg := rfl) (hu := rfl) (h := by rintro f _ rfl; exact p_ixa ar_26 ⟨rfl, rfl⟩) (k := ?_)
    refine q1 16 (hg := rfl) (hu := rfl) (h := by rintro f _ rfl; exact p_loadp ty_24 ⟨rfl, rfl⟩) (k := ?_)
    refine q1 0 (hg := rfl) (hu := rfl) (h := by rintro f _ rfl; exact p_move ⟨rfl, rfl⟩) (k := ?_)
    refine q1 4 (hg := rfl) (hu := rfl) (h := by rintro f _ rfl; exact p_move ⟨rfl, rfl⟩) (k := ?_)
    refine q2 18 19 (hg := rfl) (hu := rfl) (h := by rintro f _ rfl; exact p_ixl sl_22 ⟨rfl, rfl⟩) (k := ?_)
    refine q1 20 (hg := rfl) (hu := rfl) (h := by rintro f _ rfl; exact p_loadf ty_5 ⟨rfl, rfl⟩) (k := ?_)
    refine q1 21 (hg := rfl) (hu := rfl) (h := by rintro f _ rfl; exact p_arithl 33 ⟨rfl, rfl⟩) (k := ?_)
    refine q1 22 (hg := rfl) (hu := rfl) (h := by rintro f _ rfl; exact p_shl ⟨rfl, rfl⟩) (k := ?_)
    refine q2 17 23 (hg := rfl) (hu := rfl) (h := by rintro f _ rfl; exact p_arithl 8589934592 ⟨rfl, rfl⟩) (k := ?_)
    refine q_end ?_
    refine m_end ?_
    refine l_cons rfl (p_ixa ar_26 ?_)
    refine l_cons rfl (p_store ty_24 ?_)
    refine l_nil ?_
    refine k_blk_normal ?_
    refine k_seq_normal ?_
    refine w_region ?_
    refine l_cons rfl (p_move ?_)
    refine l_cons rfl (p_arith ?_)
    refine l_cons rfl (p_assign ?_)
    refine l_nil ?_
    refine k_seq_normal ?_
    exact ⟨0, by omega, Or.inr ⟨rfl, rfl, by simp only [Knows, upd_apply, Nat.reduceEqDiff, ↓reduceIte, and_true, true_and, eq_self] <;> and_intros <;> rfl⟩⟩
  · refine w_pins _ (Sub.refl _) hk ?_
    simp only [pins]
    refine w_seq ?_
    refine w_seq ?_
    refine w_region ?_
    refine l_cons rfl (p_move ?_)
    refine l_cons rfl (p_move ?_)
    refine l_cons rfl (p_lenl sl_22 ?_)
    refine l_cons rfl (p_cmpl false ?_)
    refine l_nil ?_
    refine k_seq_normal ?_
    refine w_f rfl ?_
    refine w_exit ?_
    refine k_seq_exit ?_
    refine k_seq_exit ?_
    refine k_blk_here ?_
    refine k_seq_normal ?_
    refine w_seq ?_
    refine w_region ?_
    refine l_cons rfl (p_loadp ty_26 ?_)
    refine l_cons rfl (p_store ty_26 ?_)
    refine l_nil ?_
    refine k_seq_normal ?_
    refine w_ret ?_
    exact retc rfl ty_26 (sub2 _ _ _) ⟨rfl, rfl⟩
theorem bytes_a {w0 : World} {es : List Ent} : ACalls Tryd.prog w0 67 [.agg [AV.int .u64 0, .int .u64 8589934592, .int .u64 0, .int .u64 0]] es fun v es' => v = .agg [AV.int .i64 3, .int .u64 0, .int .u64 8589934592, .int .u64 0, .int .u64 0, .nil] ∧ es' = es := by
  refine calls1 (N := 9) Tryd.func67 rfl rfl (by decide) ?_
  refine w_seq ?_
  refine w_region ?_
  refine l_cons rfl (p_box fun s1 => ?_)
  refine l_cons rfl (p_alloc ze_29 fun s2 => ?_)
  refine l_nil ?_
  refine k_seq_normal ?_
  refine w_seq ?_
  refine w_seq ?_
  refine w_region ?_
  refine l_cons rfl (p_loadp ty_26 ?_)
  refine l_cons rfl (p_buildArr ze_26 ar_26 ?_)
  refine l_cons rfl (p_eqa ai_26 (b := false) ?_)
  refine l_nil ?_
  refine k_seq_normal ?_
  refine w_f rfl ?_
  refine w_skip ?_
  refine k_seq_normal ?_
  refine w_seq ?_
  refine w_region ?_
  refine l_cons rfl (p_loadp ty_26 ?_)
  refine l_cons rfl (p_build ze_29 pl_29 ?_)
  refine l_cons rfl (p_store ty_29 ?_)
  refine l_nil ?_
  refine k_seq_normal ?_
  refine w_ret ?_
  exact retc rfl ty_29 (sub2 _ _ _) ⟨rfl, rfl⟩
end Go.Proofs.YtfdgbghlanbddaaDoor.Av
set_option linter.unusedVariables false
set_option maxRecDepth 8000
namespace Go.Proofs.YtfdgbghlanbddaaDoor.Av
open Go.RowKit Go.Proofs
/-- Arguments told otherwise. -/
theorem ACalls.args {P : Program} {w0 : World} {fid : FuncId} {a b : List AV} {es : List Ent} {R : AV → List Ent → Prop} (h : ∀ (c : Core) (m : Option (List Ent)) (vs : List Value), Reps c m b vs → Reps c m a vs) (k : ACalls P w0 fid a es R) : ACalls P w0 fid b es R :=
  fun c vs ok rs => k c vs ok (h _ _ _ rs)
end Go.Proofs.YtfdgbghlanbddaaDoor.Av
set_option linter.unusedVariables false
set_option linter.unusedSimpArgs false
set_option maxRecDepth 8000
namespace Go.Proofs.YtfdgbghlanbddaaDoor.Av
open Go.RowKit Go.Proofs
end Go.Proofs.YtfdgbghlanbddaaDoor.Av
set_option linter.unusedVariables false
set_option linter.unusedSimpArgs false
set_option maxRecDepth 8000
namespace Go.Proofs.YtfdgbghlanbddaaDoor.Av
open Go.RowKit Go.Proofs
theorem has_walk {w0 : World} {es : List Ent} (l : List Int) (x : Int) : ACalls Tryd.prog w0 82 [ints l, .int .i64 x] es fun v es' => v = .bool (l.any fun y => decide (y = x)) ∧ es' = es := by
  unfold ints
  refine calls2 (N := 18) Tryd.func82 rfl rfl (by decide) ?_
  refine w_seq ?_
  refine w_region ?_
  refine l_cons rfl (p_assign ?_)
  refine l_nil ?_
  refine k_seq_normal ?_
  refine w_seq ?_
  refine w_seq ?_
  refine w_len 0 fun hl => ?_
  rw [List.length_map] at hl
  simp only [most] at hl
  refine w_region ?_
  refine l_cons rfl (p_assign ?_)
  refine l_nil ?_
  refine k_seq_normal ?_
  refine w_block ?_
  refine w_loop (fun n f es' => ∃ k, n = l.length - k ∧ k ≤ l.length ∧ (l.take k).any (fun y => decide (y = x)) = false ∧ es' = es ∧ Knows f [(0, .list 1 (l.map fun n => [.int .i64 n])), (1, .int .i64 x), (5, .int .i64 k)]) (l.length) (⟨0, rfl, Nat.zero_le _, rfl, rfl, by simp only [Knows, put, upd_apply, Nat.reduceEqDiff, ↓reduceIte, and_true, true_and, eq_self] <;> and_intros <;> rfl⟩) ?_
  rintro n f es' ⟨k, rfl, hk1, hk2, rfl, hk⟩
  refine w_pins _ (Sub.refl _) (hk) ?_
  simp only [pins]
  refine w_seq ?_
  refine w_seq ?_
  refine w_region ?_
  refine l_cons rfl (p_move ?_)
  refine l_cons rfl (p_move ?_)
  refine l_cons rfl (p_lenl sl_48 ?_)
  refine l_cons rfl (p_cmp ?_)
  refine l_nil ?_
  refine k_seq_normal ?_
  refine w_b (fun h1 => ?_) (fun h1 => ?_)
  · skip
    have h1' := h1; (try simp only [decide_eq_true_eq, decide_eq_false_iff_not, Bool.not_eq_true', Bool.not_false, Bool.not_true, Bool.not_eq_false'] at h1')
    refine w_skip ?_
    refine k_seq_normal ?_
    refine w_seq ?_
    refine w_block ?_
    refine w_seq ?_
    refine w_region ?_
    refine l_cons rfl (p_move ?_)
    refine l_cons rfl (p_move ?_)
    refine l_cons rfl (p_ixl sl_48 ?_)
    refine l_cons rfl (p_loadf ty_3 ?_)
    refine l_cons rfl (p_move ?_)
    refine l_cons rfl (p_cmp ?_)
    refine l_nil ?_
    refine k_seq_normal ?_
    refine w_b (fun h2 => ?_) (fun h2 => ?_)
    · skip
      have h2' := h2; (try simp only [decide_eq_true_eq, decide_eq_false_iff_not, Bool.not_eq_true', Bool.not_false, Bool.not_true, Bool.not_eq_false'] at h2')
      refine w_seq ?_
      refine w_region ?_
      refine l_cons rfl (p_assign ?_)
      refine l_nil ?_
      refine k_seq_normal ?_
      refine w_ret ?_
      refine k_blk_ret ?_
      refine k_seq_ret ?_
      refine k_seq_ret ?_
      refine k_blk_ret ?_
      refine k_seq_ret ?_
      exact ret1 rfl (by simp only [ev_tmp, ev_const, ev_func, ofConst_int, ofConst_bool, ofConst_str, ofConst_nil, upd_apply, Nat.reduceEqDiff, ↓reduceIte] <;> exact rfl) (by first | exact Sub.refl _ | exact sub1 _ _ | exact sub2 _ _ _ | exact sub3 _ _ _ _ | exact sub4 _ _ _ _ _ | exact sub5 _ _ _ _ _ _) ⟨by rw [show (l.any fun y => decide (y = x)) = true from List.any_eq_true.2 ⟨l[k]'(by omega), List.getElem_mem _, by assumption⟩], rfl⟩
    · skip
      have h2' := h2; (try simp only [decide_eq_true_eq, decide_eq_false_iff_not, Bool.not_eq_true', Bool.not_false, Bool.not_true, Bool.not_eq_false'] at h2')
      refine w_skip ?_
      refine k_blk_normal ?_
      refine k_seq_normal ?_
      refine w_region ?_
      refine l_cons rfl (p_move ?_)
      refine l_cons rfl (p_arith ?_)
      refine l_cons rfl (p_assign ?_)
      refine l_nil ?_
      refine k_seq_normal ?_
      exact ⟨l.length - (k + 1), by omega, k + 1, rfl, by omega, by rw [any_take (by omega), hk2]; simp_all, rfl, by simp only [Knows, put, upd_apply, Nat.reduceEqDiff, ↓reduceIte, and_true, true_and, eq_self] <;> and_intros <;> rfl⟩
  · skip
    have h1' := h1; (try simp only [decide_eq_true_eq, decide_eq_false_iff_not, Bool.not_eq_true', Bool.not_false, Bool.not_true, Bool.not_eq_false'] at h1')
    refine w_exit ?_
    refine k_seq_exit ?_
    refine k_seq_exit ?_
    refine k_blk_here ?_
    refine k_seq_normal ?_
    refine w_seq ?_
    refine w_region ?_
    refine l_cons rfl (p_assign ?_)
    refine l_nil ?_
    refine k_seq_normal ?_
    refine w_ret ?_
    exact ret1 rfl (by simp only [ev_tmp, ev_const, ev_func, ofConst_int, ofConst_bool, ofConst_str, ofConst_nil, upd_apply, Nat.reduceEqDiff, ↓reduceIte] <;> exact rfl) (by first | exact Sub.refl _ | exact sub1 _ _ | exact sub2 _ _ _ | exact sub3 _ _ _ _ | exact sub4 _ _ _ _ _ | exact sub5 _ _ _ _ _ _) ⟨by rw [← hk2, List.take_of_length_le (by omega)], rfl⟩
theorem marked_walk {w0 : World} {es : List Ent} {id s : Nat} {bs : List Bool} (hb : at_ es id = some (.row s 4 1 (bs.map fun b => [.bool b]))) (hl : bs.length ≤ 2000) : ACalls Tryd.prog w0 88 [.own id s] es fun v es' => v = ints (marks bs bs.length) ∧ es' = es := by
  refine calls1 (N := 20) Tryd.func88 rfl rfl (by decide) ?_
  refine w_seq ?_
  refine w_region ?_
  refine l_cons rfl (p_assign ?_)
  refine l_nil ?_
  refine k_seq_normal ?_
  refine w_seq ?_
  refine w_region ?_
  refine l_cons rfl (p_assign ?_)
  refine l_nil ?_
  refine k_seq_normal ?_
  refine w_seq ?_
  refine w_seq ?_
  refine w_adopt 3 3 1 rfl fun s3 => ?_
  simp only [upd_upd]
  refine w_region ?_
  refine l_cons rfl (p_assign ?_)
  refine l_nil ?_
  refine k_seq_normal ?_
  refine w_block ?_
  refine w_loop (fun n f es' => ∃ k s3, n = bs.length - k ∧ k ≤ bs.length ∧ es' = .row s3 3 1 ((marks bs k).map fun n => [.int .i64 n]) :: es ∧ Knows f [(0, .own id s), (3, .own es.length s3), (4, .int .i64 k)]) (bs.length) (⟨0, s3, rfl, Nat.zero_le _, rfl, by simp only [Knows, put, upd_apply, Nat.reduceEqDiff, ↓reduceIte, and_true, true_and, eq_self] <;> and_intros <;> rfl⟩) ?_
  rintro n f es' ⟨k, s3, rfl, hk1, rfl, hk⟩
  have hml := marks_len bs k
  refine w_pins _ (Sub.refl _) (hk) ?_
  simp only [pins]
  refine w_seq ?_
  refine w_seq ?_
  refine w_region ?_
  refine l_cons rfl (p_move ?_)
  refine l_cons rfl (p_move ?_)
  refine l_cons rfl (p_leno sl_60 ?_)
  refine l_cons rfl (p_cmp ?_)
  refine l_nil ?_
  refine k_seq_normal ?_
  refine w_b (fun h1 => ?_) (fun h1 => ?_)
  · skip
    have h1' := h1; (try simp only [decide_eq_true_eq, decide_eq_false_iff_not, Bool.not_eq_true', Bool.not_false, Bool.not_true, Bool.not_eq_false'] at h1')
    refine w_skip ?_
    refine k_seq_normal ?_
    refine w_seq ?_
    refine w_block ?_
    refine w_seq ?_
    refine w_region ?_
    refine l_cons rfl (p_move ?_)
    refine l_cons rfl (p_move ?_)
    refine l_cons rfl (p_ixo sl_60 ?_)
    refine l_cons rfl (p_loadp ty_4 ?_)
    refine l_nil ?_
    refine k_seq_normal ?_
    refine w_b (fun h2 => ?_) (fun h2 => ?_)
    · skip
      have h2' := h2; (try simp only [decide_eq_true_eq, decide_eq_false_iff_not, Bool.not_eq_true', Bool.not_false, Bool.not_true, Bool.not_eq_false'] at h2')
      refine w_region ?_
      refine l_cons rfl (p_move ?_)
      refine l_cons rfl (p_move ?_)
      refine l_cons rfl (p_buildList sl_48 ze_3 ?_)
      refine l_cons rfl (p_append sl_48 by_3 ze_3 (fun s18 => ?_))
      refine l_cons rfl (p_assign ?_)
      refine l_nil ?_
      refine k_blk_normal ?_
      refine k_seq_normal ?_
      refine w_region ?_
      refine l_cons rfl (p_move ?_)
      refine l_cons rfl (p_arith ?_)
      refine l_cons rfl (p_assign ?_)
      refine l_nil ?_
      refine k_seq_normal ?_
      first
      | exact ⟨bs.length - (k + 1), by omega, k + 1, s18, rfl, by omega, (by rw [marks_succ bs k (by omega), if_pos (by assumption), List.map_append]; rfl), by simp only [Knows, put, upd_apply, Nat.reduceEqDiff, ↓reduceIte, and_true, true_and, eq_self] <;> and_intros <;> rfl⟩
      | exact ⟨bs.length - (k + 1), by omega, k + 1, s3, rfl, by omega, (by rw [marks_succ bs k (by omega), if_neg (by simp_all)]), by simp only [Knows, put, upd_apply, Nat.reduceEqDiff, ↓reduceIte, and_true, true_and, eq_self] <;> and_intros <;> rfl⟩
    · skip
      have h2' := h2; (try simp only [decide_eq_true_eq, decide_eq_false_iff_not, Bool.not_eq_true', Bool.not_false, Bool.not_true, Bool.not_eq_false'] at h2')
      refine w_skip ?_
      refine k_blk_normal ?_
      refine k_seq_normal ?_
      refine w_region ?_
      refine l_cons rfl (p_move ?_)
      refine l_cons rfl (p_arith ?_)
      refine l_cons rfl (p_assign ?_)
      refine l_nil ?_
      refine k_seq_normal ?_
      first
      | exact ⟨bs.length - (k + 1), by omega, k + 1, s18, rfl, by omega, (by rw [marks_succ bs k (by omega), if_pos (by assumption), List.map_append]; rfl), by simp only [Knows, put, upd_apply, Nat.reduceEqDiff, ↓reduceIte, and_true, true_and, eq_self] <;> and_intros <;> rfl⟩
      | exact ⟨bs.length - (k + 1), by omega, k + 1, s3, rfl, by omega, (by rw [marks_succ bs k (by omega), if_neg (by simp_all)]), by simp only [Knows, put, upd_apply, Nat.reduceEqDiff, ↓reduceIte, and_true, true_and, eq_self] <;> and_intros <;> rfl⟩
  · skip
    have h1' := h1; (try simp only [decide_eq_true_eq, decide_eq_false_iff_not, Bool.not_eq_true', Bool.not_false, Bool.not_true, Bool.not_eq_false'] at h1')
    refine w_exit ?_
    refine k_seq_exit ?_
    refine k_seq_exit ?_
    refine k_blk_here ?_
    refine k_seq_normal ?_
    refine w_seq ?_
    refine w_freezeTop 3 ?_
    refine w_region ?_
    refine l_cons rfl (p_move ?_)
    refine l_cons rfl (p_assign ?_)
    refine l_nil ?_
    refine k_seq_normal ?_
    refine w_ret ?_
    exact ret1 rfl (by simp only [ev_tmp, ev_const, ev_func, ofConst_int, ofConst_bool, ofConst_str, ofConst_nil, upd_apply, Nat.reduceEqDiff, ↓reduceIte] <;> exact rfl) (by first | exact Sub.refl _ | exact sub1 _ _ | exact sub2 _ _ _ | exact sub3 _ _ _ _ | exact sub4 _ _ _ _ _ | exact sub5 _ _ _ _ _ _) ⟨by rw [show k = bs.length by omega]; rfl, rfl⟩
theorem refMay {w0 : World} {es : List Ent} (n : Nf) : ACalls Tryd.prog w0 42 [n.av] es fun v es' => v = .bool (mayN n) ∧ es' = es := by
  unfold Nf.av
  refine calls1 (N := 76) Tryd.func42 rfl rfl (by decide) ?_
  refine w_seq ?_
  refine w_region ?_
  refine l_cons rfl (p_box fun s1 => ?_)
  refine l_cons rfl (p_assign ?_)
  refine l_nil ?_
  refine k_seq_normal ?_
  refine w_seq ?_
  refine w_region ?_
  refine l_cons rfl (p_fap fa_36_0 ?_)
  refine l_cons rfl (p_loadp ty_34 ?_)
  refine l_len 8 fun hlen => ?_
  simp only [List.length_map, most] at hlen
  first | refine l_cons rfl (p_lenl sl_34 ?_) | refine l_cons rfl (p_leno sl_34 ?_) | refine l_cons rfl (p_lenn sl_34 ?_)
  refine l_cons rfl (p_assign ?_)
  refine l_nil ?_
  refine k_seq_normal ?_
  refine w_seq ?_
  refine w_seq ?_
  refine w_region ?_
  refine l_cons rfl (p_move ?_)
  refine l_cons rfl (p_cmp ?_)
  refine l_cons rfl (p_move ?_)
  refine g_b rfl (fun h1 => ?_) (fun h1 => ?_)
  · skip
    have h1' := h1; (try simp only [decide_eq_true_eq, decide_eq_false_iff_not, Bool.not_eq_true', Bool.not_false, Bool.not_true, Bool.not_eq_false'] at h1')
    refine (p_fap fa_36_1 ?_)
    refine g_y rfl h1 (p_loadp ty_3 ?_)
    refine g_y rfl h1 (p_cmp ?_)
    refine l_cons rfl (p_pickf h1 ?_)
    refine l_cons rfl (p_move ?_)
    refine g_b rfl (fun h2 => ?_) (fun h2 => ?_)
    · skip
      have h2' := h2; (try simp only [decide_eq_true_eq, decide_eq_false_iff_not, Bool.not_eq_true', Bool.not_false, Bool.not_true, Bool.not_eq_false'] at h2')
      refine (p_fap fa_36_1 ?_)
      refine g_y rfl h2 (p_loadp ty_3 ?_)
      refine g_y rfl h2 (p_move ?_)
      refine g_y rfl h2 (p_cmp ?_)
      refine l_cons rfl (p_pickf h2 ?_)
      refine l_cons rfl (p_move ?_)
      refine g_b rfl (fun h3 => ?_) (fun h3 => ?_)
      · skip
        have h3' := h3; (try simp only [decide_eq_true_eq, decide_eq_false_iff_not, Bool.not_eq_true', Bool.not_false, Bool.not_true, Bool.not_eq_false'] at h3')
        refine (p_fap fa_36_2 ?_)
        refine g_y rfl h3 (p_loadp ty_3 ?_)
        refine g_y rfl h3 (p_cmp ?_)
        refine l_cons rfl (p_pickf h3 ?_)
        refine l_cons rfl (p_move ?_)
        refine g_b rfl (fun h4 => ?_) (fun h4 => ?_)
        · skip
          have h4' := h4; (try simp only [decide_eq_true_eq, decide_eq_false_iff_not, Bool.not_eq_true', Bool.not_false, Bool.not_true, Bool.not_eq_false'] at h4')
          refine (p_fap fa_36_2 ?_)
          refine g_y rfl h4 (p_loadp ty_3 ?_)
          refine g_y rfl h4 (p_move ?_)
          refine g_y rfl h4 (p_cmp ?_)
          refine l_cons rfl (p_pickf h4 ?_)
          refine l_nil ?_
          refine k_seq_normal ?_
          refine w_b (fun h5 => ?_) (fun h5 => ?_)
          · skip
            have h5' := h5; (try simp only [decide_eq_true_eq, decide_eq_false_iff_not, Bool.not_eq_true', Bool.not_false, Bool.not_true, Bool.not_eq_false'] at h5')
            refine w_seq ?_
            refine w_region ?_
            refine l_cons rfl (p_assign ?_)
            refine l_nil ?_
            refine k_seq_normal ?_
            refine w_ret ?_
            refine k_seq_ret ?_
            exact ret1 rfl (by simp only [ev_tmp, ev_const, ev_func, ofConst_int, ofConst_bool, ofConst_str, ofConst_nil, upd_apply, Nat.reduceEqDiff, ↓reduceIte] <;> exact rfl) (by first | exact Sub.refl _ | exact sub1 _ _ | exact sub2 _ _ _ | exact sub3 _ _ _ _ | exact sub4 _ _ _ _ _ | exact sub5 _ _ _ _ _ _) ⟨by rw [may_no1 (by first | (left; omega) | (right; unfold inN; simp only [Bool.and_eq_false_iff, decide_eq_false_iff_not]; omega))], rfl⟩
          · skip
            have h5' := h5; (try simp only [decide_eq_true_eq, decide_eq_false_iff_not, Bool.not_eq_true', Bool.not_false, Bool.not_true, Bool.not_eq_false'] at h5')
            refine w_skip ?_
            refine k_seq_normal ?_
            refine w_seq ?_
            refine w_seq ?_
            refine w_region ?_
            refine l_cons rfl (p_assign ?_)
            refine l_nil ?_
            refine k_seq_normal ?_
            refine w_block ?_
            refine w_loop (fun m f es' => ∃ k, m = n.st.length - k ∧ k ≤ n.st.length ∧ (n.st.take k).all (okS n) = true ∧ Sub (.row s1 36 3 [n.cells] :: es) es' ∧ Knows f [(1, .ptr es.length s1 0 0), (3, .int .i64 n.st.length), (4, .int .i64 k)]) (n.st.length) (⟨0, rfl, Nat.zero_le _, rfl, Sub.refl _, by simp only [Knows, put, upd_apply, Nat.reduceEqDiff, ↓reduceIte, and_true, true_and, eq_self] <;> and_intros <;> rfl⟩) ?_
            rintro m f es' ⟨k, rfl, hk1, hk2, hsub, hk⟩
            refine w_pins _ hsub (hk) ?_
            simp only [pins]
            refine w_seq ?_
            refine w_seq ?_
            refine w_region ?_
            refine l_cons rfl (p_move ?_)
            refine l_cons rfl (p_move ?_)
            refine l_cons rfl (p_cmp ?_)
            refine l_nil ?_
            refine k_seq_normal ?_
            refine w_b (fun h6 => ?_) (fun h6 => ?_)
            · skip
              have h6' := h6; (try simp only [decide_eq_true_eq, decide_eq_false_iff_not, Bool.not_eq_true', Bool.not_false, Bool.not_true, Bool.not_eq_false'] at h6')
              refine w_skip ?_
              refine k_seq_normal ?_
              refine w_seq ?_
              refine w_block ?_
              refine w_seq ?_
              refine w_region ?_
              refine l_cons rfl (p_fap fa_36_0 ?_)
              refine l_cons rfl (p_loadp ty_34 ?_)
              refine l_cons rfl (p_move ?_)
              first | refine l_cons rfl (p_ixl sl_34 ?_) | refine l_cons rfl (p_ixo sl_34 ?_)
              first | refine l_cons rfl (p_loadf ty_75 ?_) | refine l_cons rfl (p_loadp ty_75 ?_)
              refine l_cons rfl (p_alloc ze_75 fun s5 => ?_)
              refine l_cons rfl (p_store ty_75 ?_)
              refine l_nil ?_
              refine k_seq_normal ?_
              refine w_seq ?_
              refine w_seq ?_
              refine w_region ?_
              refine l_cons rfl (p_fap fa_75_1 ?_)
              refine l_cons rfl (p_loadp ty_3 ?_)
              refine l_cons rfl (p_move ?_)
              refine l_cons rfl (p_cmp ?_)
              refine l_cons rfl (p_move ?_)
              refine g_b rfl (fun h7 => ?_) (fun h7 => ?_)
              · skip
                have h7' := h7; (try simp only [decide_eq_true_eq, decide_eq_false_iff_not, Bool.not_eq_true', Bool.not_false, Bool.not_true, Bool.not_eq_false'] at h7')
                refine (p_fap fa_75_2 ?_)
                refine g_y rfl h7 (p_loadp ty_48 ?_)
                first | refine g_y rfl h7 (p_lenl sl_48 ?_) | refine g_y rfl h7 (p_leno sl_48 ?_) | refine g_y rfl h7 (p_lenn sl_48 ?_)
                refine g_y rfl h7 (p_cmp ?_)
                refine l_cons rfl (p_pickf h7 ?_)
                refine l_nil ?_
                refine k_seq_normal ?_
                refine w_b (fun h8 => ?_) (fun h8 => ?_)
                · skip
                  have h8' := h8; (try simp only [decide_eq_true_eq, decide_eq_false_iff_not, Bool.not_eq_true', Bool.not_false, Bool.not_true, Bool.not_eq_false'] at h8')
                  refine w_seq ?_
                  refine w_region ?_
                  refine l_cons rfl (p_assign ?_)
                  refine l_nil ?_
                  refine k_seq_normal ?_
                  refine w_ret ?_
                  refine k_seq_ret ?_
                  refine k_blk_ret ?_
                  refine k_seq_ret ?_
                  refine k_seq_ret ?_
                  refine k_blk_ret ?_
                  refine k_seq_ret ?_
                  exact ret1 rfl (by simp only [ev_tmp, ev_const, ev_func, ofConst_int, ofConst_bool, ofConst_str, ofConst_nil, upd_apply, Nat.reduceEqDiff, ↓reduceIte] <;> exact rfl) (by first | exact Sub.refl _ | exact sub1 _ _ | exact sub2 _ _ _ | exact sub3 _ _ _ _ | exact sub4 _ _ _ _ _ | exact sub5 _ _ _ _ _ _) ⟨by rw [may_no2 (k := k) (by omega) (by unfold okS; simp only [Bool.and_eq_false_iff, decide_eq_false_iff_not]; omega)], rfl⟩
                · skip
                  have h8' := h8; (try simp only [decide_eq_true_eq, decide_eq_false_iff_not, Bool.not_eq_true', Bool.not_false, Bool.not_true, Bool.not_eq_false'] at h8')
                  refine w_skip ?_
                  refine k_seq_normal ?_
                  refine w_seq ?_
                  refine w_region ?_
                  refine l_cons rfl (p_assign ?_)
                  refine l_nil ?_
                  refine k_seq_normal ?_
                  refine w_block ?_
                  refine w_loop (fun m f es' => ∃ j s5, m = ((n.st[k]'(by omega)).free).length - j ∧ j ≤ ((n.st[k]'(by omega)).free).length ∧ (((n.st[k]'(by omega)).free).take j).all (inN n) = true ∧ es' = .row s5 75 6 [(n.st[k]'(by omega)).row] :: .row s1 36 3 [n.cells] :: es ∧ Knows f [(1, .ptr es.length s1 0 0), (3, .int .i64 n.st.length), (4, .int .i64 k), (5, .ptr (es.length + 1) s5 0 0), (6, .int .i64 j)]) (((n.st[k]'(by omega)).free).length) (⟨0, s5, rfl, Nat.zero_le _, rfl, rfl, by simp only [Knows, put, upd_apply, Nat.reduceEqDiff, ↓reduceIte, and_true, true_and, eq_self] <;> and_intros <;> rfl⟩) ?_
                  rintro m f es' ⟨j, s5, rfl, hj1, hj2, rfl, hk⟩
                  refine w_pins _ (Sub.refl _) (hk) ?_
                  simp only [pins]
                  refine w_seq ?_
                  refine w_seq ?_
                  refine w_region ?_
                  refine l_cons rfl (p_move ?_)
                  refine l_cons rfl (p_fap fa_75_2 ?_)
                  refine l_cons rfl (p_loadp ty_48 ?_)
                  refine l_len 56 fun hfl => ?_
                  simp only [List.length_map, most] at hfl
                  first | refine l_cons rfl (p_lenl sl_48 ?_) | refine l_cons rfl (p_leno sl_48 ?_) | refine l_cons rfl (p_lenn sl_48 ?_)
                  refine l_cons rfl (p_cmp ?_)
                  refine l_nil ?_
                  refine k_seq_normal ?_
                  refine w_b (fun h9 => ?_) (fun h9 => ?_)
                  · skip
                    have h9' := h9; (try simp only [decide_eq_true_eq, decide_eq_false_iff_not, Bool.not_eq_true', Bool.not_false, Bool.not_true, Bool.not_eq_false'] at h9')
                    refine w_skip ?_
                    refine k_seq_normal ?_
                    refine w_seq ?_
                    refine w_block ?_
                    refine w_seq ?_
                    refine w_region ?_
                    refine l_cons rfl (p_fap fa_75_2 ?_)
                    refine l_cons rfl (p_loadp ty_48 ?_)
                    refine l_cons rfl (p_move ?_)
                    first | refine l_cons rfl (p_ixl sl_48 ?_) | refine l_cons rfl (p_ixo sl_48 ?_)
                    first | refine l_cons rfl (p_loadf ty_3 ?_) | refine l_cons rfl (p_loadp ty_3 ?_)
                    refine l_cons rfl (p_cmp ?_)
                    refine l_cons rfl (p_move ?_)
                    refine g_b rfl (fun h10 => ?_) (fun h10 => ?_)
                    · skip
                      have h10' := h10; (try simp only [decide_eq_true_eq, decide_eq_false_iff_not, Bool.not_eq_true', Bool.not_false, Bool.not_true, Bool.not_eq_false'] at h10')
                      refine (p_fap fa_75_2 ?_)
                      refine g_y rfl h10 (p_loadp ty_48 ?_)
                      refine g_y rfl h10 (p_move ?_)
                      first | refine g_y rfl h10 (p_ixl sl_48 ?_) | refine g_y rfl h10 (p_ixo sl_48 ?_)
                      first | refine g_y rfl h10 (p_loadf ty_3 ?_) | refine g_y rfl h10 (p_loadp ty_3 ?_)
                      refine g_y rfl h10 (p_move ?_)
                      refine g_y rfl h10 (p_cmp ?_)
                      refine l_cons rfl (p_pickf h10 ?_)
                      refine l_nil ?_
                      refine k_seq_normal ?_
                      refine w_b (fun h11 => ?_) (fun h11 => ?_)
                      · skip
                        have h11' := h11; (try simp only [decide_eq_true_eq, decide_eq_false_iff_not, Bool.not_eq_true', Bool.not_false, Bool.not_true, Bool.not_eq_false'] at h11')
                        refine w_seq ?_
                        refine w_region ?_
                        refine l_cons rfl (p_assign ?_)
                        refine l_nil ?_
                        refine k_seq_normal ?_
                        refine w_ret ?_
                        refine k_blk_ret ?_
                        refine k_seq_ret ?_
                        refine k_seq_ret ?_
                        refine k_blk_ret ?_
                        refine k_blk_ret ?_
                        refine k_seq_ret ?_
                        refine k_seq_ret ?_
                        refine k_blk_ret ?_
                        refine k_seq_ret ?_
                        exact ret1 rfl (by simp only [ev_tmp, ev_const, ev_func, ofConst_int, ofConst_bool, ofConst_str, ofConst_nil, upd_apply, Nat.reduceEqDiff, ↓reduceIte] <;> exact rfl) (by first | exact Sub.refl _ | exact sub1 _ _ | exact sub2 _ _ _ | exact sub3 _ _ _ _ | exact sub4 _ _ _ _ _ | exact sub5 _ _ _ _ _ _) ⟨by rw [may_no2 (k := k) (by omega) (by unfold okS; rw [all_no (k := j) (by omega) (by unfold inN; simp only [Bool.and_eq_false_iff, decide_eq_false_iff_not]; omega)]; simp)], rfl⟩
                      · skip
                        have h11' := h11; (try simp only [decide_eq_true_eq, decide_eq_false_iff_not, Bool.not_eq_true', Bool.not_false, Bool.not_true, Bool.not_eq_false'] at h11')
                        refine w_skip ?_
                        refine k_blk_normal ?_
                        refine k_seq_normal ?_
                        refine w_region ?_
                        refine l_cons rfl (p_move ?_)
                        refine l_cons rfl (p_arith ?_)
                        refine l_cons rfl (p_assign ?_)
                        refine l_nil ?_
                        refine k_seq_normal ?_
                        exact ⟨((n.st[k]'(by omega)).free).length - (j + 1), by omega, j + 1, s5, rfl, by omega, take_all (by omega) hj2 (by unfold inN; simp_all; try omega), rfl, by simp only [Knows, put, upd_apply, Nat.reduceEqDiff, ↓reduceIte, and_true, true_and, eq_self] <;> and_intros <;> rfl⟩
                    · skip
                      have h10' := h10; (try simp only [decide_eq_true_eq, decide_eq_false_iff_not, Bool.not_eq_true', Bool.not_false, Bool.not_true, Bool.not_eq_false'] at h10')
                      refine g_n rfl h10 ?_
                      refine g_n rfl h10 ?_
                      refine g_n rfl h10 ?_
                      refine g_n rfl h10 ?_
                      refine g_n rfl h10 ?_
                      refine g_n rfl h10 ?_
                      refine l_cons rfl (p_pickt h10 ?_)
                      refine l_nil ?_
                      refine k_seq_normal ?_
                      refine w_t rfl ?_
                      refine w_seq ?_
                      refine w_region ?_
                      refine l_cons rfl (p_assign ?_)
                      refine l_nil ?_
                      refine k_seq_normal ?_
                      refine w_ret ?_
                      refine k_blk_ret ?_
                      refine k_seq_ret ?_
                      refine k_seq_ret ?_
                      refine k_blk_ret ?_
                      refine k_blk_ret ?_
                      refine k_seq_ret ?_
                      refine k_seq_ret ?_
                      refine k_blk_ret ?_
                      refine k_seq_ret ?_
                      exact ret1 rfl (by simp only [ev_tmp, ev_const, ev_func, ofConst_int, ofConst_bool, ofConst_str, ofConst_nil, upd_apply, Nat.reduceEqDiff, ↓reduceIte] <;> exact rfl) (by first | exact Sub.refl _ | exact sub1 _ _ | exact sub2 _ _ _ | exact sub3 _ _ _ _ | exact sub4 _ _ _ _ _ | exact sub5 _ _ _ _ _ _) ⟨by rw [may_no2 (k := k) (by omega) (by unfold okS; rw [all_no (k := j) (by omega) (by unfold inN; simp only [Bool.and_eq_false_iff, decide_eq_false_iff_not]; omega)]; simp)], rfl⟩
                  · skip
                    have h9' := h9; (try simp only [decide_eq_true_eq, decide_eq_false_iff_not, Bool.not_eq_true', Bool.not_false, Bool.not_true, Bool.not_eq_false'] at h9')
                    refine w_exit ?_
                    refine k_seq_exit ?_
                    refine k_seq_exit ?_
                    refine k_blk_here ?_
                    refine k_blk_normal ?_
                    refine k_seq_normal ?_
                    refine w_region ?_
                    refine l_cons rfl (p_move ?_)
                    refine l_cons rfl (p_arith ?_)
                    refine l_cons rfl (p_assign ?_)
                    refine l_nil ?_
                    refine k_seq_normal ?_
                    exact ⟨n.st.length - (k + 1), by omega, k + 1, rfl, by omega, take_all (by omega) hk2 (by
                      have hall : ((n.st[k]'(by omega)).free).all (inN n) = true := by rw [← hj2, List.take_of_length_le (by omega)]
                      unfold okS
                      rw [hall]
                      simp only [Bool.and_true, Bool.and_eq_true, decide_eq_true_eq]
                      omega), (by first | exact Sub.refl _ | exact sub1 _ _), by simp only [Knows, put, upd_apply, Nat.reduceEqDiff, ↓reduceIte, and_true, true_and, eq_self] <;> and_intros <;> rfl⟩
              · skip
                have h7' := h7; (try simp only [decide_eq_true_eq, decide_eq_false_iff_not, Bool.not_eq_true', Bool.not_false, Bool.not_true, Bool.not_eq_false'] at h7')
                refine g_n rfl h7 ?_
                refine g_n rfl h7 ?_
                refine g_n rfl h7 ?_
                refine l_cons rfl (p_pickt h7 ?_)
                refine l_nil ?_
                refine k_seq_normal ?_
                refine w_t rfl ?_
                refine w_seq ?_
                refine w_region ?_
                refine l_cons rfl (p_assign ?_)
                refine l_nil ?_
                refine k_seq_normal ?_
                refine w_ret ?_
                refine k_seq_ret ?_
                refine k_blk_ret ?_
                refine k_seq_ret ?_
                refine k_seq_ret ?_
                refine k_blk_ret ?_
                refine k_seq_ret ?_
                exact ret1 rfl (by simp only [ev_tmp, ev_const, ev_func, ofConst_int, ofConst_bool, ofConst_str, ofConst_nil, upd_apply, Nat.reduceEqDiff, ↓reduceIte] <;> exact rfl) (by first | exact Sub.refl _ | exact sub1 _ _ | exact sub2 _ _ _ | exact sub3 _ _ _ _ | exact sub4 _ _ _ _ _ | exact sub5 _ _ _ _ _ _) ⟨by rw [may_no2 (k := k) (by omega) (by unfold okS; simp only [Bool.and_eq_false_iff, decide_eq_false_iff_not]; omega)], rfl⟩
            · skip
              have h6' := h6; (try simp only [decide_eq_true_eq, decide_eq_false_iff_not, Bool.not_eq_true', Bool.not_false, Bool.not_true, Bool.not_eq_false'] at h6')
              refine w_exit ?_
              refine k_seq_exit ?_
              refine k_seq_exit ?_
              refine k_blk_here ?_
              refine k_seq_normal ?_
              refine w_seq ?_
              refine w_region ?_
              refine l_cons rfl (p_assign ?_)
              refine l_nil ?_
              refine k_seq_normal ?_
              refine w_ret ?_
              exact ret1 rfl (by simp only [ev_tmp, ev_const, ev_func, ofConst_int, ofConst_bool, ofConst_str, ofConst_nil, upd_apply, Nat.reduceEqDiff, ↓reduceIte] <;> exact rfl) (by first | exact Sub.refl _ | exact sub1 _ _ | exact sub2 _ _ _ | exact sub3 _ _ _ _ | exact sub4 _ _ _ _ _ | exact sub5 _ _ _ _ _ _) ⟨by rw [may_yes (by omega) (by unfold inN; simp only [Bool.and_eq_true, decide_eq_true_eq]; omega) (by unfold inN; simp only [Bool.and_eq_true, decide_eq_true_eq]; omega) (by rw [← hk2, List.take_of_length_le (by omega)])], rfl⟩
        · skip
          have h4' := h4; (try simp only [decide_eq_true_eq, decide_eq_false_iff_not, Bool.not_eq_true', Bool.not_false, Bool.not_true, Bool.not_eq_false'] at h4')
          refine g_n rfl h4 ?_
          refine g_n rfl h4 ?_
          refine g_n rfl h4 ?_
          refine l_cons rfl (p_pickt h4 ?_)
          refine l_nil ?_
          refine k_seq_normal ?_
          refine w_t rfl ?_
          refine w_seq ?_
          refine w_region ?_
          refine l_cons rfl (p_assign ?_)
          refine l_nil ?_
          refine k_seq_normal ?_
          refine w_ret ?_
          refine k_seq_ret ?_
          exact ret1 rfl (by simp only [ev_tmp, ev_const, ev_func, ofConst_int, ofConst_bool, ofConst_str, ofConst_nil, upd_apply, Nat.reduceEqDiff, ↓reduceIte] <;> exact rfl) (by first | exact Sub.refl _ | exact sub1 _ _ | exact sub2 _ _ _ | exact sub3 _ _ _ _ | exact sub4 _ _ _ _ _ | exact sub5 _ _ _ _ _ _) ⟨by rw [may_no1 (by first | (left; omega) | (right; unfold inN; simp only [Bool.and_eq_false_iff, decide_eq_false_iff_not]; omega))], rfl⟩
      · skip
        have h3' := h3; (try simp only [decide_eq_true_eq, decide_eq_false_iff_not, Bool.not_eq_true', Bool.not_false, Bool.not_true, Bool.not_eq_false'] at h3')
        refine g_n rfl h3 ?_
        refine g_n rfl h3 ?_
        refine l_cons rfl (p_pickt h3 ?_)
        refine l_cons rfl (p_move ?_)
        refine g_n rfl rfl ?_
        refine g_n rfl rfl ?_
        refine g_n rfl rfl ?_
        refine g_n rfl rfl ?_
        refine l_cons rfl (p_pickt rfl ?_)
        refine l_nil ?_
        refine k_seq_normal ?_
        refine w_t rfl ?_
        refine w_seq ?_
        refine w_region ?_
        refine l_cons rfl (p_assign ?_)
        refine l_nil ?_
        refine k_seq_normal ?_
        refine w_ret ?_
        refine k_seq_ret ?_
        exact ret1 rfl (by simp only [ev_tmp, ev_const, ev_func, ofConst_int, ofConst_bool, ofConst_str, ofConst_nil, upd_apply, Nat.reduceEqDiff, ↓reduceIte] <;> exact rfl) (by first | exact Sub.refl _ | exact sub1 _ _ | exact sub2 _ _ _ | exact sub3 _ _ _ _ | exact sub4 _ _ _ _ _ | exact sub5 _ _ _ _ _ _) ⟨by rw [may_no1 (by first | (left; omega) | (right; unfold inN; simp only [Bool.and_eq_false_iff, decide_eq_false_iff_not]; omega))], rfl⟩
    · skip
      have h2' := h2; (try simp only [decide_eq_true_eq, decide_eq_false_iff_not, Bool.not_eq_true', Bool.not_false, Bool.not_true, Bool.not_eq_false'] at h2')
      refine g_n rfl h2 ?_
      refine g_n rfl h2 ?_
      refine g_n rfl h2 ?_
      refine l_cons rfl (p_pickt h2 ?_)
      refine l_cons rfl (p_move ?_)
      refine g_n rfl rfl ?_
      refine g_n rfl rfl ?_
      refine g_n rfl rfl ?_
      refine l_cons rfl (p_pickt rfl ?_)
      refine l_cons rfl (p_move ?_)
      refine g_n rfl rfl ?_
      refine g_n rfl rfl ?_
      refine g_n rfl rfl ?_
      refine g_n rfl rfl ?_
      refine l_cons rfl (p_pickt rfl ?_)
      refine l_nil ?_
      refine k_seq_normal ?_
      refine w_t rfl ?_
      refine w_seq ?_
      refine w_region ?_
      refine l_cons rfl (p_assign ?_)
      refine l_nil ?_
      refine k_seq_normal ?_
      refine w_ret ?_
      refine k_seq_ret ?_
      exact ret1 rfl (by simp only [ev_tmp, ev_const, ev_func, ofConst_int, ofConst_bool, ofConst_str, ofConst_nil, upd_apply, Nat.reduceEqDiff, ↓reduceIte] <;> exact rfl) (by first | exact Sub.refl _ | exact sub1 _ _ | exact sub2 _ _ _ | exact sub3 _ _ _ _ | exact sub4 _ _ _ _ _ | exact sub5 _ _ _ _ _ _) ⟨by rw [may_no1 (by first | (left; omega) | (right; unfold inN; simp only [Bool.and_eq_false_iff, decide_eq_false_iff_not]; omega))], rfl⟩
  · skip
    have h1' := h1; (try simp only [decide_eq_true_eq, decide_eq_false_iff_not, Bool.not_eq_true', Bool.not_false, Bool.not_true, Bool.not_eq_false'] at h1')
    refine g_n rfl h1 ?_
    refine g_n rfl h1 ?_
    refine l_cons rfl (p_pickt h1 ?_)
    refine l_cons rfl (p_move ?_)
    refine g_n rfl rfl ?_
    refine g_n rfl rfl ?_
    refine g_n rfl rfl ?_
    refine g_n rfl rfl ?_
    refine l_cons rfl (p_pickt rfl ?_)
    refine l_cons rfl (p_move ?_)
    refine g_n rfl rfl ?_
    refine g_n rfl rfl ?_
    refine g_n rfl rfl ?_
    refine l_cons rfl (p_pickt rfl ?_)
    refine l_cons rfl (p_move ?_)
    refine g_n rfl rfl ?_
    refine g_n rfl rfl ?_
    refine g_n rfl rfl ?_
    refine g_n rfl rfl ?_
    refine l_cons rfl (p_pickt rfl ?_)
    refine l_nil ?_
    refine k_seq_normal ?_
    refine w_t rfl ?_
    refine w_seq ?_
    refine w_region ?_
    refine l_cons rfl (p_assign ?_)
    refine l_nil ?_
    refine k_seq_normal ?_
    refine w_ret ?_
    refine k_seq_ret ?_
    exact ret1 rfl (by simp only [ev_tmp, ev_const, ev_func, ofConst_int, ofConst_bool, ofConst_str, ofConst_nil, upd_apply, Nat.reduceEqDiff, ↓reduceIte] <;> exact rfl) (by first | exact Sub.refl _ | exact sub1 _ _ | exact sub2 _ _ _ | exact sub3 _ _ _ _ | exact sub4 _ _ _ _ _ | exact sub5 _ _ _ _ _ _) ⟨by rw [may_no1 (by first | (left; omega) | (right; unfold inN; simp only [Bool.and_eq_false_iff, decide_eq_false_iff_not]; omega))], rfl⟩
end Go.Proofs.YtfdgbghlanbddaaDoor.Av
namespace Go.Proofs.YtfdgbghlanbddaaDoor.Av
/-! ### the document's own closing -/
structure RI (n : Nf) (l : List Int) (bs : List Bool) : Prop where
  len : bs.length = n.st.length
  sound : ∀ i, On bs i → Reach n l i
  roots : ∀ x ∈ l, 0 ≤ x → x.toNat < n.st.length → On bs x.toNat
/-- One sweep under way: what was at its beginning, is there anything new, now, how far. -/
structure SW (n : Nf) (l : List Int) (bs0 : List Bool) (again : Bool) (bs : List Bool) (i k : Nat) : Prop where
  ri : RI n l bs
  le : bs.count false ≤ bs0.count false
  less : again = true → bs.count false < bs0.count false
  past : again = false → ∀ i' (h : i' < n.st.length), i' < i → On bs i' → ∀ x ∈ (n.st[i']).free, On bs x.toNat
  here : again = false → ∀ h : i < n.st.length, On bs i → ∀ x ∈ ((n.st[i]).free).take k, On bs x.toNat
theorem on_set_same {bs : List Bool} {i : Nat} (h : On bs i) : bs.set i true = bs := by
  unfold On at h
  refine List.ext_getElem? fun j => ?_
  rw [List.getElem?_set]
  split
  · rename_i e
    subst e
    rw [if_pos (List.getElem?_eq_some_iff.1 h).1, h]
  · rfl
theorem count_set_new {bs : List Bool} {i : Nat} (hi : i < bs.length) (h : bs[i] = false) : (bs.set i true).count false < bs.count false := by
  rw [List.count_set hi]
  have hpos : 0 < bs.count false := List.count_pos_iff.2 (h ▸ List.getElem_mem hi)
  have e2 : (true == false) = false := rfl
  simp only [h, beq_self_eq_true, if_true, e2, Bool.false_eq_true, if_false]
  omega
theorem SW.begin {n : Nf} {l : List Int} {bs : List Bool} (h : RI n l bs) : SW n l bs false bs 0 0 :=
  ⟨h, Nat.le_refl _, fun e => (by cases e), fun _ i' _ hi => absurd hi (Nat.not_lt_zero _), fun _ _ _ x hx => by simp at hx⟩
theorem SW.mark {n : Nf} {l : List Int} {bs0 bs : List Bool} {again : Bool} {i k : Nat} (hi : i < n.st.length) (hk : k < (n.st[i]).free.length) (h : SW n l bs0 again bs i k) (hon : On bs i) (h0 : 0 ≤ (n.st[i]).free[k]) (h1 : (n.st[i]).free[k].toNat < bs.length) :
    SW n l bs0 (again || !(bs[(n.st[i]).free[k].toNat])) (bs.set (n.st[i]).free[k].toNat true) i (k + 1) := by
  have hR := h.ri.sound i hon
  have hri : RI n l (bs.set (n.st[i]).free[k].toNat true) := by
    refine ⟨by rw [List.length_set]; exact h.ri.len, fun j hj => ?_, fun x hx hx0 hx1 => ?_⟩
    · rcases (on_set h1).1 hj with rfl | hj
      · exact .step hi hR (by rw [Int.toNat_of_nonneg h0]; exact List.getElem_mem hk) (by rw [← h.ri.len]; exact h1)
      · exact h.ri.sound j hj
    · exact (on_set h1).2 (.inr (h.ri.roots x hx hx0 hx1))
  by_cases hb : bs[(n.st[i]).free[k].toNat] = true
  · have hon2 : On bs (n.st[i]).free[k].toNat := by unfold On; rw [List.getElem?_eq_getElem h1, hb]
    rw [hb]
    simp only [Bool.not_true, Bool.or_false]
    rw [on_set_same hon2]
    refine ⟨h.ri, h.le, h.less, h.past, fun e hi' ho x hx => ?_⟩
    rw [List.take_add_one, List.getElem?_eq_getElem hk] at hx
    rcases List.mem_append.1 hx with hx | hx
    · exact h.here e hi' ho x hx
    · simp only [Option.toList_some, List.mem_singleton] at hx
      subst hx
      exact hon2
  · have hb' : bs[(n.st[i]).free[k].toNat] = false := by simpa using hb
    rw [hb']
    simp only [Bool.not_false, Bool.or_true]
    have hc := count_set_new h1 hb'
    exact ⟨hri, by have := h.le; omega, fun _ => by have := h.le; omega, fun e => (by cases e), fun e => (by cases e)⟩
theorem SW.next {n : Nf} {l : List Int} {bs0 bs : List Bool} {again : Bool} {i k : Nat} (hi : i < n.st.length) (h : SW n l bs0 again bs i k) (hd : k = (n.st[i]).free.length ∨ ¬ On bs i) : SW n l bs0 again bs (i + 1) 0 := by
  refine ⟨h.ri, h.le, h.less, fun e i' hi' hlt ho x hx => ?_, fun _ _ _ x hx => by simp at hx⟩
  rcases Nat.lt_or_eq_of_le (Nat.le_of_lt_succ hlt) with h1 | h1
  · exact h.past e i' hi' h1 ho x hx
  · subst h1
    rcases hd with rfl | hd
    · exact h.here e hi ho x (by rw [List.take_length]; exact hx)
    · exact absurd ho hd
theorem SW.fin {n : Nf} {l : List Int} {bs0 bs : List Bool} {k : Nat} (h : SW n l bs0 false bs n.st.length k) (i : Nat) : On bs i ↔ Reach n l i := by
  refine ⟨h.ri.sound i, fun hr => ?_⟩
  induction hr with
  | base hi hm => have := h.ri.roots _ hm (by omega) (by simpa using hi); simpa using this
  | step hi _ hm hj ih => have := h.past rfl _ hi hi ih _ hm; simpa using this
open Classical in
theorem marks_reach {n : Nf} {l : List Int} {bs : List Bool} (hl : bs.length = n.st.length) (h : ∀ i, On bs i ↔ Reach n l i) : marks bs bs.length = closed n l := by
  unfold marks closed
  rw [hl]
  congr 1
  refine List.filter_congr fun i hi => ?_
  have := h i
  unfold On at this
  rw [List.getD_eq_getElem?_getD]
  by_cases hr : Reach n l i
  · rw [this.2 hr]; simp [hr]
  · have h2 := mt this.1 hr
    simp only [hr, decide_false]
    cases hb : bs[i]? with
    | none => rfl
    | some b => cases b with
      | false => rfl
      | true => exact absurd hb h2
/-- The roots, one after the other. -/
structure RT (n : Nf) (l : List Int) (bs : List Bool) (j : Nat) : Prop where
  len : bs.length = n.st.length
  sound : ∀ i, On bs i → Reach n l i
  roots : ∀ x ∈ l.take j, 0 ≤ x → x.toNat < n.st.length → On bs x.toNat
theorem RT.begin (n : Nf) (l : List Int) : RT n l (List.replicate n.st.length false) 0 := by
  have no : ∀ i, ¬ On (List.replicate n.st.length false) i := by
    intro i h
    unfold On at h
    rw [List.getElem?_replicate] at h
    split at h <;> cases h
  exact ⟨by simp, fun i hi => absurd hi (no i), fun x hx => by simp at hx⟩
theorem RT.yes {n : Nf} {l : List Int} {bs : List Bool} {j : Nat} (h : RT n l bs j) (hj : j < l.length) (h0 : 0 ≤ l[j]) (h1 : l[j].toNat < bs.length) : RT n l (bs.set l[j].toNat true) (j + 1) := by
  refine ⟨by rw [List.length_set]; exact h.len, fun i hi => ?_, fun x hx hx0 hx1 => ?_⟩
  · rcases (on_set h1).1 hi with rfl | hi
    · exact .base (by rw [← h.len]; exact h1) (by rw [Int.toNat_of_nonneg h0]; exact List.getElem_mem hj)
    · exact h.sound i hi
  · rw [List.take_add_one, List.getElem?_eq_getElem hj] at hx
    rcases List.mem_append.1 hx with hx | hx
    · exact (on_set h1).2 (.inr (h.roots x hx hx0 hx1))
    · simp only [Option.toList_some, List.mem_singleton] at hx
      subst hx
      exact (on_set h1).2 (.inl rfl)
theorem RT.no {n : Nf} {l : List Int} {bs : List Bool} {j : Nat} (h : RT n l bs j) (hj : j < l.length) (hn : ¬ 0 ≤ l[j] ∨ ¬ l[j] < bs.length) : RT n l bs (j + 1) := by
  refine ⟨h.len, h.sound, fun x hx hx0 hx1 => ?_⟩
  rw [List.take_add_one, List.getElem?_eq_getElem hj] at hx
  rcases List.mem_append.1 hx with hx | hx
  · exact h.roots x hx hx0 hx1
  · simp only [Option.toList_some, List.mem_singleton] at hx
    subst hx
    have := h.len
    omega
theorem RT.fin {n : Nf} {l : List Int} {bs : List Bool} {j : Nat} (h : RT n l bs j) (hj : j = l.length) : RI n l bs := ⟨h.len, h.sound, fun x hx => h.roots x (by subst hj; rw [List.take_length]; exact hx)⟩
end Go.Proofs.YtfdgbghlanbddaaDoor.Av
namespace Go.Proofs.YtfdgbghlanbddaaDoor.Av
theorem may_free {n : Nf} (h : mayN n = true) {i k : Nat} (hi : i < n.st.length) (hk : k < (n.st[i]).free.length) : 0 ≤ (n.st[i]).free[k] ∧ (n.st[i]).free[k] < n.st.length := by
  unfold mayN at h
  simp only [Bool.and_eq_true, List.all_eq_true] at h
  have h2 := h.2 _ (List.getElem_mem hi)
  unfold okS at h2
  simp only [Bool.and_eq_true, List.all_eq_true] at h2
  have h3 := h2.2 _ (List.getElem_mem hk)
  unfold inN at h3
  simpa only [Bool.and_eq_true, decide_eq_true_eq] using h3
end Go.Proofs.YtfdgbghlanbddaaDoor.Av
set_option linter.unusedVariables false
set_option linter.unusedSimpArgs false
set_option maxRecDepth 8000
namespace Go.Proofs.YtfdgbghlanbddaaDoor.Av
open Go.RowKit Go.Proofs
theorem refClose {w0 : World} {es : List Ent} (n : Nf) (l : List Int) : ACalls Tryd.prog w0 43 [n.av, ints l] es fun v es' => v = ints (closeN n l) ∧ es' = es := by
  unfold Nf.av ints
  refine calls2 (N := 90) Tryd.func43 rfl rfl (by decide) ?_
  refine w_seq ?_
  refine w_region ?_
  refine l_cons rfl (p_box fun s2 => ?_)
  refine l_cons rfl (p_assign ?_)
  refine l_nil ?_
  refine k_seq_normal ?_
  refine w_seq ?_
  refine w_seq ?_
  refine w_len 1 fun hl => ?_
  rw [List.length_map] at hl
  simp only [most] at hl
  refine w_region ?_
  refine l_cons rfl (p_loadp ty_36 ?_)
  refine l_cons rfl (p_callr en_42 (refMay n) ?_)
  refine l_cons rfl (p_not ?_)
  refine l_nil ?_
  refine k_seq_normal ?_
  refine w_b (fun h1 => ?_) (fun h1 => ?_)
  · skip
    have h1' := h1; (try simp only [decide_eq_true_eq, decide_eq_false_iff_not, Bool.not_eq_true', Bool.not_false, Bool.not_true, Bool.not_eq_false'] at h1')
    refine w_seq ?_
    refine w_region ?_
    refine l_cons rfl (p_assign ?_)
    refine l_nil ?_
    refine k_seq_normal ?_
    refine w_nilList 4 1 ?_
    refine w_ret ?_
    refine k_seq_ret ?_
    exact ret1 rfl (by simp only [ev_tmp, ev_const, ev_func, ofConst_int, ofConst_bool, ofConst_str, ofConst_nil, upd_apply, Nat.reduceEqDiff, ↓reduceIte] <;> exact rfl) (by first | exact Sub.refl _ | exact sub1 _ _ | exact sub2 _ _ _ | exact sub3 _ _ _ _ | exact sub4 _ _ _ _ _ | exact sub5 _ _ _ _ _ _) ⟨by unfold closeN; rw [h1']; rfl, rfl⟩
  · skip
    have h1' := h1; (try simp only [decide_eq_true_eq, decide_eq_false_iff_not, Bool.not_eq_true', Bool.not_false, Bool.not_true, Bool.not_eq_false'] at h1')
    refine w_skip ?_
    refine k_seq_normal ?_
    refine w_seq ?_
    have hst := may_le h1'
    refine w_region ?_
    refine l_cons rfl (p_fap fa_36_0 ?_)
    refine l_cons rfl (p_loadp ty_34 ?_)
    first | refine l_cons rfl (p_lenl sl_34 ?_) | refine l_cons rfl (p_leno sl_34 ?_) | refine l_cons rfl (p_lenn sl_34 ?_)
    refine l_cons rfl (p_makeSlice sl_60 by_4 ze_4  fun s17 => ?_)
    refine l_cons rfl (p_assign ?_)
    refine l_nil ?_
    refine k_seq_normal ?_
    refine w_seq ?_
    refine w_seq ?_
    refine w_region ?_
    refine l_cons rfl (p_assign ?_)
    refine l_nil ?_
    refine k_seq_normal ?_
    refine w_block ?_
    refine w_loop (fun m f es' => ∃ j bs, m = l.length - j ∧ j ≤ l.length ∧ RT n l bs j ∧ es' = .row s17 4 1 (bs.map fun b => [.bool b]) :: .row s2 36 3 [n.cells] :: es ∧ Knows f [(2, .ptr es.length s2 0 0), (5, .own (es.length + 1) s17), (1, .list 1 (l.map fun n => [.int .i64 n])), (6, .int .i64 j)]) (l.length) (⟨0, _, rfl, Nat.zero_le _, RT.begin n l, by simp [List.map_replicate, Nf.cells], by simp only [Knows, put, upd_apply, Nat.reduceEqDiff, ↓reduceIte, and_true, true_and, eq_self] <;> and_intros <;> rfl⟩) ?_
    rintro m f es' ⟨j, bs, rfl, hj1, hrt, rfl, hk⟩
    have hbl := hrt.len
    refine w_pins _ (Sub.refl _) (hk) ?_
    simp only [pins]
    refine w_seq ?_
    refine w_seq ?_
    refine w_region ?_
    refine l_cons rfl (p_move ?_)
    refine l_cons rfl (p_move ?_)
    refine l_cons rfl (p_lenl sl_48 ?_)
    refine l_cons rfl (p_cmp ?_)
    refine l_nil ?_
    refine k_seq_normal ?_
    refine w_b (fun h2 => ?_) (fun h2 => ?_)
    · skip
      have h2' := h2; (try simp only [decide_eq_true_eq, decide_eq_false_iff_not, Bool.not_eq_true', Bool.not_false, Bool.not_true, Bool.not_eq_false'] at h2')
      refine w_skip ?_
      refine k_seq_normal ?_
      refine w_seq ?_
      refine w_block ?_
      refine w_seq ?_
      refine w_region ?_
      refine l_cons rfl (p_move ?_)
      refine l_cons rfl (p_move ?_)
      refine l_cons rfl (p_ixl sl_48 ?_)
      refine l_cons rfl (p_loadf ty_3 ?_)
      refine l_cons rfl (p_cmp ?_)
      refine l_cons rfl (p_move ?_)
      refine g_b rfl (fun h3 => ?_) (fun h3 => ?_)
      · skip
        have h3' := h3; (try simp only [decide_eq_true_eq, decide_eq_false_iff_not, Bool.not_eq_true', Bool.not_false, Bool.not_true, Bool.not_eq_false'] at h3')
        refine (p_move ?_)
        refine g_y rfl h3 (p_move ?_)
        refine g_y rfl h3 (p_ixl sl_48 ?_)
        refine g_y rfl h3 (p_loadf ty_3 ?_)
        refine g_y rfl h3 (p_move ?_)
        refine g_y rfl h3 (p_leno sl_60 ?_)
        refine g_y rfl h3 (p_cmp ?_)
        refine l_cons rfl (p_pickt h3 ?_)
        refine l_nil ?_
        refine k_seq_normal ?_
        refine w_b (fun h4 => ?_) (fun h4 => ?_)
        · skip
          have h4' := h4; (try simp only [decide_eq_true_eq, decide_eq_false_iff_not, Bool.not_eq_true', Bool.not_false, Bool.not_true, Bool.not_eq_false'] at h4')
          refine w_region ?_
          refine l_cons rfl (p_move ?_)
          refine l_cons rfl (p_move ?_)
          refine l_cons rfl (p_move ?_)
          refine l_cons rfl (p_ixl sl_48 ?_)
          refine l_cons rfl (p_loadf ty_3 ?_)
          refine l_cons rfl (p_ixo sl_60 ?_)
          refine l_cons rfl (p_store ty_4 ?_)
          refine l_nil ?_
          refine k_blk_normal ?_
          refine k_seq_normal ?_
          refine w_region ?_
          refine l_cons rfl (p_move ?_)
          refine l_cons rfl (p_arith ?_)
          refine l_cons rfl (p_assign ?_)
          refine l_nil ?_
          refine k_seq_normal ?_
          first
          | exact ⟨l.length - (j + 1), by omega, j + 1, _, rfl, by omega, hrt.yes (by omega) (by omega) (by omega), by rw [List.map_set], by simp only [Knows, put, upd_apply, Nat.reduceEqDiff, ↓reduceIte, and_true, true_and, eq_self] <;> and_intros <;> rfl⟩
          | exact ⟨l.length - (j + 1), by omega, j + 1, bs, rfl, by omega, hrt.no (by omega) (by omega), rfl, by simp only [Knows, put, upd_apply, Nat.reduceEqDiff, ↓reduceIte, and_true, true_and, eq_self] <;> and_intros <;> rfl⟩
        · skip
          have h4' := h4; (try simp only [decide_eq_true_eq, decide_eq_false_iff_not, Bool.not_eq_true', Bool.not_false, Bool.not_true, Bool.not_eq_false'] at h4')
          refine w_skip ?_
          refine k_blk_normal ?_
          refine k_seq_normal ?_
          refine w_region ?_
          refine l_cons rfl (p_move ?_)
          refine l_cons rfl (p_arith ?_)
          refine l_cons rfl (p_assign ?_)
          refine l_nil ?_
          refine k_seq_normal ?_
          first
          | exact ⟨l.length - (j + 1), by omega, j + 1, _, rfl, by omega, hrt.yes (by omega) (by omega) (by omega), by rw [List.map_set], by simp only [Knows, put, upd_apply, Nat.reduceEqDiff, ↓reduceIte, and_true, true_and, eq_self] <;> and_intros <;> rfl⟩
          | exact ⟨l.length - (j + 1), by omega, j + 1, bs, rfl, by omega, hrt.no (by omega) (by omega), rfl, by simp only [Knows, put, upd_apply, Nat.reduceEqDiff, ↓reduceIte, and_true, true_and, eq_self] <;> and_intros <;> rfl⟩
      · skip
        have h3' := h3; (try simp only [decide_eq_true_eq, decide_eq_false_iff_not, Bool.not_eq_true', Bool.not_false, Bool.not_true, Bool.not_eq_false'] at h3')
        refine g_n rfl h3 ?_
        refine g_n rfl h3 ?_
        refine g_n rfl h3 ?_
        refine g_n rfl h3 ?_
        refine g_n rfl h3 ?_
        refine g_n rfl h3 ?_
        refine l_cons rfl (p_pickf h3 ?_)
        refine l_nil ?_
        refine k_seq_normal ?_
        refine w_f rfl ?_
        refine w_skip ?_
        refine k_blk_normal ?_
        refine k_seq_normal ?_
        refine w_region ?_
        refine l_cons rfl (p_move ?_)
        refine l_cons rfl (p_arith ?_)
        refine l_cons rfl (p_assign ?_)
        refine l_nil ?_
        refine k_seq_normal ?_
        first
        | exact ⟨l.length - (j + 1), by omega, j + 1, _, rfl, by omega, hrt.yes (by omega) (by omega) (by omega), by rw [List.map_set], by simp only [Knows, put, upd_apply, Nat.reduceEqDiff, ↓reduceIte, and_true, true_and, eq_self] <;> and_intros <;> rfl⟩
        | exact ⟨l.length - (j + 1), by omega, j + 1, bs, rfl, by omega, hrt.no (by omega) (by omega), rfl, by simp only [Knows, put, upd_apply, Nat.reduceEqDiff, ↓reduceIte, and_true, true_and, eq_self] <;> and_intros <;> rfl⟩
    · skip
      have h2' := h2; (try simp only [decide_eq_true_eq, decide_eq_false_iff_not, Bool.not_eq_true', Bool.not_false, Bool.not_true, Bool.not_eq_false'] at h2')
      refine w_exit ?_
      refine k_seq_exit ?_
      refine k_seq_exit ?_
      refine k_blk_here ?_
      refine k_seq_normal ?_
      refine w_seq ?_
      refine w_seq ?_
      refine w_region ?_
      refine l_cons rfl (p_assign ?_)
      refine l_nil ?_
      refine k_seq_normal ?_
      refine w_block ?_
      refine w_loop (fun m f es' => ∃ bs again, m = bs.count false + (if again = true then 1 else 0) ∧ RI n l bs ∧ (again = false → ∀ i, On bs i ↔ Reach n l i) ∧ es' = .row s17 4 1 (bs.map fun b => [.bool b]) :: .row s2 36 3 [n.cells] :: es ∧ Knows f [(2, .ptr es.length s2 0 0), (5, .own (es.length + 1) s17), (7, .bool again)]) (_) (⟨bs, true, rfl, hrt.fin (by omega), fun e => (by cases e), rfl, by simp only [Knows, put, upd_apply, Nat.reduceEqDiff, ↓reduceIte, and_true, true_and, eq_self] <;> and_intros <;> rfl⟩) ?_
      rintro m f es' ⟨bs, again, rfl, hri, hfin, rfl, hk⟩
      have hbl := hri.len
      refine w_pins _ (Sub.refl _) (hk) ?_
      simp only [pins]
      refine w_seq ?_
      refine w_seq ?_
      refine w_region ?_
      refine l_cons rfl (p_move ?_)
      refine l_nil ?_
      refine k_seq_normal ?_
      refine w_b (fun h5 => ?_) (fun h5 => ?_)
      · skip
        have h5' := h5; (try simp only [decide_eq_true_eq, decide_eq_false_iff_not, Bool.not_eq_true', Bool.not_false, Bool.not_true, Bool.not_eq_false'] at h5')
        refine w_skip ?_
        refine k_seq_normal ?_
        refine w_block ?_
        refine w_seq ?_
        refine w_region ?_
        refine l_cons rfl (p_assign ?_)
        refine l_nil ?_
        refine k_seq_normal ?_
        refine w_seq ?_
        refine w_region ?_
        refine l_cons rfl (p_assign ?_)
        refine l_nil ?_
        refine k_seq_normal ?_
        refine w_block ?_
        refine w_loop (fun m f es' => ∃ i bs' again', m = n.st.length - i ∧ i ≤ n.st.length ∧ SW n l bs again' bs' i 0 ∧ es' = .row s17 4 1 (bs'.map fun b => [.bool b]) :: .row s2 36 3 [n.cells] :: es ∧ Knows f [(2, .ptr es.length s2 0 0), (5, .own (es.length + 1) s17), (7, .bool again'), (8, .int .i64 i)]) (n.st.length) (⟨0, bs, false, rfl, Nat.zero_le _, SW.begin hri, rfl, by simp only [Knows, put, upd_apply, Nat.reduceEqDiff, ↓reduceIte, and_true, true_and, eq_self] <;> and_intros <;> rfl⟩) ?_
        rintro m f es' ⟨i, bs', again', rfl, hi1, hsw, rfl, hk⟩
        have hbl' := hsw.ri.len
        refine w_pins _ (Sub.refl _) (hk) ?_
        simp only [pins]
        refine w_seq ?_
        refine w_seq ?_
        refine w_region ?_
        refine l_cons rfl (p_move ?_)
        refine l_cons rfl (p_move ?_)
        refine l_cons rfl (p_leno sl_60 ?_)
        refine l_cons rfl (p_cmp ?_)
        refine l_nil ?_
        refine k_seq_normal ?_
        refine w_b (fun h6 => ?_) (fun h6 => ?_)
        · skip
          have h6' := h6; (try simp only [decide_eq_true_eq, decide_eq_false_iff_not, Bool.not_eq_true', Bool.not_false, Bool.not_true, Bool.not_eq_false'] at h6')
          refine w_skip ?_
          refine k_seq_normal ?_
          refine w_seq ?_
          refine w_block ?_
          refine w_seq ?_
          refine w_region ?_
          refine l_cons rfl (p_assign ?_)
          refine l_nil ?_
          refine k_seq_normal ?_
          refine w_block ?_
          refine w_loop (fun m f es' => ∃ k bs2 again2, m = ((n.st[i]'(by omega)).free).length - k ∧ k ≤ ((n.st[i]'(by omega)).free).length ∧ SW n l bs again2 bs2 i k ∧ es' = .row s17 4 1 (bs2.map fun b => [.bool b]) :: .row s2 36 3 [n.cells] :: es ∧ Knows f [(2, .ptr es.length s2 0 0), (5, .own (es.length + 1) s17), (7, .bool again2), (8, .int .i64 i), (9, .int .i64 k)]) (((n.st[i]'(by omega)).free).length) (⟨0, bs', again', rfl, Nat.zero_le _, hsw, rfl, by simp only [Knows, put, upd_apply, Nat.reduceEqDiff, ↓reduceIte, and_true, true_and, eq_self] <;> and_intros <;> rfl⟩) ?_
          rintro m f es' ⟨k, bs2, again2, rfl, hk1, hsw, rfl, hk⟩
          have hbl2 := hsw.ri.len
          refine w_pins _ (Sub.refl _) (hk) ?_
          simp only [pins]
          refine w_seq ?_
          refine w_seq ?_
          refine w_region ?_
          refine l_cons rfl (p_move ?_)
          refine l_cons rfl (p_fap fa_36_0 ?_)
          refine l_cons rfl (p_loadp ty_34 ?_)
          refine l_cons rfl (p_move ?_)
          first | refine l_cons rfl (p_ixl sl_34 ?_) | refine l_cons rfl (p_ixo sl_34 ?_)
          first | refine l_cons rfl (p_fap fa_75_2 ?_) | refine l_cons rfl (p_faf fa_75_2 ?_)
          first | refine l_cons rfl (p_loadf ty_48 ?_) | refine l_cons rfl (p_loadp ty_48 ?_)
          refine l_len 57 fun hfl => ?_
          simp only [List.length_map, most] at hfl
          first | refine l_cons rfl (p_lenl sl_48 ?_) | refine l_cons rfl (p_leno sl_48 ?_) | refine l_cons rfl (p_lenn sl_48 ?_)
          refine l_cons rfl (p_cmp ?_)
          refine l_cons rfl (p_move ?_)
          refine g_b rfl (fun h7 => ?_) (fun h7 => ?_)
          · skip
            have h7' := h7; (try simp only [decide_eq_true_eq, decide_eq_false_iff_not, Bool.not_eq_true', Bool.not_false, Bool.not_true, Bool.not_eq_false'] at h7')
            refine (p_move ?_)
            refine g_y rfl h7 (p_move ?_)
            refine g_y rfl h7 (p_ixo sl_60 ?_)
            refine g_y rfl h7 (p_loadp ty_4 ?_)
            refine l_cons rfl (p_pickt h7 ?_)
            refine l_nil ?_
            refine k_seq_normal ?_
            refine w_b (fun h8 => ?_) (fun h8 => ?_)
            · skip
              have h8' := h8; (try simp only [decide_eq_true_eq, decide_eq_false_iff_not, Bool.not_eq_true', Bool.not_false, Bool.not_true, Bool.not_eq_false'] at h8')
              refine w_skip ?_
              refine k_seq_normal ?_
              refine w_seq ?_
              refine w_block ?_
              refine w_seq ?_
              refine w_region ?_
              refine l_cons rfl (p_fap fa_36_0 ?_)
              refine l_cons rfl (p_loadp ty_34 ?_)
              refine l_cons rfl (p_move ?_)
              first | refine l_cons rfl (p_ixl sl_34 ?_) | refine l_cons rfl (p_ixo sl_34 ?_)
              first | refine l_cons rfl (p_fap fa_75_2 ?_) | refine l_cons rfl (p_faf fa_75_2 ?_)
              first | refine l_cons rfl (p_loadf ty_48 ?_) | refine l_cons rfl (p_loadp ty_48 ?_)
              refine l_cons rfl (p_move ?_)
              first | refine l_cons rfl (p_ixl sl_48 ?_) | refine l_cons rfl (p_ixo sl_48 ?_)
              first | refine l_cons rfl (p_loadf ty_3 ?_) | refine l_cons rfl (p_loadp ty_3 ?_)
              refine l_cons rfl (p_assign ?_)
              refine l_nil ?_
              refine k_seq_normal ?_
              refine w_seq ?_
              have hto := may_free h1' (i := i) (k := k) (by omega) (by omega)
              refine w_region ?_
              refine l_cons rfl (p_move ?_)
              refine l_cons rfl (p_move ?_)
              refine g_b rfl (fun h9 => ?_) (fun h9 => ?_)
              · skip
                have h9' := h9; (try simp only [decide_eq_true_eq, decide_eq_false_iff_not, Bool.not_eq_true', Bool.not_false, Bool.not_true, Bool.not_eq_false'] at h9')
                refine (p_move ?_)
                refine g_y rfl h9 (p_move ?_)
                refine g_y rfl h9 (p_ixo sl_60 ?_)
                refine g_y rfl h9 (p_loadp ty_4 ?_)
                refine g_y rfl h9 (p_not ?_)
                refine l_cons rfl (p_pickf h9 ?_)
                refine l_cons rfl (p_assign ?_)
                refine l_nil ?_
                refine k_seq_normal ?_
                refine w_region ?_
                refine l_cons rfl (p_move ?_)
                refine l_cons rfl (p_move ?_)
                refine l_cons rfl (p_ixo sl_60 ?_)
                refine l_cons rfl (p_store ty_4 ?_)
                refine l_nil ?_
                refine k_blk_normal ?_
                refine k_seq_normal ?_
                refine w_region ?_
                refine l_cons rfl (p_move ?_)
                refine l_cons rfl (p_arith ?_)
                refine l_cons rfl (p_assign ?_)
                refine l_nil ?_
                refine k_seq_normal ?_
                have hon : On bs2 i := by
                  unfold On
                  rw [List.getElem?_eq_getElem (by omega)]
                  simp_all
                refine ⟨((n.st[i]'(by omega)).free).length - (k + 1), by omega, k + 1, _, _, rfl, by omega, hsw.mark (by omega) (by omega) hon hto.1 (by omega), by rw [List.map_set], ?_⟩
                simp only [Knows, put, upd_apply, Nat.reduceEqDiff, ↓reduceIte, and_true, true_and, eq_self]
                first | exact ⟨by simp [*], rfl⟩ | simp [*]
              · skip
                have h9' := h9; (try simp only [decide_eq_true_eq, decide_eq_false_iff_not, Bool.not_eq_true', Bool.not_false, Bool.not_true, Bool.not_eq_false'] at h9')
                refine g_n rfl h9 ?_
                refine g_n rfl h9 ?_
                refine g_n rfl h9 ?_
                refine g_n rfl h9 ?_
                refine l_cons rfl (p_pickt h9 ?_)
                refine l_cons rfl (p_assign ?_)
                refine l_nil ?_
                refine k_seq_normal ?_
                refine w_region ?_
                refine l_cons rfl (p_move ?_)
                refine l_cons rfl (p_move ?_)
                refine l_cons rfl (p_ixo sl_60 ?_)
                refine l_cons rfl (p_store ty_4 ?_)
                refine l_nil ?_
                refine k_blk_normal ?_
                refine k_seq_normal ?_
                refine w_region ?_
                refine l_cons rfl (p_move ?_)
                refine l_cons rfl (p_arith ?_)
                refine l_cons rfl (p_assign ?_)
                refine l_nil ?_
                refine k_seq_normal ?_
                have hon : On bs2 i := by
                  unfold On
                  rw [List.getElem?_eq_getElem (by omega)]
                  simp_all
                refine ⟨((n.st[i]'(by omega)).free).length - (k + 1), by omega, k + 1, _, _, rfl, by omega, hsw.mark (by omega) (by omega) hon hto.1 (by omega), by rw [List.map_set], ?_⟩
                simp only [Knows, put, upd_apply, Nat.reduceEqDiff, ↓reduceIte, and_true, true_and, eq_self]
                first | exact ⟨by simp [*], rfl⟩ | simp [*]
            · skip
              have h8' := h8; (try simp only [decide_eq_true_eq, decide_eq_false_iff_not, Bool.not_eq_true', Bool.not_false, Bool.not_true, Bool.not_eq_false'] at h8')
              refine w_exit ?_
              refine k_seq_exit ?_
              refine k_seq_exit ?_
              refine k_blk_here ?_
              refine k_blk_normal ?_
              refine k_seq_normal ?_
              refine w_region ?_
              refine l_cons rfl (p_move ?_)
              refine l_cons rfl (p_arith ?_)
              refine l_cons rfl (p_assign ?_)
              refine l_nil ?_
              refine k_seq_normal ?_
              exact ⟨n.st.length - (i + 1), by omega, i + 1, bs2, again2, rfl, by omega, hsw.next (by omega) (by first | exact .inl (by omega) | exact .inr (fun ho => by unfold On at ho; simp_all)), rfl, by simp only [Knows, put, upd_apply, Nat.reduceEqDiff, ↓reduceIte, and_true, true_and, eq_self] <;> and_intros <;> rfl⟩
          · skip
            have h7' := h7; (try simp only [decide_eq_true_eq, decide_eq_false_iff_not, Bool.not_eq_true', Bool.not_false, Bool.not_true, Bool.not_eq_false'] at h7')
            refine g_n rfl h7 ?_
            refine g_n rfl h7 ?_
            refine g_n rfl h7 ?_
            refine l_cons rfl (p_pickf h7 ?_)
            refine l_nil ?_
            refine k_seq_normal ?_
            refine w_f rfl ?_
            refine w_exit ?_
            refine k_seq_exit ?_
            refine k_seq_exit ?_
            refine k_blk_here ?_
            refine k_blk_normal ?_
            refine k_seq_normal ?_
            refine w_region ?_
            refine l_cons rfl (p_move ?_)
            refine l_cons rfl (p_arith ?_)
            refine l_cons rfl (p_assign ?_)
            refine l_nil ?_
            refine k_seq_normal ?_
            exact ⟨n.st.length - (i + 1), by omega, i + 1, bs2, again2, rfl, by omega, hsw.next (by omega) (by first | exact .inl (by omega) | exact .inr (fun ho => by unfold On at ho; simp_all)), rfl, by simp only [Knows, put, upd_apply, Nat.reduceEqDiff, ↓reduceIte, and_true, true_and, eq_self] <;> and_intros <;> rfl⟩
        · skip
          have h6' := h6; (try simp only [decide_eq_true_eq, decide_eq_false_iff_not, Bool.not_eq_true', Bool.not_false, Bool.not_true, Bool.not_eq_false'] at h6')
          refine w_exit ?_
          refine k_seq_exit ?_
          refine k_seq_exit ?_
          refine k_blk_here ?_
          refine k_blk_normal ?_
          refine k_seq_normal ?_
          have hin : i = n.st.length := by omega
          subst hin
          refine ⟨_, ?_, bs', again', rfl, hsw.ri, fun e => (by subst e; exact hsw.fin), rfl, by simp only [Knows, put, upd_apply, Nat.reduceEqDiff, ↓reduceIte, and_true, true_and, eq_self] <;> and_intros <;> rfl⟩
          have hle := hsw.le
          have hls := hsw.less
          cases again' <;> simp_all <;> omega
      · skip
        have h5' := h5; (try simp only [decide_eq_true_eq, decide_eq_false_iff_not, Bool.not_eq_true', Bool.not_false, Bool.not_true, Bool.not_eq_false'] at h5')
        refine w_exit ?_
        refine k_seq_exit ?_
        refine k_seq_exit ?_
        refine k_blk_here ?_
        refine k_seq_normal ?_
        refine w_seq ?_
        refine w_region ?_
        refine l_cons rfl (p_move ?_)
        refine l_cons rfl (p_callr en_88 (marked_walk (at_hit _ _) (by have := hri.len; omega)) ?_)
        refine l_cons rfl (p_assign ?_)
        refine l_nil ?_
        refine k_seq_normal ?_
        refine w_ret ?_
        exact ret1 rfl (by simp only [ev_tmp, ev_const, ev_func, ofConst_int, ofConst_bool, ofConst_str, ofConst_nil, upd_apply, Nat.reduceEqDiff, ↓reduceIte] <;> exact rfl) (by first | exact Sub.refl _ | exact sub1 _ _ | exact sub2 _ _ _ | exact sub3 _ _ _ _ | exact sub4 _ _ _ _ _ | exact sub5 _ _ _ _ _ _) ⟨by rw [marks_reach hri.len (hfin (by assumption))]; unfold closeN; rw [h1']; rfl, rfl⟩
end Go.Proofs.YtfdgbghlanbddaaDoor.Av
set_option linter.unusedVariables false
set_option linter.unusedSimpArgs false
set_option maxRecDepth 8000
namespace Go.Proofs.YtfdgbghlanbddaaDoor.Av
open Go.RowKit Go.Proofs
theorem refStep {w0 : World} {es : List Ent} (n : Nf) (hok : ∀ s ∈ n.st, 0 ≤ s.w0 ∧ 0 ≤ s.w1 ∧ 0 ≤ s.w2 ∧ 0 ≤ s.w3) (l : List Int) (b : Int) (hl : l.length ≤ 1099511627776) (hb0 : 0 ≤ b) (hb1 : b < 256) : ACalls Tryd.prog w0 45 [n.av, ints l, .int .u8 b] es fun v es' => v = ints (stepN n l b) ∧ es' = es := by
  unfold Nf.av ints
  refine calls3 (N := 73) Tryd.func45 rfl rfl (by decide) ?_
  refine w_seq ?_
  refine w_region ?_
  refine l_cons rfl (p_box fun s3 => ?_)
  refine l_cons rfl (p_assign ?_)
  refine l_nil ?_
  refine k_seq_normal ?_
  refine w_seq ?_
  refine w_seq ?_
  refine w_region ?_
  refine l_cons rfl (p_loadp ty_36 ?_)
  refine l_cons rfl (p_callr en_42 (refMay n) ?_)
  refine l_cons rfl (p_not ?_)
  refine l_nil ?_
  refine k_seq_normal ?_
  refine w_b (fun h1 => ?_) (fun h1 => ?_)
  · skip
    have h1' := h1; (try simp only [decide_eq_true_eq, decide_eq_false_iff_not, Bool.not_eq_true', Bool.not_false, Bool.not_true, Bool.not_eq_false'] at h1')
    refine w_seq ?_
    refine w_region ?_
    refine l_cons rfl (p_assign ?_)
    refine l_nil ?_
    refine k_seq_normal ?_
    refine w_nilList 6 1 ?_
    refine w_ret ?_
    refine k_seq_ret ?_
    exact ret1 rfl (by simp only [ev_tmp, ev_const, ev_func, ofConst_int, ofConst_bool, ofConst_str, ofConst_nil, upd_apply, Nat.reduceEqDiff, ↓reduceIte] <;> exact rfl) (by first | exact Sub.refl _ | exact sub1 _ _ | exact sub2 _ _ _ | exact sub3 _ _ _ _ | exact sub4 _ _ _ _ _ | exact sub5 _ _ _ _ _ _) ⟨by unfold stepN; rw [h1']; rfl, rfl⟩
  · skip
    have h1' := h1; (try simp only [decide_eq_true_eq, decide_eq_false_iff_not, Bool.not_eq_true', Bool.not_false, Bool.not_true, Bool.not_eq_false'] at h1')
    refine w_skip ?_
    refine k_seq_normal ?_
    refine w_seq ?_
    refine w_region ?_
    refine l_cons rfl (p_assign ?_)
    refine l_nil ?_
    refine k_seq_normal ?_
    refine w_seq ?_
    refine w_seq ?_
    refine w_adopt 7 3 1 rfl fun s7 => ?_
    simp only [upd_upd]
    refine w_region ?_
    refine l_cons rfl (p_assign ?_)
    refine l_nil ?_
    refine k_seq_normal ?_
    refine w_block ?_
    refine w_loop (fun m f es' => ∃ k s7, m = l.length - k ∧ k ≤ l.length ∧ es' = .row s7 3 1 ((stepTo n (l.take k) b).map fun n => [.int .i64 n]) :: .row s3 36 3 [n.cells] :: es ∧ Knows f [(1, .list 1 (l.map fun n => [.int .i64 n])), (2, .int .u8 b), (3, .ptr es.length s3 0 0), (7, .own (es.length + 1) s7), (8, .int .i64 k)]) (l.length) (⟨0, s7, rfl, Nat.zero_le _, rfl, by simp only [Knows, put, upd_apply, Nat.reduceEqDiff, ↓reduceIte, and_true, true_and, eq_self] <;> and_intros <;> rfl⟩) ?_
    rintro m f es' ⟨k, s7, rfl, hk1, rfl, hk⟩
    have hle := stepTo_le n (l.take k) b
    rw [List.length_take] at hle
    refine w_pins _ (Sub.refl _) (hk) ?_
    simp only [pins]
    refine w_seq ?_
    refine w_seq ?_
    refine w_region ?_
    refine l_cons rfl (p_move ?_)
    refine l_cons rfl (p_move ?_)
    refine l_cons rfl (p_lenl sl_48 ?_)
    refine l_cons rfl (p_cmp ?_)
    refine l_nil ?_
    refine k_seq_normal ?_
    refine w_b (fun h2 => ?_) (fun h2 => ?_)
    · skip
      have h2' := h2; (try simp only [decide_eq_true_eq, decide_eq_false_iff_not, Bool.not_eq_true', Bool.not_false, Bool.not_true, Bool.not_eq_false'] at h2')
      refine w_skip ?_
      refine k_seq_normal ?_
      refine w_seq ?_
      refine w_block ?_
      refine w_seq ?_
      refine w_drawn 38 [] (fun e => e = _) mixed (by kernel_rfl) rfl ?_
      refine q1 1 (hg := rfl) (hu := rfl) (h := by rintro f _ rfl; exact p_move ⟨rfl, rfl⟩) (k := ?_)
      refine q1 8 (hg := rfl) (hu := rfl) (h := by rintro f _ rfl; exact p_move ⟨rfl, rfl⟩) (k := ?_)
      refine q2 18 19 (hg := rfl) (hu := rfl) (h := by rintro f _ rfl; exact p_ixl sl_48 ⟨rfl, rfl⟩) (k := ?_)
      refine q1 20 (hg := rfl) (hu := rfl) (h := by rintro f _ rfl; exact p_loadf ty_3 ⟨rfl, rfl⟩) (k := ?_)
      refine q1 21 (hg := rfl) (hu := rfl) (h := by rintro f _ rfl; exact p_cmp ⟨rfl, rfl⟩) (k := ?_)
      refine q1 22 (hg := rfl) (hu := rfl) (h := by rintro f _ rfl; exact p_move ⟨rfl, rfl⟩) (k := ?_)
      refine qsplit 23 (fun h3 => ?_) (fun h3 => ?_)
      · skip
        have h3' := h3; (try simp only [decide_eq_true_eq, decide_eq_false_iff_not, Bool.not_eq_true', Bool.not_false, Bool.not_true, Bool.not_eq_false'] at h3')
        refine qy1 1 (hg := rfl) (hw := h3) (hu := rfl) (h := by rintro f _ rfl; exact p_move ⟨rfl, rfl⟩) (k := ?_)
        refine qy1 8 (hg := rfl) (hw := h3) (hu := rfl) (h := by rintro f _ rfl; exact p_move ⟨rfl, rfl⟩) (k := ?_)
        refine qy2 24 25 (hg := rfl) (hw := h3) (hu := rfl) (h := by rintro f _ rfl; exact p_ixl sl_48 ⟨rfl, rfl⟩) (k := ?_)
        refine qy1 26 (hg := rfl) (hw := h3) (hu := rfl) (h := by rintro f _ rfl; exact p_loadf ty_3 ⟨rfl, rfl⟩) (k := ?_)
        refine qy1 3 (hg := rfl) (hw := h3) (hu := rfl) (h := by rintro f _ rfl; exact p_fap fa_36_0 ⟨rfl, rfl⟩) (k := ?_)
        refine qy1 28 (hg := rfl) (hw := h3) (hu := rfl) (h := by rintro f _ rfl; exact p_loadp ty_34 ⟨rfl, rfl⟩) (k := ?_)
        first | refine qy1 29 (hg := rfl) (hw := h3) (hu := rfl) (h := by rintro f _ rfl; exact p_lenl sl_34 ⟨rfl, rfl⟩) (k := ?_) | refine qy1 29 (hg := rfl) (hw := h3) (hu := rfl) (h := by rintro f _ rfl; exact p_leno sl_34 ⟨rfl, rfl⟩) (k := ?_) | refine qy1 29 (hg := rfl) (hw := h3) (hu := rfl) (h := by rintro f _ rfl; exact p_lenn sl_34 ⟨rfl, rfl⟩) (k := ?_)
        refine qy2 27 30 (hg := rfl) (hw := h3) (hu := rfl) (h := by rintro f _ rfl; exact p_cmp ⟨rfl, rfl⟩) (k := ?_)
        refine q2 23 31 (hg := rfl) (hu := rfl) (h := by rintro f _ rfl; exact p_pickt h3 ⟨rfl, rfl⟩) (k := ?_)
        refine q1 32 (hg := rfl) (hu := rfl) (h := by rintro f _ rfl; exact p_move ⟨rfl, rfl⟩) (k := ?_)
        refine qsplit 33 (fun h4 => ?_) (fun h4 => ?_)
        · skip
          have h4' := h4; (try simp only [decide_eq_true_eq, decide_eq_false_iff_not, Bool.not_eq_true', Bool.not_false, Bool.not_true, Bool.not_eq_false'] at h4')
          refine qy1 3 (hg := rfl) (hw := h4) (hu := rfl) (h := by rintro f _ rfl; exact p_fap fa_36_0 ⟨rfl, rfl⟩) (k := ?_)
          refine qy1 34 (hg := rfl) (hw := h4) (hu := rfl) (h := by rintro f _ rfl; exact p_loadp ty_34 ⟨rfl, rfl⟩) (k := ?_)
          refine qy1 1 (hg := rfl) (hw := h4) (hu := rfl) (h := by rintro f _ rfl; exact p_move ⟨rfl, rfl⟩) (k := ?_)
          refine qy1 8 (hg := rfl) (hw := h4) (hu := rfl) (h := by rintro f _ rfl; exact p_move ⟨rfl, rfl⟩) (k := ?_)
          refine qy2 36 37 (hg := rfl) (hw := h4) (hu := rfl) (h := by rintro f _ rfl; exact p_ixl sl_48 ⟨rfl, rfl⟩) (k := ?_)
          refine qy1 38 (hg := rfl) (hw := h4) (hu := rfl) (h := by rintro f _ rfl; exact p_loadf ty_3 ⟨rfl, rfl⟩) (k := ?_)
          first | refine qy2 35 39 (hg := rfl) (hw := h4) (hu := rfl) (h := by rintro f _ rfl; exact p_ixl sl_34 ⟨rfl, rfl⟩) (k := ?_) | refine qy2 35 39 (hg := rfl) (hw := h4) (hu := rfl) (h := by rintro f _ rfl; exact p_ixo sl_34 ⟨rfl, rfl⟩) (k := ?_)
          first | refine qy1 40 (hg := rfl) (hw := h4) (hu := rfl) (h := by rintro f _ rfl; exact p_fap fa_75_1 ⟨rfl, rfl⟩) (k := ?_) | refine qy1 40 (hg := rfl) (hw := h4) (hu := rfl) (h := by rintro f _ rfl; exact p_faf fa_75_1 ⟨rfl, rfl⟩) (k := ?_)
          first | refine qy1 41 (hg := rfl) (hw := h4) (hu := rfl) (h := by rintro f _ rfl; exact p_loadf ty_3 ⟨rfl, rfl⟩) (k := ?_) | refine qy1 41 (hg := rfl) (hw := h4) (hu := rfl) (h := by rintro f _ rfl; exact p_loadp ty_3 ⟨rfl, rfl⟩) (k := ?_)
          refine qy1 42 (hg := rfl) (hw := h4) (hu := rfl) (h := by rintro f _ rfl; exact p_cmp ⟨rfl, rfl⟩) (k := ?_)
          refine q2 33 43 (hg := rfl) (hu := rfl) (h := by rintro f _ rfl; exact p_pickt h4 ⟨rfl, rfl⟩) (k := ?_)
          refine q1 44 (hg := rfl) (hu := rfl) (h := by rintro f _ rfl; exact p_move ⟨rfl, rfl⟩) (k := ?_)
          refine qsplit 45 (fun h5 => ?_) (fun h5 => ?_)
          · skip
            have h5' := h5; (try simp only [decide_eq_true_eq, decide_eq_false_iff_not, Bool.not_eq_true', Bool.not_false, Bool.not_true, Bool.not_eq_false'] at h5')
            refine qy1 3 (hg := rfl) (hw := h5) (hu := rfl) (h := by rintro f _ rfl; exact p_fap fa_36_0 ⟨rfl, rfl⟩) (k := ?_)
            refine qy1 46 (hg := rfl) (hw := h5) (hu := rfl) (h := by rintro f _ rfl; exact p_loadp ty_34 ⟨rfl, rfl⟩) (k := ?_)
            refine qy1 1 (hg := rfl) (hw := h5) (hu := rfl) (h := by rintro f _ rfl; exact p_move ⟨rfl, rfl⟩) (k := ?_)
            refine qy1 8 (hg := rfl) (hw := h5) (hu := rfl) (h := by rintro f _ rfl; exact p_move ⟨rfl, rfl⟩) (k := ?_)
            refine qy2 48 49 (hg := rfl) (hw := h5) (hu := rfl) (h := by rintro f _ rfl; exact p_ixl sl_48 ⟨rfl, rfl⟩) (k := ?_)
            refine qy1 50 (hg := rfl) (hw := h5) (hu := rfl) (h := by rintro f _ rfl; exact p_loadf ty_3 ⟨rfl, rfl⟩) (k := ?_)
            first | refine qy2 47 51 (hg := rfl) (hw := h5) (hu := rfl) (h := by rintro f _ rfl; exact p_ixl sl_34 ⟨rfl, rfl⟩) (k := ?_) | refine qy2 47 51 (hg := rfl) (hw := h5) (hu := rfl) (h := by rintro f _ rfl; exact p_ixo sl_34 ⟨rfl, rfl⟩) (k := ?_)
            first | refine qy1 52 (hg := rfl) (hw := h5) (hu := rfl) (h := by rintro f _ rfl; exact p_fap fa_75_0 ⟨rfl, rfl⟩) (k := ?_) | refine qy1 52 (hg := rfl) (hw := h5) (hu := rfl) (h := by rintro f _ rfl; exact p_faf fa_75_0 ⟨rfl, rfl⟩) (k := ?_)
            first | refine qy1 53 (hg := rfl) (hw := h5) (hu := rfl) (h := by rintro f _ rfl; exact p_loadf ty_26 ⟨rfl, rfl⟩) (k := ?_) | refine qy1 53 (hg := rfl) (hw := h5) (hu := rfl) (h := by rintro f _ rfl; exact p_loadp ty_26 ⟨rfl, rfl⟩) (k := ?_)
            refine qy1 2 (hg := rfl) (hw := h5) (hu := rfl) (h := by rintro f _ rfl; exact p_move ⟨rfl, rfl⟩) (k := ?_)
            refine q_end ?_
            refine m_end ?_
            refine g_y rfl h5 (p_callr en_55 (ref1Has _ _ _ _ _ hb0 hb1 (hok _ (List.getElem_mem _)).1 (hok _ (List.getElem_mem _)).2.1 (hok _ (List.getElem_mem _)).2.2.1 (hok _ (List.getElem_mem _)).2.2.2) ?_)
            refine l_cons rfl (p_pickt h5 ?_)
            refine l_nil ?_
            refine k_seq_normal ?_
            refine w_b (fun h6 => ?_) (fun h6 => ?_)
            · skip
              have h6' := h6; (try simp only [decide_eq_true_eq, decide_eq_false_iff_not, Bool.not_eq_true', Bool.not_false, Bool.not_true, Bool.not_eq_false'] at h6')
              refine w_drawn 11 [] (fun e => e = _) mixed (by kernel_rfl) rfl ?_
              refine q1 7 (hg := rfl) (hu := rfl) (h := by rintro f _ rfl; exact p_move ⟨rfl, rfl⟩) (k := ?_)
              refine q1 3 (hg := rfl) (hu := rfl) (h := by rintro f _ rfl; exact p_fap fa_36_0 ⟨rfl, rfl⟩) (k := ?_)
              refine q1 59 (hg := rfl) (hu := rfl) (h := by rintro f _ rfl; exact p_loadp ty_34 ⟨rfl, rfl⟩) (k := ?_)
              refine q1 1 (hg := rfl) (hu := rfl) (h := by rintro f _ rfl; exact p_move ⟨rfl, rfl⟩) (k := ?_)
              refine q1 8 (hg := rfl) (hu := rfl) (h := by rintro f _ rfl; exact p_move ⟨rfl, rfl⟩) (k := ?_)
              refine q2 61 62 (hg := rfl) (hu := rfl) (h := by rintro f _ rfl; exact p_ixl sl_48 ⟨rfl, rfl⟩) (k := ?_)
              refine q1 63 (hg := rfl) (hu := rfl) (h := by rintro f _ rfl; exact p_loadf ty_3 ⟨rfl, rfl⟩) (k := ?_)
              first | refine q2 60 64 (hg := rfl) (hu := rfl) (h := by rintro f _ rfl; exact p_ixl sl_34 ⟨rfl, rfl⟩) (k := ?_) | refine q2 60 64 (hg := rfl) (hu := rfl) (h := by rintro f _ rfl; exact p_ixo sl_34 ⟨rfl, rfl⟩) (k := ?_)
              first | refine q1 65 (hg := rfl) (hu := rfl) (h := by rintro f _ rfl; exact p_fap fa_75_1 ⟨rfl, rfl⟩) (k := ?_) | refine q1 65 (hg := rfl) (hu := rfl) (h := by rintro f _ rfl; exact p_faf fa_75_1 ⟨rfl, rfl⟩) (k := ?_)
              first | refine q1 66 (hg := rfl) (hu := rfl) (h := by rintro f _ rfl; exact p_loadf ty_3 ⟨rfl, rfl⟩) (k := ?_) | refine q1 66 (hg := rfl) (hu := rfl) (h := by rintro f _ rfl; exact p_loadp ty_3 ⟨rfl, rfl⟩) (k := ?_)
              refine q1 67 (hg := rfl) (hu := rfl) (h := by rintro f _ rfl; exact p_buildList sl_48 ze_3 ⟨rfl, rfl⟩) (k := ?_)
              refine q_end ?_
              refine m_end ?_
              refine l_cons rfl (p_append sl_48 by_3 ze_3 (fun s69 => ?_))
              refine l_cons rfl (p_assign ?_)
              refine l_nil ?_
              refine k_blk_normal ?_
              refine k_seq_normal ?_
              refine w_region ?_
              refine l_cons rfl (p_move ?_)
              refine l_cons rfl (p_arith ?_)
              refine l_cons rfl (p_assign ?_)
              refine l_nil ?_
              refine k_seq_normal ?_
              first
              | exact ⟨l.length - (k + 1), by omega, k + 1, s69, rfl, by omega, by rw [stepTo_succ (by omega), stepOne_yes (by omega) (by omega) (by omega) (by assumption), List.map_append]; rfl, by simp only [Knows, put, upd_apply, Nat.reduceEqDiff, ↓reduceIte, and_true, true_and, eq_self] <;> and_intros <;> rfl⟩
              | exact ⟨l.length - (k + 1), by omega, k + 1, s7, rfl, by omega, by rw [stepTo_succ (by omega), stepOne_no (by first | exact .inl (by omega) | exact .inr (.inl (by omega)) | exact .inr (.inr ⟨by omega, .inl (by omega)⟩) | exact .inr (.inr ⟨by omega, .inr (by assumption)⟩))]; simp, by simp only [Knows, put, upd_apply, Nat.reduceEqDiff, ↓reduceIte, and_true, true_and, eq_self] <;> and_intros <;> rfl⟩
            · skip
              have h6' := h6; (try simp only [decide_eq_true_eq, decide_eq_false_iff_not, Bool.not_eq_true', Bool.not_false, Bool.not_true, Bool.not_eq_false'] at h6')
              refine w_skip ?_
              refine k_blk_normal ?_
              refine k_seq_normal ?_
              refine w_region ?_
              refine l_cons rfl (p_move ?_)
              refine l_cons rfl (p_arith ?_)
              refine l_cons rfl (p_assign ?_)
              refine l_nil ?_
              refine k_seq_normal ?_
              first
              | exact ⟨l.length - (k + 1), by omega, k + 1, s69, rfl, by omega, by rw [stepTo_succ (by omega), stepOne_yes (by omega) (by omega) (by omega) (by assumption), List.map_append]; rfl, by simp only [Knows, put, upd_apply, Nat.reduceEqDiff, ↓reduceIte, and_true, true_and, eq_self] <;> and_intros <;> rfl⟩
              | exact ⟨l.length - (k + 1), by omega, k + 1, s7, rfl, by omega, by rw [stepTo_succ (by omega), stepOne_no (by first | exact .inl (by omega) | exact .inr (.inl (by omega)) | exact .inr (.inr ⟨by omega, .inl (by omega)⟩) | exact .inr (.inr ⟨by omega, .inr (by assumption)⟩))]; simp, by simp only [Knows, put, upd_apply, Nat.reduceEqDiff, ↓reduceIte, and_true, true_and, eq_self] <;> and_intros <;> rfl⟩
          · skip
            have h5' := h5; (try simp only [decide_eq_true_eq, decide_eq_false_iff_not, Bool.not_eq_true', Bool.not_false, Bool.not_true, Bool.not_eq_false'] at h5')
            refine qn rfl h5 ?_
            refine qn rfl h5 ?_
            refine qn rfl h5 ?_
            refine qn rfl h5 ?_
            refine qn rfl h5 ?_
            refine qn rfl h5 ?_
            refine qn rfl h5 ?_
            refine qn rfl h5 ?_
            refine qn rfl h5 ?_
            refine qn rfl h5 ?_
            refine q_end ?_
            refine m_end ?_
            refine g_n rfl h5 ?_
            refine l_cons rfl (p_pickf h5 ?_)
            refine l_nil ?_
            refine k_seq_normal ?_
            refine w_f rfl ?_
            refine w_skip ?_
            refine k_blk_normal ?_
            refine k_seq_normal ?_
            refine w_region ?_
            refine l_cons rfl (p_move ?_)
            refine l_cons rfl (p_arith ?_)
            refine l_cons rfl (p_assign ?_)
            refine l_nil ?_
            refine k_seq_normal ?_
            first
            | exact ⟨l.length - (k + 1), by omega, k + 1, s69, rfl, by omega, by rw [stepTo_succ (by omega), stepOne_yes (by omega) (by omega) (by omega) (by assumption), List.map_append]; rfl, by simp only [Knows, put, upd_apply, Nat.reduceEqDiff, ↓reduceIte, and_true, true_and, eq_self] <;> and_intros <;> rfl⟩
            | exact ⟨l.length - (k + 1), by omega, k + 1, s7, rfl, by omega, by rw [stepTo_succ (by omega), stepOne_no (by first | exact .inl (by omega) | exact .inr (.inl (by omega)) | exact .inr (.inr ⟨by omega, .inl (by omega)⟩) | exact .inr (.inr ⟨by omega, .inr (by assumption)⟩))]; simp, by simp only [Knows, put, upd_apply, Nat.reduceEqDiff, ↓reduceIte, and_true, true_and, eq_self] <;> and_intros <;> rfl⟩
        · skip
          have h4' := h4; (try simp only [decide_eq_true_eq, decide_eq_false_iff_not, Bool.not_eq_true', Bool.not_false, Bool.not_true, Bool.not_eq_false'] at h4')
          refine qn rfl h4 ?_
          refine qn rfl h4 ?_
          refine qn rfl h4 ?_
          refine qn rfl h4 ?_
          refine qn rfl h4 ?_
          refine qn rfl h4 ?_
          refine qn rfl h4 ?_
          refine qn rfl h4 ?_
          refine qn rfl h4 ?_
          refine qn rfl h4 ?_
          refine q2 33 43 (hg := rfl) (hu := rfl) (h := by rintro f _ rfl; exact p_pickf h4 ⟨rfl, rfl⟩) (k := ?_)
          refine q1 44 (hg := rfl) (hu := rfl) (h := by rintro f _ rfl; exact p_move ⟨rfl, rfl⟩) (k := ?_)
          refine qn rfl rfl ?_
          refine qn rfl rfl ?_
          refine qn rfl rfl ?_
          refine qn rfl rfl ?_
          refine qn rfl rfl ?_
          refine qn rfl rfl ?_
          refine qn rfl rfl ?_
          refine qn rfl rfl ?_
          refine qn rfl rfl ?_
          refine qn rfl rfl ?_
          refine q_end ?_
          refine m_end ?_
          refine g_n rfl rfl ?_
          refine l_cons rfl (p_pickf rfl ?_)
          refine l_nil ?_
          refine k_seq_normal ?_
          refine w_f rfl ?_
          refine w_skip ?_
          refine k_blk_normal ?_
          refine k_seq_normal ?_
          refine w_region ?_
          refine l_cons rfl (p_move ?_)
          refine l_cons rfl (p_arith ?_)
          refine l_cons rfl (p_assign ?_)
          refine l_nil ?_
          refine k_seq_normal ?_
          first
          | exact ⟨l.length - (k + 1), by omega, k + 1, s69, rfl, by omega, by rw [stepTo_succ (by omega), stepOne_yes (by omega) (by omega) (by omega) (by assumption), List.map_append]; rfl, by simp only [Knows, put, upd_apply, Nat.reduceEqDiff, ↓reduceIte, and_true, true_and, eq_self] <;> and_intros <;> rfl⟩
          | exact ⟨l.length - (k + 1), by omega, k + 1, s7, rfl, by omega, by rw [stepTo_succ (by omega), stepOne_no (by first | exact .inl (by omega) | exact .inr (.inl (by omega)) | exact .inr (.inr ⟨by omega, .inl (by omega)⟩) | exact .inr (.inr ⟨by omega, .inr (by assumption)⟩))]; simp, by simp only [Knows, put, upd_apply, Nat.reduceEqDiff, ↓reduceIte, and_true, true_and, eq_self] <;> and_intros <;> rfl⟩
      · skip
        have h3' := h3; (try simp only [decide_eq_true_eq, decide_eq_false_iff_not, Bool.not_eq_true', Bool.not_false, Bool.not_true, Bool.not_eq_false'] at h3')
        refine qn rfl h3 ?_
        refine qn rfl h3 ?_
        refine qn rfl h3 ?_
        refine qn rfl h3 ?_
        refine qn rfl h3 ?_
        refine qn rfl h3 ?_
        refine qn rfl h3 ?_
        refine qn rfl h3 ?_
        refine q2 23 31 (hg := rfl) (hu := rfl) (h := by rintro f _ rfl; exact p_pickf h3 ⟨rfl, rfl⟩) (k := ?_)
        refine q1 32 (hg := rfl) (hu := rfl) (h := by rintro f _ rfl; exact p_move ⟨rfl, rfl⟩) (k := ?_)
        refine qn rfl rfl ?_
        refine qn rfl rfl ?_
        refine qn rfl rfl ?_
        refine qn rfl rfl ?_
        refine qn rfl rfl ?_
        refine qn rfl rfl ?_
        refine qn rfl rfl ?_
        refine qn rfl rfl ?_
        refine qn rfl rfl ?_
        refine qn rfl rfl ?_
        refine q2 33 43 (hg := rfl) (hu := rfl) (h := by rintro f _ rfl; exact p_pickf rfl ⟨rfl, rfl⟩) (k := ?_)
        refine q1 44 (hg := rfl) (hu := rfl) (h := by rintro f _ rfl; exact p_move ⟨rfl, rfl⟩) (k := ?_)
        refine qn rfl rfl ?_
        refine qn rfl rfl ?_
        refine qn rfl rfl ?_
        refine qn rfl rfl ?_
        refine qn rfl rfl ?_
        refine qn rfl rfl ?_
        refine qn rfl rfl ?_
        refine qn rfl rfl ?_
        refine qn rfl rfl ?_
        refine qn rfl rfl ?_
        refine q_end ?_
        refine m_end ?_
        refine g_n rfl rfl ?_
        refine l_cons rfl (p_pickf rfl ?_)
        refine l_nil ?_
        refine k_seq_normal ?_
        refine w_f rfl ?_
        refine w_skip ?_
        refine k_blk_normal ?_
        refine k_seq_normal ?_
        refine w_region ?_
        refine l_cons rfl (p_move ?_)
        refine l_cons rfl (p_arith ?_)
        refine l_cons rfl (p_assign ?_)
        refine l_nil ?_
        refine k_seq_normal ?_
        first
        | exact ⟨l.length - (k + 1), by omega, k + 1, s69, rfl, by omega, by rw [stepTo_succ (by omega), stepOne_yes (by omega) (by omega) (by omega) (by assumption), List.map_append]; rfl, by simp only [Knows, put, upd_apply, Nat.reduceEqDiff, ↓reduceIte, and_true, true_and, eq_self] <;> and_intros <;> rfl⟩
        | exact ⟨l.length - (k + 1), by omega, k + 1, s7, rfl, by omega, by rw [stepTo_succ (by omega), stepOne_no (by first | exact .inl (by omega) | exact .inr (.inl (by omega)) | exact .inr (.inr ⟨by omega, .inl (by omega)⟩) | exact .inr (.inr ⟨by omega, .inr (by assumption)⟩))]; simp, by simp only [Knows, put, upd_apply, Nat.reduceEqDiff, ↓reduceIte, and_true, true_and, eq_self] <;> and_intros <;> rfl⟩
    · skip
      have h2' := h2; (try simp only [decide_eq_true_eq, decide_eq_false_iff_not, Bool.not_eq_true', Bool.not_false, Bool.not_true, Bool.not_eq_false'] at h2')
      refine w_exit ?_
      refine k_seq_exit ?_
      refine k_seq_exit ?_
      refine k_blk_here ?_
      refine k_seq_normal ?_
      refine w_seq ?_
      refine w_freezeTop 7 ?_
      rw [show k = l.length by omega, List.take_length]
      refine w_region ?_
      refine l_cons rfl (p_loadp ty_36 ?_)
      refine l_cons rfl (p_move ?_)
      refine l_cons rfl (p_callr en_43 (refClose n (stepTo n l b)) ?_)
      refine l_cons rfl (p_assign ?_)
      refine l_nil ?_
      refine k_seq_normal ?_
      refine w_ret ?_
      exact ret1 rfl (by simp only [ev_tmp, ev_const, ev_func, ofConst_int, ofConst_bool, ofConst_str, ofConst_nil, upd_apply, Nat.reduceEqDiff, ↓reduceIte] <;> exact rfl) (by first | exact Sub.refl _ | exact sub1 _ _ | exact sub2 _ _ _ | exact sub3 _ _ _ _ | exact sub4 _ _ _ _ _ | exact sub5 _ _ _ _ _ _) ⟨by unfold stepN closeN stepped; rw [h1']; rfl, rfl⟩
theorem refRun {w0 : World} {es : List Ent} (n : Nf) (hok : ∀ s ∈ n.st, 0 ≤ s.w0 ∧ 0 ≤ s.w1 ∧ 0 ≤ s.w2 ∧ 0 ≤ s.w3) (w : List Int) (hw : ∀ b ∈ w, 0 ≤ b ∧ b < 256) : ACalls Tryd.prog w0 33 [n.av, bytesAV w] es fun v es' => v = .bool (runN n w) ∧ es' = es := by
  unfold Nf.av bytesAV
  refine calls2 (N := 32) Tryd.func33 rfl rfl (by decide) ?_
  refine w_seq ?_
  refine w_region ?_
  refine l_cons rfl (p_box fun s2 => ?_)
  refine l_cons rfl (p_assign ?_)
  refine l_nil ?_
  refine k_seq_normal ?_
  refine w_seq ?_
  refine w_seq ?_
  refine w_len 1 fun hl => ?_
  rw [List.length_map] at hl
  simp only [most] at hl
  refine w_region ?_
  refine l_cons rfl (p_loadp ty_36 ?_)
  refine l_cons rfl (p_callr en_42 (refMay n) ?_)
  refine l_cons rfl (p_not ?_)
  refine l_nil ?_
  refine k_seq_normal ?_
  refine w_b (fun h1 => ?_) (fun h1 => ?_)
  · skip
    have h1' := h1; (try simp only [decide_eq_true_eq, decide_eq_false_iff_not, Bool.not_eq_true', Bool.not_false, Bool.not_true, Bool.not_eq_false'] at h1')
    refine w_seq ?_
    refine w_region ?_
    refine l_cons rfl (p_assign ?_)
    refine l_nil ?_
    refine k_seq_normal ?_
    refine w_ret ?_
    refine k_seq_ret ?_
    exact ret1 rfl (by simp only [ev_tmp, ev_const, ev_func, ofConst_int, ofConst_bool, ofConst_str, ofConst_nil, upd_apply, Nat.reduceEqDiff, ↓reduceIte] <;> exact rfl) (by first | exact Sub.refl _ | exact sub1 _ _ | exact sub2 _ _ _ | exact sub3 _ _ _ _ | exact sub4 _ _ _ _ _ | exact sub5 _ _ _ _ _ _) ⟨by unfold runN; rw [h1']; rfl, rfl⟩
  · skip
    have h1' := h1; (try simp only [decide_eq_true_eq, decide_eq_false_iff_not, Bool.not_eq_true', Bool.not_false, Bool.not_true, Bool.not_eq_false'] at h1')
    refine w_skip ?_
    refine k_seq_normal ?_
    refine w_seq ?_
    refine w_region ?_
    refine l_cons rfl (p_loadp ty_36 ?_)
    refine l_cons rfl (p_fap fa_36_1 ?_)
    refine l_cons rfl (p_loadp ty_3 ?_)
    refine l_cons rfl (p_buildList sl_48 ze_3 ?_)
    refine l_cons rfl (p_callr en_43 (refClose n [n.start]) ?_)
    refine l_cons rfl (p_assign ?_)
    refine l_nil ?_
    refine k_seq_normal ?_
    refine w_seq ?_
    refine w_seq ?_
    have hcl : closeN n [n.start] = closed n [n.start] := by unfold closeN; rw [h1']; rfl
    rw [hcl]
    refine w_region ?_
    refine l_cons rfl (p_assign ?_)
    refine l_nil ?_
    refine k_seq_normal ?_
    refine w_block ?_
    refine w_loop (fun m f es' => ∃ k, m = w.length - k ∧ k ≤ w.length ∧ es' = .row s2 36 3 [n.cells] :: es ∧ Knows f [(1, .list 1 (w.map fun n => [.int .u8 n])), (2, .ptr es.length s2 0 0), (5, ints ((w.take k).foldl (stepped n) (closed n [n.start]))), (6, .int .i64 k)]) (w.length) (⟨0, rfl, Nat.zero_le _, rfl, by simp only [Knows, put, upd_apply, Nat.reduceEqDiff, ↓reduceIte, and_true, true_and, eq_self] <;> and_intros <;> rfl⟩) ?_
    rintro m f es' ⟨k, rfl, hk1, rfl, hk⟩
    have hle := fold_len n (w.take k)
    refine w_pins _ (Sub.refl _) (hk) ?_
    simp only [pins]
    refine w_seq ?_
    refine w_seq ?_
    refine w_region ?_
    refine l_cons rfl (p_move ?_)
    refine l_cons rfl (p_move ?_)
    refine l_cons rfl (p_lenl sl_22 ?_)
    refine l_cons rfl (p_cmp ?_)
    refine l_nil ?_
    refine k_seq_normal ?_
    refine w_b (fun h2 => ?_) (fun h2 => ?_)
    · skip
      have h2' := h2; (try simp only [decide_eq_true_eq, decide_eq_false_iff_not, Bool.not_eq_true', Bool.not_false, Bool.not_true, Bool.not_eq_false'] at h2')
      refine w_skip ?_
      refine k_seq_normal ?_
      refine w_seq ?_
      refine w_block ?_
      refine w_drawn 6 [] (fun e => e = _) mixed (by kernel_rfl) rfl ?_
      refine q1 2 (hg := rfl) (hu := rfl) (h := by rintro f _ rfl; exact p_loadp ty_36 ⟨rfl, rfl⟩) (k := ?_)
      refine q1 5 (hg := rfl) (hu := rfl) (h := by rintro f _ rfl; exact p_move ⟨rfl, rfl⟩) (k := ?_)
      refine q1 1 (hg := rfl) (hu := rfl) (h := by rintro f _ rfl; exact p_move ⟨rfl, rfl⟩) (k := ?_)
      refine q1 6 (hg := rfl) (hu := rfl) (h := by rintro f _ rfl; exact p_move ⟨rfl, rfl⟩) (k := ?_)
      refine q2 23 24 (hg := rfl) (hu := rfl) (h := by rintro f _ rfl; exact p_ixl sl_22 ⟨rfl, rfl⟩) (k := ?_)
      refine q1 25 (hg := rfl) (hu := rfl) (h := by rintro f _ rfl; exact p_loadf ty_5 ⟨rfl, rfl⟩) (k := ?_)
      refine q_end ?_
      refine m_end ?_
      refine l_cons rfl (p_callr en_45 (refStep n hok ((w.take k).foldl (stepped n) (closed n [n.start])) (w[k]'(by omega)) (by have := hle; have := may_le h1'; omega) (hw _ (List.getElem_mem _)).1 (hw _ (List.getElem_mem _)).2) ?_)
      refine l_cons rfl (p_assign ?_)
      refine l_nil ?_
      refine k_blk_normal ?_
      refine k_seq_normal ?_
      refine w_region ?_
      refine l_cons rfl (p_move ?_)
      refine l_cons rfl (p_arith ?_)
      refine l_cons rfl (p_assign ?_)
      refine l_nil ?_
      refine k_seq_normal ?_
      have hst : ∀ l b, stepN n l b = stepped n l b := fun l b => by unfold stepN; rw [h1']; rfl
      refine ⟨w.length - (k + 1), by omega, k + 1, rfl, by omega, rfl, ?_⟩
      rw [fold_succ (by omega)]
      simp only [Knows, put, upd_apply, Nat.reduceEqDiff, ↓reduceIte, and_true, true_and, eq_self, hst]
      first | exact rfl | exact ⟨rfl, rfl⟩
    · skip
      have h2' := h2; (try simp only [decide_eq_true_eq, decide_eq_false_iff_not, Bool.not_eq_true', Bool.not_false, Bool.not_true, Bool.not_eq_false'] at h2')
      refine w_exit ?_
      refine k_seq_exit ?_
      refine k_seq_exit ?_
      refine k_blk_here ?_
      refine k_seq_normal ?_
      refine w_seq ?_
      refine w_region ?_
      refine l_cons rfl (p_move ?_)
      refine l_cons rfl (p_fap fa_36_2 ?_)
      refine l_cons rfl (p_loadp ty_3 ?_)
      refine l_cons rfl (p_callr en_82 (has_walk _ _) ?_)
      refine l_cons rfl (p_assign ?_)
      refine l_nil ?_
      refine k_seq_normal ?_
      refine w_ret ?_
      exact ret1 rfl (by simp only [ev_tmp, ev_const, ev_func, ofConst_int, ofConst_bool, ofConst_str, ofConst_nil, upd_apply, Nat.reduceEqDiff, ↓reduceIte] <;> exact rfl) (by first | exact Sub.refl _ | exact sub1 _ _ | exact sub2 _ _ _ | exact sub3 _ _ _ _ | exact sub4 _ _ _ _ _ | exact sub5 _ _ _ _ _ _) ⟨by rw [run_any h1', show k = w.length by omega, List.take_length], rfl⟩
end Go.Proofs.YtfdgbghlanbddaaDoor.Av
set_option linter.unusedVariables false
set_option linter.unusedSimpArgs false
namespace Go.Proofs.YtfdgbghlanbddaaDoor.Av
open Go.RowKit
/-- The library's table, al' it is laid. -/
def Tab (w : World) : Prop := 0 < w.heap.size ∧ ∀ i, i < 64 → w.cell? ⟨0, i, none⟩ = some (.int .u8 (Lib.deBruijn64tab.getD i 0 : Nat))
section
variable {P : Program} {w0 : World} {N : Nat} {f : Frame} {es : List Ent} {K : Frame → List Ent → Prop}
variable {d : Nat} {ty : TypeId} {pos : String} {aft : Array Edge} {g : Option (Nat × Bool)} {x y z : Operand} {a : AV}
theorem Tab.now {c : Core} (h : Tab w0) (ok : Ok w0 c es) {i : Nat} (hi : i < 64) : c.w.cell? ⟨0, i, none⟩ = some (.int .u8 (Lib.deBruijn64tab.getD i 0 : Nat)) := by
  rw [← h.2 i hi]
  unfold World.cell?
  simp only [ok.below.block 0 h.1]
end
/-! ### bits -/
theorem wrap_u64_id {n : Int} (h0 : 0 ≤ n) (h1 : n < 18446744073709551616) : IntKind.u64.wrap n = n := by
  rw [IntKind.wrap_u64]
  exact Int.emod_eq_of_lt h0 h1
theorem arith_and64 {a b : Int} (ha : 0 ≤ a ∧ a < 18446744073709551616) (hb : 0 ≤ b ∧ b < 18446744073709551616) : arithI .and .u64 a b = some ((a.toNat &&& b.toNat : Nat) : Int) := by
  obtain ⟨m, rfl⟩ := Int.eq_ofNat_of_zero_le ha.1
  obtain ⟨n, rfl⟩ := Int.eq_ofNat_of_zero_le hb.1
  have := bits_and_u64_nat m n (by omega) (by omega)
  simp only [arithI, Int.toNat_natCast]
  exact congrArg some this
theorem arith_or64 {a b : Int} (ha : 0 ≤ a ∧ a < 18446744073709551616) (hb : 0 ≤ b ∧ b < 18446744073709551616) : arithI .or .u64 a b = some (orI a b) := by
  obtain ⟨m, rfl⟩ := Int.eq_ofNat_of_zero_le ha.1
  obtain ⟨n, rfl⟩ := Int.eq_ofNat_of_zero_le hb.1
  have := bits_or_u64_nat m n (by omega) (by omega)
  simp only [arithI, orI, Int.toNat_natCast]
  exact congrArg some this
def xorI (x y : Int) : Int := ((x.toNat ^^^ y.toNat : Nat) : Int)
theorem arith_xor64 {a b : Int} (ha : 0 ≤ a ∧ a < 18446744073709551616) (hb : 0 ≤ b ∧ b < 18446744073709551616) : arithI .xor .u64 a b = some (xorI a b) := by
  obtain ⟨m, rfl⟩ := Int.eq_ofNat_of_zero_le ha.1
  obtain ⟨n, rfl⟩ := Int.eq_ofNat_of_zero_le hb.1
  simp only [arithI, xorI, Int.toNat_natCast]
  have hx : m ^^^ n < 2 ^ 64 := Nat.xor_lt_two_pow (by omega) (by omega)
  have h1 : (BitVec.ofInt 64 (m : Int)).toNat = m := by
    rw [BitVec.ofInt_natCast, BitVec.toNat_ofNat]; exact Nat.mod_eq_of_lt (by omega)
  have h2 : (BitVec.ofInt 64 (n : Int)).toNat = n := by
    rw [BitVec.ofInt_natCast, BitVec.toNat_ofNat]; exact Nat.mod_eq_of_lt (by omega)
  show some (IntKind.u64.wrap ((BitVec.ofInt 64 (m : Int) ^^^ BitVec.ofInt 64 (n : Int)).toNat : Int)) = _
  rw [BitVec.toNat_xor, h1, h2, wrap_u64_id (by omega) (by omega)]
/-- The lowest bit of a number other than 0. -/
def tz (x : Int) : Nat := Lib.ctz 64 x.toNat
end Go.Proofs.YtfdgbghlanbddaaDoor.Av
set_option linter.unusedVariables false
set_option linter.unusedSimpArgs false
set_option maxRecDepth 8000
namespace Go.Proofs.YtfdgbghlanbddaaDoor.Av
open Go.RowKit Go.Proofs
end Go.Proofs.YtfdgbghlanbddaaDoor.Av
set_option linter.unusedVariables false
set_option linter.unusedSimpArgs false
set_option maxRecDepth 8000
namespace Go.Proofs.YtfdgbghlanbddaaDoor.Av
open Go.RowKit Go.Proofs
theorem wd_load (s : W4) {k : Nat} (hk : k < 4) : loadAV false 1 [.int .u64 s.w0, .int .u64 s.w1, .int .u64 s.w2, .int .u64 s.w3] k = .int .u64 (s.wd k) := by
  rcases k with _ | _ | _ | _ | k
  · rfl
  · rfl
  · rfl
  · rfl
  · omega
end Go.Proofs.YtfdgbghlanbddaaDoor.Av
set_option linter.unusedVariables false
set_option linter.unusedSimpArgs false
set_option maxRecDepth 8000
namespace Go.Proofs.YtfdgbghlanbddaaDoor.Av
open Go.RowKit Go.Proofs
theorem Rx.ok.set {r : Rx} (h : r.ok) : r.set.ok := by cases r; simp only [Rx.ok] at h; exact h.2.1
theorem Rx.ok.args {r : Rx} (h : r.ok) : ∀ a ∈ r.args, a.ok := by cases r; simp only [Rx.ok] at h; exact (Rx.oks_iff _).1 h.2.2
theorem wrap8 {n : Int} (h0 : 0 ≤ n) (h1 : n < 256) : IntKind.u8.wrap n = n := by
  have : IntKind.u8.wrap n = n % 256 := by simp [IntKind.wrap, IntKind.signed, IntKind.bits]
  omega
theorem eqA (a b : W4) : (a.row.map valOf == b.row.map valOf) = decide (a = b) := by
  cases a; cases b
  rw [Bool.eq_iff_iff]
  simp [W4.row, valOf]
theorem neA (a b : W4) : (!(a.row.map valOf == b.row.map valOf)) = !decide (a = b) := by rw [eqA]
end Go.Proofs.YtfdgbghlanbddaaDoor.Av
set_option linter.unusedVariables false
set_option linter.unusedSimpArgs false
set_option maxRecDepth 8000
namespace Go.Proofs.YtfdgbghlanbddaaDoor.Av
open Go.RowKit Go.Proofs
end Go.Proofs.YtfdgbghlanbddaaDoor.Av
set_option linter.unusedVariables false
set_option linter.unusedSimpArgs false
set_option maxRecDepth 8000
namespace Go.Proofs.YtfdgbghlanbddaaDoor.Av
open Go.RowKit Go.Proofs
theorem rep_aggNil (sz : Nat) {c : Core} {m : Option (List Ent)} {l : List AV} {v : Value} (h : Rep c m (.agg l) v) : Rep c m (.agg (l.map (nilTo sz))) v := by
  simp only [Rep] at h ⊢
  obtain ⟨cs, e, h1, h2⟩ := h
  exact ⟨cs, e, reps_nilTo sz h1, h2⟩
end Go.Proofs.YtfdgbghlanbddaaDoor.Av
set_option linter.unusedVariables false
set_option linter.unusedSimpArgs false
namespace Go.Proofs.YtfdgbghlanbddaaDoor.Av
/-! ### sets, byte by byte -/
def listTo (s : W4) (k : Nat) : List Int := ((List.range k).filter s.has).map Int.ofNat
def listW (s : W4) : List Int := listTo s 256
def W4.setWd (s : W4) (q : Nat) (v : Int) : W4 := if q = 0 then { s with w0 := v } else if q = 1 then { s with w1 := v } else if q = 2 then { s with w2 := v } else { s with w3 := v }
def W4.add (s : W4) (b : Int) : W4 := s.setWd (b / 64).toNat (orI (s.wd (b / 64).toNat) (2 ^ (b % 64).toNat))
def ofW (l : List Int) : W4 := l.foldl W4.add noSet
theorem listTo_succ (s : W4) (k : Nat) : listTo s (k + 1) = listTo s k ++ (if s.has k = true then [(k : Int)] else []) := by
  unfold listTo
  rw [List.range_succ, List.filter_append, List.map_append]
  by_cases h : s.has k = true
  · rw [if_pos h, List.filter_cons_of_pos (by simpa using h)]; rfl
  · rw [if_neg h, List.filter_cons_of_neg (by simpa using h)]; rfl
theorem listTo_len (s : W4) (k : Nat) : (listTo s k).length ≤ k := by
  unfold listTo
  rw [List.length_map]
  have := List.length_filter_le s.has (List.range k)
  simpa using this
theorem listW_mem {s : W4} {n : Int} : n ∈ listW s ↔ ∃ i : Nat, n = i ∧ i < 256 ∧ s.has i = true := by
  unfold listW listTo
  simp only [List.mem_map, List.mem_filter, List.mem_range]
  constructor
  · rintro ⟨i, ⟨h1, h2⟩, rfl⟩; exact ⟨i, rfl, h1, h2⟩
  · rintro ⟨i, rfl, h1, h2⟩; exact ⟨i, ⟨h1, h2⟩, rfl⟩
theorem setWd_wd (s : W4) {q q' : Nat} (v : Int) (hq : q < 4) (hq' : q' < 4) : (s.setWd q v).wd q' = if q' = q then v else s.wd q' := by
  have h1 : q = 0 ∨ q = 1 ∨ q = 2 ∨ q = 3 := by omega
  have h2 : q' = 0 ∨ q' = 1 ∨ q' = 2 ∨ q' = 3 := by omega
  rcases h1 with rfl | rfl | rfl | rfl <;> rcases h2 with rfl | rfl | rfl | rfl <;> simp [W4.setWd, W4.wd]
theorem setWd_ok {s : W4} (h : s.ok) (q : Nat) {v : Int} (hv : 0 ≤ v ∧ v < 18446744073709551616) : (s.setWd q v).ok := by
  unfold W4.ok at *
  unfold W4.setWd
  split
  · simp only; omega
  · split
    · simp only; omega
    · split <;> simp only <;> omega
theorem two_lt {n : Nat} (h : n < 64) : (0 : Int) ≤ 2 ^ n ∧ (2 : Int) ^ n < 18446744073709551616 := by
  have e : ((2 : Int) ^ n) = ((2 ^ n : Nat) : Int) := by simp
  have : (2 : Nat) ^ n < 2 ^ 64 := Nat.pow_lt_pow_right (by omega) h
  rw [e]
  generalize (2 : Nat) ^ n = m at this
  omega
theorem add_ok {s : W4} (h : s.ok) {b : Int} (h0 : 0 ≤ b) (h1 : b < 256) : (s.add b).ok := by
  unfold W4.add
  exact setWd_ok h _ (or_lt (W4.wd_ok h _).2 (two_lt (by omega)).2)
theorem add_has {s : W4} (h : s.ok) {b : Int} (h0 : 0 ≤ b) (h1 : b < 256) {i : Nat} (hi : i < 256) : (s.add b).has i = (s.has i || decide ((i : Int) = b)) := by
  rw [W4.has_eq (add_ok h h0 h1) hi, W4.has_eq h hi]
  unfold W4.add
  rw [setWd_wd s _ (by omega) (by omega)]
  by_cases hq : i / 64 = (b / 64).toNat
  · rw [if_pos hq, ← hq]
    unfold orI
    rw [Int.toNat_natCast, Nat.testBit_or]
    congr 1
    have e : ((2 : Int) ^ (b % 64).toNat).toNat = 2 ^ (b % 64).toNat := by
      have e : ((2 : Int) ^ (b % 64).toNat) = ((2 ^ (b % 64).toNat : Nat) : Int) := by simp
      rw [e, Int.toNat_natCast]
    rw [e, Nat.testBit_two_pow, decide_eq_decide]
    omega
  · rw [if_neg hq, show decide ((i : Int) = b) = false from decide_eq_false (by omega)]
    simp
theorem ofW_from : ∀ {l : List Int} {s : W4}, s.ok → (∀ b ∈ l, 0 ≤ b ∧ b < 256) → (l.foldl W4.add s).ok ∧ ∀ i : Nat, i < 256 → (l.foldl W4.add s).has i = (s.has i || decide ((i : Int) ∈ l))
  | [], s, h, _ => ⟨h, fun i _ => by simp⟩
  | b :: t, s, h, hl => by
    have hb := hl b (by simp)
    obtain ⟨h1, h2⟩ := ofW_from (l := t) (add_ok h hb.1 hb.2) (fun x hx => hl x (by simp [hx]))
    refine ⟨h1, fun i hi => ?_⟩
    show (t.foldl W4.add (s.add b)).has i = _
    rw [h2 i hi, add_has h hb.1 hb.2 hi, Bool.or_assoc]
    congr 1
    rw [Bool.eq_iff_iff]
    simp
theorem noSet_has {i : Nat} (hi : i < 256) : noSet.has i = false := by
  rw [W4.has_eq noSet_ok hi]
  simp [noSet, W4.wd]
theorem ofW_ok {l : List Int} (h : ∀ b ∈ l, 0 ≤ b ∧ b < 256) : (ofW l).ok := (ofW_from noSet_ok h).1
theorem ofW_has {l : List Int} (h : ∀ b ∈ l, 0 ≤ b ∧ b < 256) {i : Nat} (hi : i < 256) : (ofW l).has i = decide ((i : Int) ∈ l) := by
  unfold ofW
  rw [(ofW_from noSet_ok h).2 i hi, noSet_has hi, Bool.false_or]
theorem or_has {a b : W4} (ha : a.ok) (hb : b.ok) {i : Nat} (hi : i < 256) : (a.or b).has i = (a.has i || b.has i) := by
  rw [W4.has_eq (or_ok ha hb) hi, W4.has_eq ha hi, W4.has_eq hb hi, ← Nat.testBit_or]
  congr 1
  have h4 : i / 64 = 0 ∨ i / 64 = 1 ∨ i / 64 = 2 ∨ i / 64 = 3 := by omega
  rcases h4 with h | h | h | h <;> rw [h] <;> simp [W4.or, W4.wd, orI]
theorem store_wd (s : W4) {q : Nat} (hq : q < 4) (v : Int) : [AV.int .u64 s.w0, .int .u64 s.w1, .int .u64 s.w2, .int .u64 s.w3].take q ++ [.int .u64 v] ++ [AV.int .u64 s.w0, .int .u64 s.w1, .int .u64 s.w2, .int .u64 s.w3].drop (q + 1) = [.int .u64 (s.setWd q v).w0, .int .u64 (s.setWd q v).w1, .int .u64 (s.setWd q v).w2, .int .u64 (s.setWd q v).w3] := by
  have h1 : q = 0 ∨ q = 1 ∨ q = 2 ∨ q = 3 := by omega
  rcases h1 with rfl | rfl | rfl | rfl <;> simp [W4.setWd]
/-! ### one more, in its order -/
def catOuts (l : List Rx) : List Rx := l.filter fun r => decide (r.kind ≠ 2)
end Go.Proofs.YtfdgbghlanbddaaDoor.Av
set_option linter.unusedVariables false
set_option linter.unusedSimpArgs false
set_option maxRecDepth 8000
namespace Go.Proofs.YtfdgbghlanbddaaDoor.Av
open Go.RowKit Go.Proofs
theorem cleans_u8 (l : List Int) : (l.map fun n => [AV.int .u8 n]).all cleans = true := by
  rw [List.all_eq_true]
  intro x hx
  obtain ⟨r, _, rfl⟩ := List.mem_map.1 hx
  rfl
end Go.Proofs.YtfdgbghlanbddaaDoor.Av
set_option linter.unusedVariables false
set_option linter.unusedSimpArgs false
set_option maxRecDepth 8000
namespace Go.Proofs.YtfdgbghlanbddaaDoor.Av
open Go.RowKit Go.Proofs
end Go.Proofs.YtfdgbghlanbddaaDoor.Av
set_option linter.unusedVariables false
set_option linter.unusedSimpArgs false
set_option maxRecDepth 8000
namespace Go.Proofs.YtfdgbghlanbddaaDoor.Av
open Go.RowKit Go.Proofs
end Go.Proofs.YtfdgbghlanbddaaDoor.Av
set_option linter.unusedVariables false
set_option linter.unusedSimpArgs false
namespace Go.Proofs.YtfdgbghlanbddaaDoor.Av
/-! ### the machine of an expression -/
def stF (l : List Int) : St := ⟨0, 0, 0, 0, -1, l⟩
def st0 : St := stF []
def addFree (s : St) (j : Nat) : St := ⟨s.w0, s.w1, s.w2, s.w3, s.to, s.free ++ [(j : Int)]⟩
def bFree (ns : List St) (i j : Nat) : List St := match ns[i]? with
  | some s => ns.set i (addFree s j)
  | none => ns
theorem bFree_len (ns : List St) (i j : Nat) : (bFree ns i j).length = ns.length := by
  unfold bFree
  split
  · rw [List.length_set]
  · rfl
theorem bFree_eq {ns : List St} {i : Nat} (h : i < ns.length) (j : Nat) : bFree ns i j = ns.set i (addFree ns[i] j) := by
  unfold bFree
  rw [List.getElem?_eq_getElem h]
mutual
def bPart : Rx → List St → List St × Nat × Nat
  | .mk k s l, ns =>
    if k = 3 then (ns ++ [st0, ⟨s.w0, s.w1, s.w2, s.w3, (ns.length : Int), []⟩], ns.length + 1, ns.length)
    else if k = 4 then bCat l ns
    else if k = 5 then bAltGo l (ns ++ [st0]) none ns.length
    else if k = 6 then bStar l ns
    else if k = 2 then (bFree (ns ++ [st0, st0]) ns.length (ns.length + 1), ns.length, ns.length + 1)
    else (ns ++ [st0, st0], ns.length, ns.length + 1)
def bStar : List Rx → List St → List St × Nat × Nat
  | [], ns => (ns, 0, 0)
  | a :: _, ns => (bFree (bFree (bFree (bPart a (ns ++ [st0, st0])).1 ns.length (bPart a (ns ++ [st0, st0])).2.1) (bPart a (ns ++ [st0, st0])).2.2 ns.length) ns.length (ns.length + 1), ns.length, ns.length + 1)
def bCat : List Rx → List St → List St × Nat × Nat
  | [], ns => (ns, 0, 0)
  | a :: t, ns => bCatGo t (bPart a ns).1 (bPart a ns).2.1 (bPart a ns).2.2
def bCatGo : List Rx → List St → Nat → Nat → List St × Nat × Nat
  | [], ns, f, t => (ns, f, t)
  | a :: r, ns, f, t => bCatGo r (bFree (bPart a ns).1 t (bPart a ns).2.1) f (bPart a ns).2.2
def bAltGo : List Rx → List St → Option (Nat × Nat) → Nat → List St × Nat × Nat
  | [], ns, fl, t => (ns, (fl.getD (0, 0)).1, t)
  | a :: r, ns, none, t => bAltGo r (bFree (bPart a ns).1 (bPart a ns).2.2 t ++ [stF [((bPart a ns).2.1 : Int)]]) (some ((bPart a ns).1.length, (bPart a ns).1.length)) t
  | a :: r, ns, some (f, l), t => bAltGo r (bFree (bFree (bPart a ns).1 (bPart a ns).2.2 t ++ [stF [((bPart a ns).2.1 : Int)]]) l (bPart a ns).1.length) (some (f, (bPart a ns).1.length)) t
end
/-- How great a machine is: its states, and their ways. -/
def wt (ns : List St) : Nat := ns.length + (ns.map fun s => s.free.length).sum
theorem wt_append (a b : List St) : wt (a ++ b) = wt a + wt b := by
  unfold wt
  rw [List.length_append, List.map_append, List.sum_append]
  omega
theorem wt_free (ns : List St) (i j : Nat) : wt (bFree ns i j) ≤ wt ns + 1 := by
  by_cases h : i < ns.length
  · rw [bFree_eq h]
    unfold wt
    rw [List.length_set]
    have : ∀ (l : List St) (i : Nat) (h : i < l.length) (s : St), ((l.set i s).map fun s => s.free.length).sum + l[i].free.length = (l.map fun s => s.free.length).sum + s.free.length := by
      intro l
      induction l with
      | nil => intro i h; simp at h
      | cons a t ih =>
        intro i h s
        cases i with
        | zero => simp; omega
        | succ i =>
          have := ih i (by simpa using h) s
          simp only [List.set_cons_succ, List.map_cons, List.sum_cons, List.getElem_cons_succ]
          omega
    have h2 := this ns i h (addFree ns[i] j)
    simp only [addFree, List.length_append, List.length_cons, List.length_nil] at h2
    simp only [addFree]
    omega
  · unfold bFree
    rw [List.getElem?_eq_none (by omega)]
    simp only
    omega
theorem wt_st0 : wt [st0] = 1 := rfl
theorem wt_st00 : wt [st0, st0] = 2 := rfl
/-- Whatever must have a part has one. -/
def okArgs (k : Int) (l : List Rx) : Prop := (k = 4 → l ≠ []) ∧ (k = 5 → l ≠ []) ∧ (k = 6 → l ≠ [])
mutual
def Rx.fit : Rx → Prop
  | .mk k _ l => okArgs k l ∧ Rx.fitL l
def Rx.fitL : List Rx → Prop
  | [] => True
  | r :: t => r.fit ∧ Rx.fitL t
end
/-- What is so of each step of the building. -/
structure Built (ns : List St) (B : Nat) (p : List St × Nat × Nat) : Prop where
  len : ns.length ≤ p.1.length
  f : p.2.1 < p.1.length
  t : p.2.2 < p.1.length
  wt : wt p.1 ≤ wt ns + B
mutual
theorem built_part : ∀ (r : Rx) (ns : List St), r.fit → Built ns (8 * r.nodes - 4) (bPart r ns)
  | .mk k s l, ns, h => by
    simp only [Rx.fit] at h
    simp only [bPart, Rx.nodes]
    split
    · refine ⟨by simp, by simp, by simp, ?_⟩
      rw [wt_append]
      have : wt [st0, ⟨s.w0, s.w1, s.w2, s.w3, (ns.length : Int), []⟩] = 2 := rfl
      omega
    · split
      · rename_i hk
        have := built_cat l ns h.2 (h.1.1 hk)
        exact ⟨this.len, this.f, this.t, by have := this.wt; omega⟩
      · split
        · rename_i hk
          have := built_alt l (ns ++ [st0]) none ns.length h.2 (by simp) (.inl (h.1.2.1 hk)) (fun f l e => by cases e)
          have h2 := this.len
          rw [List.length_append] at h2
          refine ⟨by simp at h2; omega, this.f, this.t, ?_⟩
          have h3 := this.wt
          rw [wt_append, wt_st0] at h3
          omega
        · split
          · rename_i hk
            have := built_star l ns h.2 (h.1.2.2 hk)
            exact ⟨this.len, this.f, this.t, by have := this.wt; omega⟩
          · split
            · refine ⟨by simp [bFree_len], by simp [bFree_len], by simp [bFree_len], ?_⟩
              have := wt_free (ns ++ [st0, st0]) ns.length (ns.length + 1)
              rw [wt_append, wt_st00] at this
              simp only
              omega
            · refine ⟨by simp, by simp, by simp, ?_⟩
              rw [wt_append, wt_st00]
              omega
theorem built_star : ∀ (l : List Rx) (ns : List St), Rx.fitL l → l ≠ [] → Built ns (8 * Rx.nodesL l + 4) (bStar l ns)
  | [], ns, _, h => absurd rfl h
  | a :: t, ns, h, _ => by
    simp only [Rx.fitL] at h
    have p := built_part a (ns ++ [st0, st0]) h.1
    have hnp := a.nodes_pos
    have h1 := p.len
    have h2 := p.wt
    rw [wt_append, wt_st00] at h2
    simp only [List.length_append, List.length_cons, List.length_nil] at h1
    simp only [bStar, Rx.nodesL]
    refine ⟨by simp only [bFree_len]; omega, by simp only [bFree_len]; omega, by simp only [bFree_len]; omega, ?_⟩
    simp only
    have w1 := wt_free (bPart a (ns ++ [st0, st0])).1 ns.length (bPart a (ns ++ [st0, st0])).2.1
    have w2 := wt_free (bFree (bPart a (ns ++ [st0, st0])).1 ns.length (bPart a (ns ++ [st0, st0])).2.1) (bPart a (ns ++ [st0, st0])).2.2 ns.length
    have w3 := wt_free (bFree (bFree (bPart a (ns ++ [st0, st0])).1 ns.length (bPart a (ns ++ [st0, st0])).2.1) (bPart a (ns ++ [st0, st0])).2.2 ns.length) ns.length (ns.length + 1)
    omega
theorem built_cat : ∀ (l : List Rx) (ns : List St), Rx.fitL l → l ≠ [] → Built ns (8 * Rx.nodesL l) (bCat l ns)
  | [], ns, _, h => absurd rfl h
  | a :: t, ns, h, _ => by
    simp only [Rx.fitL] at h
    have p := built_part a ns h.1
    have hnp := a.nodes_pos
    have q := built_catGo t (bPart a ns).1 (bPart a ns).2.1 (bPart a ns).2.2 h.2 p.f p.t
    simp only [bCat, Rx.nodesL, List.length_cons]
    exact ⟨Nat.le_trans p.len q.len, q.f, q.t, by have := p.wt; have := q.wt; omega⟩
theorem built_catGo : ∀ (l : List Rx) (ns : List St) (f t : Nat), Rx.fitL l → f < ns.length → t < ns.length → Built ns (8 * Rx.nodesL l) (bCatGo l ns f t)
  | [], ns, f, t, _, hf, ht => by simp only [bCatGo]; exact ⟨Nat.le_refl _, hf, ht, Nat.le_add_right _ _⟩
  | a :: r, ns, f, t, h, hf, ht => by
    simp only [Rx.fitL] at h
    have p := built_part a ns h.1
    have hnp := a.nodes_pos
    have h1 := p.len
    have h2 := p.f
    have h3 := p.t
    have q := built_catGo r (bFree (bPart a ns).1 t (bPart a ns).2.1) f (bPart a ns).2.2 h.2 (by rw [bFree_len]; omega) (by rw [bFree_len]; omega)
    simp only [bCatGo, Rx.nodesL, List.length_cons]
    have h4 := q.len
    rw [bFree_len] at h4
    have w1 := wt_free (bPart a ns).1 t (bPart a ns).2.1
    exact ⟨by omega, q.f, q.t, by have := p.wt; have := q.wt; omega⟩
theorem built_alt : ∀ (l : List Rx) (ns : List St) (fl : Option (Nat × Nat)) (t : Nat), Rx.fitL l → t < ns.length → (l ≠ [] ∨ fl ≠ none) → (∀ f l, fl = some (f, l) → f < ns.length ∧ l < ns.length) → Built ns (8 * Rx.nodesL l) (bAltGo l ns fl t)
  | [], ns, fl, t, _, ht, he, hfl => by
    simp only [bAltGo]
    match fl, he, hfl with
    | none, he, _ => simp at he
    | some (f, l), _, hfl => exact ⟨Nat.le_refl _, (hfl f l rfl).1, ht, Nat.le_add_right _ _⟩
  | a :: r, ns, none, t, h, ht, _, _ => by
    simp only [Rx.fitL] at h
    have p := built_part a ns h.1
    have hnp := a.nodes_pos
    have h1 := p.len
    have q := built_alt r (bFree (bPart a ns).1 (bPart a ns).2.2 t ++ [stF [((bPart a ns).2.1 : Int)]]) (some ((bPart a ns).1.length, (bPart a ns).1.length)) t h.2 (by simp [bFree_len]; omega) (.inr (by simp)) (fun f l e => by
      simp only [Option.some.injEq, Prod.mk.injEq] at e
      obtain ⟨rfl, rfl⟩ := e
      simp [bFree_len])
    simp only [bAltGo, Rx.nodesL, List.length_cons]
    have h4 := q.len
    simp only [List.length_append, bFree_len, List.length_cons, List.length_nil] at h4
    have h5 := q.wt
    rw [wt_append] at h5
    have w1 := wt_free (bPart a ns).1 (bPart a ns).2.2 t
    have w2 : wt [stF [((bPart a ns).2.1 : Int)]] = 2 := rfl
    exact ⟨by omega, q.f, q.t, by have := p.wt; omega⟩
  | a :: r, ns, some (f0, l0), t, h, ht, _, hfl => by
    simp only [Rx.fitL] at h
    have p := built_part a ns h.1
    have hnp := a.nodes_pos
    have h1 := p.len
    obtain ⟨g1, g2⟩ := hfl f0 l0 rfl
    have q := built_alt r (bFree (bFree (bPart a ns).1 (bPart a ns).2.2 t ++ [stF [((bPart a ns).2.1 : Int)]]) l0 (bPart a ns).1.length) (some (f0, (bPart a ns).1.length)) t h.2 (by simp [bFree_len]; omega) (.inr (by simp)) (fun f l e => by
      simp only [Option.some.injEq, Prod.mk.injEq] at e
      obtain ⟨rfl, rfl⟩ := e
      simp [bFree_len]; omega)
    simp only [bAltGo, Rx.nodesL, List.length_cons]
    have h4 := q.len
    simp only [List.length_append, bFree_len, List.length_cons, List.length_nil] at h4
    have h5 := q.wt
    have w0 := wt_free (bFree (bPart a ns).1 (bPart a ns).2.2 t ++ [stF [((bPart a ns).2.1 : Int)]]) l0 (bPart a ns).1.length
    rw [wt_append] at w0
    have w1 := wt_free (bPart a ns).1 (bPart a ns).2.2 t
    have w2 : wt [stF [((bPart a ns).2.1 : Int)]] = 2 := rfl
    exact ⟨by omega, q.f, q.t, by have := p.wt; omega⟩
end
mutual
theorem plain_fit : ∀ r : Rx, r.plain = true → r.fit
  | .mk k s l, h => by
    simp only [Rx.plain, Bool.and_eq_true] at h
    simp only [Rx.fit]
    refine ⟨⟨fun hk => ?_, fun hk => ?_, fun hk => ?_⟩, plain_fitL l h.2⟩
    · subst hk; have := h.1; simp [right] at this; intro e; simp [e] at this
    · subst hk; have := h.1; simp [right] at this; intro e; simp [e] at this
    · subst hk; have := h.1; simp [right] at this; intro e; simp [e] at this
theorem plain_fitL : ∀ l : List Rx, Rx.plainL l = true → Rx.fitL l
  | [], _ => by simp [Rx.fitL]
  | r :: t, h => by
    simp only [Rx.plainL, Bool.and_eq_true] at h
    simp only [Rx.fitL]
    exact ⟨plain_fit r h.1, plain_fitL t h.2⟩
end
end Go.Proofs.YtfdgbghlanbddaaDoor.Av
set_option linter.unusedVariables false
set_option linter.unusedSimpArgs false
namespace Go.Proofs.YtfdgbghlanbddaaDoor.Av
open Go.RowKit
/-! ### the builder's rows -/
def bRow (s : St) (m : Nat × Nat) : List AV := [.int .u64 s.w0, .int .u64 s.w1, .int .u64 s.w2, .int .u64 s.w3, .int .i64 s.to, .own m.1 m.2]
def bRows (ns : List St) (ms : List (Nat × Nat)) : List (List AV) := List.zipWith bRow ns ms
def frow (l : List Int) : List (List AV) := l.map fun n => [.int .i64 n]
def ids (ib iS : Nat) (ms : List (Nat × Nat)) : List Nat := ib :: iS :: ms.map Prod.fst
structure BI (es : List Ent) (ib sb iS sS : Nat) (ms : List (Nat × Nat)) (ns : List St) : Prop where
  b : at_ es ib = some (.row sb 94 1 [[.own iS sS]])
  s : at_ es iS = some (.row sS 75 6 (bRows ns ms))
  len : ms.length = ns.length
  f : ∀ k (h1 : k < ns.length) (h2 : k < ms.length), at_ es ms[k].1 = some (.row ms[k].2 3 1 (frow ns[k].free))
  nd : (ids ib iS ms).Nodup
def BF (es : List Ent) (ib sb : Nat) (F : List Nat) (ns : List St) : Prop := ∃ iS sS ms, BI es ib sb iS sS ms ns ∧ F = ids ib iS ms
/-- From es on to es', where the builder has ns: its rows were F, are F'. -/
structure BG (es es' : List Ent) (ib sb : Nat) (F F' : List Nat) (ns : List St) : Prop where
  bf : BF es' ib sb F' ns
  keep : ∀ id, id ∉ F → id < es.length → at_ es' id = at_ es id ∧ id ∉ F'
  len : es.length ≤ es'.length
theorem BF.lt {es : List Ent} {ib sb : Nat} {F : List Nat} {ns : List St} (h : BF es ib sb F ns) : ∀ id ∈ F, id < es.length := by
  obtain ⟨iS, sS, ms, hb, rfl⟩ := h
  intro id hid
  simp only [ids, List.mem_cons, List.mem_map] at hid
  rcases hid with rfl | rfl | ⟨m, hm, rfl⟩
  · exact at_lt hb.b
  · exact at_lt hb.s
  · obtain ⟨k, hk, rfl⟩ := List.mem_iff_getElem.1 hm
    exact at_lt (hb.f k (by have := hb.len; omega) hk)
theorem BI.push {es : List Ent} {ib sb iS sS : Nat} {ms : List (Nat × Nat)} {ns : List St} (x : Ent) (h : BI es ib sb iS sS ms ns) : BI (x :: es) ib sb iS sS ms ns :=
  ⟨at_miss _ h.b, at_miss _ h.s, h.len, fun k h1 h2 => at_miss _ (h.f k h1 h2), h.nd⟩
theorem BF.push {es : List Ent} {ib sb : Nat} {F : List Nat} {ns : List St} (x : Ent) (h : BF es ib sb F ns) : BF (x :: es) ib sb F ns := by
  obtain ⟨iS, sS, ms, hb, rfl⟩ := h
  exact ⟨iS, sS, ms, hb.push x, rfl⟩
theorem at_push {es : List Ent} {id : Nat} (x : Ent) (h : id < es.length) : at_ (x :: es) id = at_ es id := by
  simp only [at_]
  rw [if_neg (by omega)]
theorem BG.refl {es : List Ent} {ib sb : Nat} {F : List Nat} {ns : List St} (h : BF es ib sb F ns) : BG es es ib sb F F ns := ⟨h, fun _ hid _ => ⟨rfl, hid⟩, Nat.le_refl _⟩
theorem BG.trans {es1 es2 es3 : List Ent} {ib sb : Nat} {F1 F2 F3 : List Nat} {n2 n3 : List St} (h : BG es1 es2 ib sb F1 F2 n2) (k : BG es2 es3 ib sb F2 F3 n3) : BG es1 es3 ib sb F1 F3 n3 := by
  refine ⟨k.bf, fun id hid hl => ?_, Nat.le_trans h.len k.len⟩
  obtain ⟨a1, a2⟩ := h.keep id hid hl
  obtain ⟨b1, b2⟩ := k.keep id a2 (Nat.lt_of_lt_of_le hl h.len)
  exact ⟨b1.trans a1, b2⟩
/-- The same, seen from below. -/
theorem BG.pop {x : Ent} {es es' : List Ent} {ib sb : Nat} {F F' : List Nat} {ns : List St} (h : BG (x :: es) es' ib sb F F' ns) : BG es es' ib sb F F' ns := by
  refine ⟨h.bf, fun id hid hl => ?_, by have := h.len; simp only [List.length_cons] at this; omega⟩
  obtain ⟨a1, a2⟩ := h.keep id hid (by simp only [List.length_cons]; omega)
  exact ⟨a1.trans (at_push x hl), a2⟩
theorem BG.top {x : Ent} {es es' : List Ent} {ib sb : Nat} {F F' : List Nat} {ns n0 : List St} (h0 : BF es ib sb F n0) (h : BG (x :: es) es' ib sb F F' ns) : at_ es' es.length = some x ∧ es.length ∉ F' := by
  obtain ⟨a1, a2⟩ := h.keep es.length (fun hm => absurd (h0.lt _ hm) (Nat.lt_irrefl _)) (by simp)
  exact ⟨a1.trans (at_hit _ _), a2⟩
/-- What is pushed on top is not the builder's. -/
theorem BG.up {es es' : List Ent} {ib sb : Nat} {F F' : List Nat} {ns : List St} (x : Ent) (h : BG es es' ib sb F F' ns) : BG es (x :: es') ib sb F F' ns := by
  refine ⟨h.bf.push x, fun id hid hl => ?_, by have := h.len; simp only [List.length_cons]; omega⟩
  obtain ⟨a1, a2⟩ := h.keep id hid hl
  exact ⟨(at_push x (Nat.lt_of_lt_of_le hl h.len)).trans a1, a2⟩
end Go.Proofs.YtfdgbghlanbddaaDoor.Av
set_option linter.unusedVariables false
set_option linter.unusedSimpArgs false
namespace Go.Proofs.YtfdgbghlanbddaaDoor.Av
open Go.RowKit
/-! ### all of the builder's rows are written no more -/
def killAll : List Nat → List Ent → List Ent
  | [], es => es
  | id :: t, es => killAll t (setAt es id .dead)
def freezeAll : List Nat → Core → Core
  | [], c => c
  | id :: t, c => freezeAll t (c.freeze id)
section
variable {P : Program} {w0 : World} {N : Nat} {ops : Array Oper} {rest : List Oper} {f : Frame} {es : List Ent} {K : Frame → List Ent → Prop}
theorem BI.rows {ib sb iS sS : Nat} {ms : List (Nat × Nat)} {ns : List St} (h : BI es ib sb iS sS ms ns) : ∀ id ∈ ids ib iS ms, ∃ s e sz rows, at_ es id = some (.row s e sz rows) := by
  intro id hid
  simp only [ids, List.mem_cons, List.mem_map] at hid
  rcases hid with rfl | rfl | ⟨m, hm, rfl⟩
  · exact ⟨_, _, _, _, h.b⟩
  · exact ⟨_, _, _, _, h.s⟩
  · obtain ⟨k, hk, rfl⟩ := List.mem_iff_getElem.1 hm
    exact ⟨_, _, _, _, h.f k (by have := h.len; omega) hk⟩
theorem sub_of {es es' : List Ent} (h : ∀ id, id < es.length → at_ es' id = at_ es id) : Sub es es' := fun id x _ hr => by rw [h id (at_lt hr)]; exact hr
end
end Go.Proofs.YtfdgbghlanbddaaDoor.Av
set_option linter.unusedVariables false
set_option linter.unusedSimpArgs false
set_option maxRecDepth 8000
namespace Go.Proofs.YtfdgbghlanbddaaDoor.Av
open Go.RowKit Go.Proofs
end Go.Proofs.YtfdgbghlanbddaaDoor.Av
set_option linter.unusedVariables false
set_option linter.unusedSimpArgs false
set_option maxRecDepth 8000
namespace Go.Proofs.YtfdgbghlanbddaaDoor.Av
open Go.RowKit Go.Proofs
/-- What part answers, of expressions that are not greater than B. -/
def PartOk (w0 : World) (B : Nat) : Prop := ∀ (r : Rx) (es : List Ent) (ib sb : Nat) (F : List Nat) (ns : List St), r.nodes ≤ B → r.fit → BF es ib sb F ns → wt ns + 8 * r.nodes ≤ 1000000000 →
  ACalls Tryd.prog w0 72 [.ptr ib sb 0 0, .agg r.cells] es fun v es' => v = .tup [.int .i64 ((bPart r ns).2.1 : Int), .int .i64 ((bPart r ns).2.2 : Int)] ∧ ∃ F', BG es es' ib sb F F' (bPart r ns).1
def lastOf : Option (Nat × Nat) → Int
  | none => -1
  | some p => p.2
end Go.Proofs.YtfdgbghlanbddaaDoor.Av
set_option linter.unusedVariables false
set_option linter.unusedSimpArgs false
set_option maxRecDepth 8000
namespace Go.Proofs.YtfdgbghlanbddaaDoor.Av
open Go.RowKit Go.Proofs
end Go.Proofs.YtfdgbghlanbddaaDoor.Av
set_option linter.unusedVariables false
set_option linter.unusedSimpArgs false
set_option maxRecDepth 8000
namespace Go.Proofs.YtfdgbghlanbddaaDoor.Av
open Go.RowKit Go.Proofs
/-- The machine of an expression, if it may be. -/
def buildN (r : Rx) : Nf := if mayR r = 0 then ⟨(bPart r []).1, ((bPart r []).2.1 : Int), ((bPart r []).2.2 : Int)⟩ else ⟨[], 0, 0⟩
end Go.Proofs.YtfdgbghlanbddaaDoor.Av
set_option linter.unusedVariables false
set_option linter.unusedSimpArgs false
namespace Go.Proofs.YtfdgbghlanbddaaDoor.Av
/-! ### expressions out of numbers -/
def starN : Nat → Rx → Rx
  | 0, r => r
  | n + 1, r => if r.kind = 6 then r else if r.kind = 1 ∨ r.kind = 2 then emptyR else if r.kind = 5 ∧ (catOuts r.args).length < r.args.length then starN n (altR (catOuts r.args)) else .mk 6 noSet [r]
def starR (r : Rx) : Rx := starN 2000 r
/-- The next number, and what is left. -/
def num (m : Int) (q : List Int) : Int := (q.headD 0) % m
def rangeW (a b : Int) : W4 := ofW (((List.range 256).filter fun i : Nat => decide (a ≤ (i : Int)) && decide ((i : Int) ≤ b)).map Int.ofNat)
def notW (s : W4) : W4 := ofW (((List.range 256).filter fun i => !(s.has i)).map Int.ofNat)
def pSet (q : List Int) : W4 × List Int :=
  if num 8 q = 0 then (rangeW 97 100, q.tail)
  else if num 8 q = 1 then (rangeW (num 256 q.tail) (num 256 q.tail.tail), q.tail.tail.tail)
  else if num 8 q = 2 then (notW (ofW [97 + num 4 q.tail]), q.tail.tail)
  else if num 8 q = 3 then (ofW [97 + num 4 q.tail, 97 + num 4 q.tail.tail, num 256 q.tail.tail.tail], q.tail.tail.tail.tail)
  else if num 8 q = 4 then (rangeW 0 255, q.tail)
  else (ofW [97 + num 4 q.tail], q.tail.tail)
def pLeaf (k : Int) (q : List Int) : Rx × List Int :=
  if q = [] ∨ 0 < k then (bytesR (pSet q).1, (pSet q).2) else (if num 3 q = 0 then noneR else emptyR, q.tail)
def pRx : Nat → List Int → Rx × List Int
  | 0, q => pLeaf (num 9 q) q.tail
  | f + 1, q =>
    if q.tail = [] ∨ num 9 q < 3 then pLeaf (num 9 q) q.tail
    else if num 9 q = 3 ∨ num 9 q = 4 ∨ num 9 q = 5 then (catR [(pRx f q.tail).1, (pRx f (pRx f q.tail).2).1], (pRx f (pRx f q.tail).2).2)
    else if num 9 q = 6 ∨ num 9 q = 7 then (altR [(pRx f q.tail).1, (pRx f (pRx f q.tail).2).1], (pRx f (pRx f q.tail).2).2)
    else (starR (pRx f q.tail).1, (pRx f q.tail).2)
def pByte (q : List Int) : Int × List Int := if num 8 q = 0 then (num 256 q.tail, q.tail.tail) else (97 + num 4 q.tail, q.tail.tail)
def pWordGo : Nat → List Int → List Int
  | 0, _ => []
  | n + 1, q => (pByte q).1 :: pWordGo n (pByte q).2
def pWordQ : Nat → List Int → List Int
  | 0, q => q
  | n + 1, q => pWordQ n (pByte q).2
def pWord (most : Nat) (q : List Int) : List Int := pWordGo (num (most + 1) q).toNat q.tail
def bytesOk (l : List Int) : Prop := ∀ b ∈ l, 0 ≤ b ∧ b < 256
theorem bytesOk.tail {q : List Int} (h : bytesOk q) : bytesOk q.tail := fun b hb => h b (List.mem_of_mem_tail hb)
end Go.Proofs.YtfdgbghlanbddaaDoor.Av
set_option linter.unusedVariables false
set_option linter.unusedSimpArgs false
set_option maxRecDepth 8000
namespace Go.Proofs.YtfdgbghlanbddaaDoor.Av
open Go.RowKit Go.Proofs
def boolT (p : Nat → Bool) : List AV := (List.range 256).map fun i => .bool (p i)
end Go.Proofs.YtfdgbghlanbddaaDoor.Av
set_option linter.unusedVariables false
set_option linter.unusedSimpArgs false
set_option maxRecDepth 8000
namespace Go.Proofs.YtfdgbghlanbddaaDoor.Av
open Go.RowKit Go.Proofs
/-- The numbers that are left. -/
def PK (es : List Ent) (ip sp : Nat) (q : List Int) : Prop := ∃ (l : List Int) (n : Nat), n ≤ l.length ∧ q = l.drop n ∧ bytesOk l ∧ l.length ≤ 1000000 ∧ at_ es ip = some (.row sp 89 2 [[bytesAV l, .int .i64 (n : Int)]])
theorem PK.lt {es : List Ent} {ip sp : Nat} {q : List Int} (h : PK es ip sp q) : ip < es.length := by
  obtain ⟨_, _, _, _, _, _, h⟩ := h
  exact at_lt h
theorem PK.push {es : List Ent} {ip sp : Nat} {q : List Int} (x : Ent) (h : PK es ip sp q) : PK (x :: es) ip sp q := by
  obtain ⟨l, n, h1, h2, h3, h4, h5⟩ := h
  exact ⟨l, n, h1, h2, h3, h4, at_miss _ h5⟩
theorem PK.bytes {es : List Ent} {ip sp : Nat} {q : List Int} (h : PK es ip sp q) : bytesOk q := by
  obtain ⟨l, n, _, rfl, h3, _, _⟩ := h
  exact fun b hb => h3 b (List.mem_of_mem_drop hb)
/-- From es on to es': all else is al' it was. -/
def PG (es es' : List Ent) (ip sp : Nat) (q : List Int) : Prop := PK es' ip sp q ∧ (∀ id, id ≠ ip → id < es.length → at_ es' id = at_ es id) ∧ es.length ≤ es'.length
theorem PG.refl {es : List Ent} {ip sp : Nat} {q : List Int} (h : PK es ip sp q) : PG es es ip sp q := ⟨h, fun _ _ _ => rfl, Nat.le_refl _⟩
theorem PG.trans {a b c : List Ent} {ip sp : Nat} {q1 q2 : List Int} (h : PG a b ip sp q1) (k : PG b c ip sp q2) : PG a c ip sp q2 :=
  ⟨k.1, fun id h1 h2 => (k.2.1 id h1 (Nat.lt_of_lt_of_le h2 h.2.2)).trans (h.2.1 id h1 h2), Nat.le_trans h.2.2 k.2.2⟩
theorem PG.pop {x : Ent} {es es' : List Ent} {ip sp : Nat} {q : List Int} (h : PG (x :: es) es' ip sp q) (hl : ip < es.length) : PG es es' ip sp q :=
  ⟨h.1, fun id h1 h2 => (h.2.1 id h1 (by simp only [List.length_cons]; omega)).trans (at_push x h2), by have := h.2.2; simp only [List.length_cons] at this; omega⟩
theorem PG.top {x : Ent} {es es' : List Ent} {ip sp : Nat} {q : List Int} (h : PG (x :: es) es' ip sp q) (hl : ip < es.length) : at_ es' es.length = some x :=
  (h.2.1 es.length (by omega) (by simp)).trans (at_hit _ _)
theorem PG.put {es es' : List Ent} {ip sp : Nat} {q : List Int} (h : PG es es' ip sp q) {id : Nat} (hid : es.length ≤ id) (y : Ent) (hl : ip < es.length := by omega) : PG es (setAt es' id y) ip sp q := by
  obtain ⟨⟨l, n, h1, h2, h3, h4, h5⟩, h6, h7⟩ := h
  exact ⟨⟨l, n, h1, h2, h3, h4, by rw [at_setAt_ne _ (by omega)]; exact h5⟩, fun i hi1 hi2 => by rw [at_setAt_ne _ (by omega)]; exact h6 i hi1 hi2, by rw [setAt_len]; exact h7⟩
theorem PG.up {es es' : List Ent} {ip sp : Nat} {q : List Int} (x : Ent) (h : PG es es' ip sp q) : PG es (x :: es') ip sp q :=
  ⟨h.1.push x, fun id h1 h2 => (at_push x (Nat.lt_of_lt_of_le h2 h.2.2)).trans (h.2.1 id h1 h2), by have := h.2.2; simp only [List.length_cons]; omega⟩
end Go.Proofs.YtfdgbghlanbddaaDoor.Av
set_option linter.unusedVariables false
set_option linter.unusedSimpArgs false
set_option maxRecDepth 8000
namespace Go.Proofs.YtfdgbghlanbddaaDoor.Av
open Go.RowKit Go.Proofs
end Go.Proofs.YtfdgbghlanbddaaDoor.Av
set_option linter.unusedVariables false
set_option linter.unusedSimpArgs false
namespace Go.Proofs.YtfdgbghlanbddaaDoor.Av
/-! ### the words of an expression -/
inductive Star (P : List Int → Prop) : List Int → Prop
  | nil : Star P []
  | cons {u v : List Int} : P u → Star P v → Star P (u ++ v)
def W4.hasI (s : W4) (b : Int) : Bool := hasW s.w0 s.w1 s.w2 s.w3 b
mutual
def Rx.lang : Rx → List Int → Prop
  | .mk k s l => fun w => (k = 2 ∧ w = []) ∨ (k = 3 ∧ ∃ b, w = [b] ∧ s.hasI b = true) ∨ (k = 4 ∧ Rx.langCat l w) ∨ (k = 5 ∧ Rx.langAlt l w) ∨ (k = 6 ∧ Star (Rx.langOne l) w)
def Rx.langCat : List Rx → List Int → Prop
  | [] => fun w => w = []
  | a :: t => fun w => ∃ u v, w = u ++ v ∧ a.lang u ∧ Rx.langCat t v
def Rx.langAlt : List Rx → List Int → Prop
  | [] => fun _ => False
  | a :: t => fun w => a.lang w ∨ Rx.langAlt t w
def Rx.langOne : List Rx → List Int → Prop
  | [] => fun _ => False
  | a :: t => fun w => t = [] ∧ a.lang w
end
theorem lang_eq (r : Rx) (w : List Int) : r.lang w ↔ (r.kind = 2 ∧ w = []) ∨ (r.kind = 3 ∧ ∃ b, w = [b] ∧ r.set.hasI b = true) ∨ (r.kind = 4 ∧ Rx.langCat r.args w) ∨ (r.kind = 5 ∧ Rx.langAlt r.args w) ∨ (r.kind = 6 ∧ Star (Rx.langOne r.args) w) := by
  cases r
  rw [Rx.lang]
  rfl
theorem langCat_nil (w : List Int) : Rx.langCat [] w ↔ w = [] := by rw [Rx.langCat]
theorem langCat_cons (a : Rx) (t : List Rx) (w : List Int) : Rx.langCat (a :: t) w ↔ ∃ u v, w = u ++ v ∧ a.lang u ∧ Rx.langCat t v := by rw [Rx.langCat]
theorem langAlt_nil (w : List Int) : ¬ Rx.langAlt [] w := by rw [Rx.langAlt]; exact fun h => h
theorem langAlt_cons (a : Rx) (t : List Rx) (w : List Int) : Rx.langAlt (a :: t) w ↔ a.lang w ∨ Rx.langAlt t w := by rw [Rx.langAlt]
theorem langOne_iff {l : List Rx} {w : List Int} : Rx.langOne l w ↔ ∃ a, l = [a] ∧ a.lang w := by
  match l with
  | [] => rw [Rx.langOne]; simp
  | a :: t =>
    rw [Rx.langOne]
    constructor
    · rintro ⟨rfl, h⟩; exact ⟨a, rfl, h⟩
    · rintro ⟨b, h, h2⟩
      simp only [List.cons.injEq] at h
      obtain ⟨rfl, rfl⟩ := h
      exact ⟨rfl, h2⟩
theorem kind_2 {r : Rx} (h : r.kind = 2) : ∀ x, r.lang x ↔ x = [] := fun x => by rw [lang_eq, h]; simp
theorem kind_3 {r : Rx} (h : r.kind = 3) : ∀ x, r.lang x ↔ ∃ c, x = [c] ∧ r.set.hasI c = true := fun x => by rw [lang_eq, h]; simp
theorem kind_4 {r : Rx} (h : r.kind = 4) : ∀ x, r.lang x ↔ Rx.langCat r.args x := fun x => by rw [lang_eq, h]; simp
theorem kind_5 {r : Rx} (h : r.kind = 5) : ∀ x, Rx.langAlt r.args x ↔ r.lang x := fun x => by rw [lang_eq, h]; simp
theorem kind_6 {r : Rx} (h : r.kind = 6) : ∀ x, r.lang x ↔ Star (Rx.langOne r.args) x := fun x => by rw [lang_eq, h]; simp
theorem kind_0 {r : Rx} (h : ¬ r.kind = 2 ∧ ¬ r.kind = 3 ∧ ¬ r.kind = 4 ∧ ¬ r.kind = 5 ∧ ¬ r.kind = 6) : ∀ x, ¬ r.lang x := fun x => by rw [lang_eq]; simp [h]
/-! ### parts of a word -/
/-- From place i on to place j. -/
def sl (w : List Int) (i j : Nat) : List Int := (w.take j).drop i
/-! ### any number of words, place by place -/
inductive SR (P : List Int → Prop) (w : List Int) (i : Nat) : Nat → Prop
  | base : SR P w i i
  | step {j k : Nat} : SR P w i j → j < k → k ≤ w.length → P (sl w j k) → SR P w i k
theorem SR.le {P : List Int → Prop} {w : List Int} {i k : Nat} (h : SR P w i k) : i ≤ k := by
  induction h with
  | base => exact Nat.le_refl _
  | step _ h _ _ ih => omega
/-! ### tables -/
def tabOf (n : Nat) (p : Nat → Nat → Bool) : List (List Bool) := (List.range n).map fun i => (List.range n).map fun j => p i j
open Classical in
noncomputable def langP (L : List Int → Prop) (w : List Int) (i j : Nat) : Bool := decide (i ≤ j ∧ L (sl w i j))
/-- Where words of an expression lie in w. -/
noncomputable def spansT (r : Rx) (w : List Int) : List (List Bool) := tabOf (w.length + 1) (langP r.lang w)
/-- One behind the other. -/
def behindP (p q : Nat → Nat → Bool) (i k : Nat) : Bool := (List.range (k + 1)).any fun j => decide (i ≤ j) && p i j && q j k
end Go.Proofs.YtfdgbghlanbddaaDoor.Av
set_option linter.unusedVariables false
set_option linter.unusedSimpArgs false
namespace Go.Proofs.YtfdgbghlanbddaaDoor.Av
open Go.RowKit
/-! ### tables that are being written -/
def bools (l : List Bool) : List (List AV) := l.map fun b => [.bool b]
def boolRow (n : Nat) (q : Nat → Bool) : List (List AV) := bools ((List.range n).map q)
def tabAV (T : List (List Bool)) : AV := .list 1 (T.map fun r => [.list 1 (bools r)])
def tRows (ms : List (Nat × Nat)) (n : Nat) : List (List AV) := ms.map (fun m => [AV.own m.1 m.2]) ++ List.replicate (n - ms.length) [AV.nil]
structure TP (es : List Ent) (lo it st : Nat) (ms : List (Nat × Nat)) (n : Nat) (p : Nat → Nat → Bool) : Prop where
  t : at_ es it = some (.row st 60 1 (tRows ms n))
  r : ∀ i (h : i < ms.length), at_ es ms[i].1 = some (.row ms[i].2 4 1 (boolRow n (p i)))
  lt : ms.length ≤ n
  nd : (it :: ms.map Prod.fst).Nodup
  lo : ∀ id ∈ it :: ms.map Prod.fst, lo ≤ id
/-- What lies below is al' it was. -/
def KB (base es : List Ent) : Prop := (∀ id, id < base.length → at_ es id = at_ base id) ∧ base.length ≤ es.length
theorem KB.refl (es : List Ent) : KB es es := ⟨fun _ _ => rfl, Nat.le_refl _⟩
theorem KB.trans {a b c : List Ent} (h : KB a b) (k : KB b c) : KB a c := ⟨fun id hi => (k.1 id (Nat.lt_of_lt_of_le hi h.2)).trans (h.1 id hi), Nat.le_trans h.2 k.2⟩
theorem KB.push {base es : List Ent} (x : Ent) (h : KB base es) : KB base (x :: es) := ⟨fun id hi => (at_push x (Nat.lt_of_lt_of_le hi h.2)).trans (h.1 id hi), by have := h.2; simp only [List.length_cons]; omega⟩
theorem KB.put {base es : List Ent} (h : KB base es) {id : Nat} (hid : base.length ≤ id) (y : Ent) : KB base (setAt es id y) := ⟨fun i hi => (at_setAt_ne y (by omega)).trans (h.1 i hi), by rw [setAt_len]; exact h.2⟩
theorem KB.pop {x : Ent} {es es2 : List Ent} (h : KB (x :: es) es2) : KB es es2 :=
  ⟨fun i hi => (h.1 i (by simp only [List.length_cons]; omega)).trans (at_push _ hi), by have := h.2; simp only [List.length_cons] at this; omega⟩
theorem KB.sub {base es : List Ent} (h : KB base es) : Sub base es := sub_of h.1
theorem TP.push {es : List Ent} {lo it st n : Nat} {ms : List (Nat × Nat)} {p : Nat → Nat → Bool} (x : Ent) (h : TP es lo it st ms n p) : TP (x :: es) lo it st ms n p :=
  ⟨at_miss _ h.t, fun i hi => at_miss _ (h.r i hi), h.lt, h.nd, h.lo⟩
section
variable {P : Program} {w0 : World} {N : Nat} {f : Frame} {base es : List Ent} {K : Exit → Frame → List Ent → Prop}
end
end Go.Proofs.YtfdgbghlanbddaaDoor.Av
set_option linter.unusedVariables false
set_option linter.unusedSimpArgs false
set_option maxRecDepth 8000
namespace Go.Proofs.YtfdgbghlanbddaaDoor.Av
open Go.RowKit Go.Proofs
def jp (p q : Nat → Nat → Bool) (i j a b : Nat) : Bool := if a < i ∨ (a = i ∧ b < j) then p a b || q a b else p a b
/-- What row i has when the ways through places ahead of j are laid, and those through j up to k. -/
def bq (p q : Nat → Nat → Bool) (i j k x : Nat) : Bool := ((List.range j).any fun m => decide (i ≤ m) && decide (m ≤ x) && p i m && q m x) || (p i j && decide (j ≤ x) && decide (x < k) && q j x)
end Go.Proofs.YtfdgbghlanbddaaDoor.Av
set_option linter.unusedVariables false
set_option linter.unusedSimpArgs false
namespace Go.Proofs.YtfdgbghlanbddaaDoor.Av
open Go.RowKit
section
variable {P : Program} {w0 : World} {N : Nat} {f : Frame} {base es : List Ent} {K : Exit → Frame → List Ent → Prop}
end
/-! ### the empty word, one byte -/
def dg (i a b : Nat) : Bool := decide (a = b) && decide (a < i)
def sg (s : W4) (w : List Int) (i a b : Nat) : Bool := decide (b = a + 1) && decide (a < i) && s.hasI (w.getD a 0)
/-! ### alternatives, one behind the other -/
/-! ### any number -/
open Classical in
noncomputable def sjb (P : List Int → Prop) (w : List Int) (i j b : Nat) : Bool := decide (b = i ∨ ∃ m, i ≤ m ∧ m < j ∧ m < b ∧ SR P w i m ∧ P (sl w m b))
noncomputable def sk (P : List Int → Prop) (w : List Int) (i j k b : Nat) : Bool := sjb P w i j b || (decide (j < b) && decide (b < k) && sjb P w i j j && langP P w j b)
/-- The table when rows ahead of i are done, and row i by q. -/
noncomputable def rowI (P : List Int → Prop) (w : List Int) (i : Nat) (q : Nat → Bool) (a b : Nat) : Bool := if a < i then langP (Star P) w a b else if a = i then q b else false
/-- The table of the starred one: empty rows, if there is not just one. -/
noncomputable def rowO (one : Bool) (P : List Int → Prop) (w : List Int) (n j : Nat) : List Bool := if one = true then (List.range n).map (langP P w j) else []
noncomputable def tabO (one : Bool) (P : List Int → Prop) (w : List Int) (n : Nat) : List (List Bool) := (List.range n).map (rowO one P w n)
end Go.Proofs.YtfdgbghlanbddaaDoor.Av
set_option linter.unusedVariables false
set_option linter.unusedSimpArgs false
set_option maxRecDepth 8000
namespace Go.Proofs.YtfdgbghlanbddaaDoor.Av
open Go.RowKit Go.Proofs
open Classical in
noncomputable def inR (r : Rx) (w : List Int) : Bool := decide (r.lang w)
end Go.Proofs.YtfdgbghlanbddaaDoor.Av
set_option linter.unusedVariables false
set_option linter.unusedSimpArgs false
namespace Go.Proofs.YtfdgbghlanbddaaDoor.Av
/-! ### what the machine of an expression runs -/
/-- From a state to t, come to for the first time. -/
inductive PathTo (M : List St) (t : Nat) : Nat → List Int → Prop
  | done : PathTo M t t []
  | eps {i j : Nat} {w : List Int} {s : St} : M[i]? = some s → i ≠ t → (j : Int) ∈ s.free → PathTo M t j w → PathTo M t i w
  | byte {i j : Nat} {b : Int} {w : List Int} {s : St} : M[i]? = some s → i ≠ t → s.to = (j : Int) → s.has b = true → PathTo M t j w → PathTo M t i (b :: w)
def edgeIn (s : St) (P : Nat → Prop) : Prop := (∀ x ∈ s.free, ∃ j : Nat, x = (j : Int) ∧ P j) ∧ (s.to = -1 ∨ ∃ j : Nat, s.to = (j : Int) ∧ P j)
theorem edgeIn.mono {s : St} {P Q : Nat → Prop} (h : edgeIn s P) (k : ∀ j, P j → Q j) : edgeIn s Q :=
  ⟨fun x hx => (h.1 x hx).elim fun j hj => ⟨j, hj.1, k j hj.2⟩, h.2.elim .inl fun ⟨j, h1, h2⟩ => .inr ⟨j, h1, k j h2⟩⟩
structure Frag (M : List St) (a b f t : Nat) (L : List Int → Prop) : Prop where
  hf : a ≤ f ∧ f < b
  ht : a ≤ t ∧ t < b
  hb : b ≤ M.length
  cl : ∀ i s, M[i]? = some s → a ≤ i → i < b → i ≠ t → edgeIn s fun j => a ≤ j ∧ j < b
  la : ∀ w, PathTo M t f w ↔ L w
theorem path_agree {M M' : List St} {a b t : Nat} (cl : ∀ i s, M[i]? = some s → a ≤ i → i < b → i ≠ t → edgeIn s fun j => a ≤ j ∧ j < b) (e : ∀ i, a ≤ i → i < b → i ≠ t → M'[i]? = M[i]?) {i : Nat} {w : List Int} (h : PathTo M t i w) (h1 : a ≤ i) (h2 : i < b) : PathTo M' t i w := by
  induction h with
  | done => exact .done
  | @eps i j w s hs ht hm _ ih =>
    obtain ⟨k, e1, e2⟩ := (cl _ s hs h1 h2 ht).1 _ hm
    have : j = k := by omega
    subst this
    exact .eps (by rw [e _ h1 h2 ht]; exact hs) ht hm (ih e2.1 e2.2)
  | @byte i j b w s hs ht hm hh _ ih =>
    rcases (cl _ s hs h1 h2 ht).2 with e1 | ⟨k, e1, e2⟩
    · rw [hm] at e1; omega
    · have : j = k := by omega
      subst this
      exact .byte (by rw [e _ h1 h2 ht]; exact hs) ht hm hh (ih e2.1 e2.2)
theorem Frag.agree {M M' : List St} {a b f t : Nat} {L : List Int → Prop} (h : Frag M a b f t L) (hl : b ≤ M'.length) (e : ∀ i, a ≤ i → i < b → i ≠ t → M'[i]? = M[i]?) : Frag M' a b f t L := by
  have cl' : ∀ i s, M'[i]? = some s → a ≤ i → i < b → i ≠ t → edgeIn s fun j => a ≤ j ∧ j < b := fun i s hs h1 h2 h3 => h.cl i s (by rw [← e i h1 h2 h3]; exact hs) h1 h2 h3
  refine ⟨h.hf, h.ht, hl, cl', fun w => ?_⟩
  rw [← h.la]
  exact ⟨fun k => path_agree cl' (fun i h1 h2 h3 => (e i h1 h2 h3).symm) k h.hf.1 h.hf.2, fun k => path_agree h.cl e k h.hf.1 h.hf.2⟩
/-- On from a fragment's end. -/
theorem path_app {M : List St} {m t : Nat} {i : Nat} {u v : List Int} (h : PathTo M m i u) (k : PathTo M t m v) {P : Nat → Prop} (hp : ∀ i, P i → i ≠ m → i ≠ t) (hc : ∀ i s, M[i]? = some s → P i → i ≠ m → edgeIn s P) (hi : P i) : PathTo M t i (u ++ v) := by
  induction h with
  | done => exact k
  | @eps i j w s hs ht hm _ ih =>
    obtain ⟨x, e1, e2⟩ := (hc _ s hs hi ht).1 _ hm
    have : j = x := by omega
    subst this
    exact .eps hs (hp _ hi ht) hm (ih e2)
  | @byte i j b w s hs ht hm hh _ ih =>
    rcases (hc _ s hs hi ht).2 with e1 | ⟨x, e1, e2⟩
    · rw [hm] at e1; omega
    · have : j = x := by omega
      subst this
      exact .byte hs (hp _ hi ht) hm hh (ih e2)
/-- Whoever leaves a fragment comes by its end. -/
theorem path_cut {M : List St} {m t : Nat} {i : Nat} {w : List Int} (h : PathTo M t i w) {P : Nat → Prop} (hp : ∀ i, P i → i ≠ t) (hc : ∀ i s, M[i]? = some s → P i → i ≠ m → edgeIn s P) (hi : P i) : ∃ u v, w = u ++ v ∧ PathTo M m i u ∧ PathTo M t m v := by
  induction h with
  | done => exact absurd rfl (hp _ hi)
  | @eps i j w s hs ht hm hk ih =>
    by_cases him : i = m
    · subst him
      exact ⟨[], w, rfl, .done, .eps hs ht hm hk⟩
    · obtain ⟨x, e1, e2⟩ := (hc _ s hs hi him).1 _ hm
      have : j = x := by omega
      subst this
      obtain ⟨u, v, h1, h2, h3⟩ := ih e2
      exact ⟨u, v, h1, .eps hs him hm h2, h3⟩
  | @byte i j b w s hs ht hm hh hk ih =>
    by_cases him : i = m
    · subst him
      exact ⟨[], b :: w, rfl, .done, .byte hs ht hm hh hk⟩
    · rcases (hc _ s hs hi him).2 with e1 | ⟨x, e1, e2⟩
      · rw [hm] at e1; omega
      · have : j = x := by omega
        subst this
        obtain ⟨u, v, h1, h2, h3⟩ := ih e2
        exact ⟨b :: u, v, by rw [h1]; rfl, .byte hs him hm hh h2, h3⟩
/-- From a state that has ways alone. -/
theorem path_free {M : List St} {t i : Nat} {s : St} {w : List Int} (hs : M[i]? = some s) (ht : i ≠ t) (hto : s.to = -1) : PathTo M t i w ↔ ∃ j : Nat, (j : Int) ∈ s.free ∧ PathTo M t j w := by
  constructor
  · intro h
    cases h with
    | done => exact absurd rfl ht
    | @eps _ j _ s' hs' _ hm hk =>
      rw [hs] at hs'
      injection hs' with hs'
      subst hs'
      exact ⟨j, hm, hk⟩
    | @byte _ j _ _ s' hs' _ hm _ _ =>
      rw [hs] at hs'
      injection hs' with hs'
      subst hs'
      rw [hto] at hm; omega
  · rintro ⟨j, h1, h2⟩
    exact .eps hs ht h1 h2
theorem path_end {M : List St} {t : Nat} {w : List Int} (h : PathTo M t t w) : w = [] := by
  cases h with
  | done => rfl
  | eps _ hne _ _ => exact absurd rfl hne
  | byte _ hne _ _ _ => exact absurd rfl hne
theorem path_inv {M : List St} {t i : Nat} {s : St} {w : List Int} (h : PathTo M t i w) (ht : i ≠ t) (hs : M[i]? = some s) : (∃ j : Nat, (j : Int) ∈ s.free ∧ PathTo M t j w) ∨ ∃ (j : Nat) (b : Int) (v : List Int), w = b :: v ∧ s.to = (j : Int) ∧ s.has b = true ∧ PathTo M t j v := by
  cases h with
  | done => exact absurd rfl ht
  | @eps _ j _ s' hs' _ hm hk =>
    rw [hs] at hs'
    injection hs' with hs'
    subst hs'
    exact .inl ⟨j, hm, hk⟩
  | @byte _ j b v s' hs' _ hm hh hk =>
    rw [hs] at hs'
    injection hs' with hs'
    subst hs'
    exact .inr ⟨j, b, v, rfl, hm, hh, hk⟩
/-! ### pieces -/
theorem bFree_get {ns : List St} {i j k : Nat} : (bFree ns i j)[k]? = if k = i then (ns[k]?).map (addFree · j) else ns[k]? := by
  by_cases h : i < ns.length
  · rw [bFree_eq h, List.getElem?_set]
    by_cases hk : k = i
    · subst hk
      rw [if_pos rfl, if_pos h, if_pos rfl, List.getElem?_eq_getElem h]
      rfl
    · rw [if_neg (Ne.symm hk), if_neg hk]
  · have e : bFree ns i j = ns := by
      unfold bFree
      rw [List.getElem?_eq_none (show ns.length ≤ i by omega)]
    rw [e]
    by_cases hk : k = i
    · subst hk
      rw [if_pos rfl, List.getElem?_eq_none (by omega)]
      rfl
    · rw [if_neg hk]
structure Part (ns : List St) (p : List St × Nat × Nat) (L : List Int → Prop) : Prop where
  len : ns.length ≤ p.1.length
  old : ∀ i, i < ns.length → p.1[i]? = ns[i]?
  frag : Frag p.1 ns.length p.1.length p.2.1 p.2.2 L
  out : ∃ s, p.1[p.2.2]? = some s ∧ s.free = [] ∧ s.to = -1
  few : ∀ i s, p.1[i]? = some s → ns.length ≤ i → s.free.length ≤ 2
theorem get_lt {M : List St} {i : Nat} {s : St} (h : M[i]? = some s) : i < M.length := (List.getElem?_eq_some_iff.1 h).1
theorem app_old {a b : List St} {i : Nat} (h : i < a.length) : (a ++ b)[i]? = a[i]? := List.getElem?_append_left h
theorem app_0 {a : List St} {x : St} {t : List St} : (a ++ x :: t)[a.length]? = some x := by rw [List.getElem?_append_right (Nat.le_refl _)]; simp
theorem app_1 {a : List St} {x y : St} {t : List St} : (a ++ x :: y :: t)[a.length + 1]? = some y := by rw [List.getElem?_append_right (by omega)]; simp
/-- Three cases of a place in a list that was lengthened by two. -/
theorem app_two {a : List St} {x y s : St} {i : Nat} (h : (a ++ [x, y])[i]? = some s) (hi : a.length ≤ i) : (i = a.length ∧ s = x) ∨ (i = a.length + 1 ∧ s = y) := by
  have hl := get_lt h
  simp at hl
  by_cases h1 : i = a.length
  · subst h1; rw [app_0] at h; injection h with h; exact .inl ⟨rfl, h.symm⟩
  · have h2 : i = a.length + 1 := by omega
    subst h2; rw [app_1] at h; injection h with h; exact .inr ⟨rfl, h.symm⟩
theorem part_set (s : W4) (ns : List St) : Part ns (ns ++ [st0, ⟨s.w0, s.w1, s.w2, s.w3, (ns.length : Int), []⟩], ns.length + 1, ns.length) fun w => ∃ b, w = [b] ∧ s.hasI b = true := by
  have h1 : (ns ++ [st0, ⟨s.w0, s.w1, s.w2, s.w3, (ns.length : Int), []⟩])[ns.length + 1]? = some ⟨s.w0, s.w1, s.w2, s.w3, (ns.length : Int), []⟩ := app_1
  refine ⟨by simp, fun i hi => app_old hi, ⟨by simp, by simp, by simp, fun i x hx h2 h3 h4 => ?_, fun w => ?_⟩, ⟨st0, app_0, rfl, rfl⟩, fun i x hx h2 => ?_⟩
  · rcases app_two hx h2 with ⟨h5, _⟩ | ⟨h5, h6⟩
    · exact absurd h5 h4
    · subst h6
      exact ⟨fun y hy => by simp at hy, .inr ⟨ns.length, rfl, by simp⟩⟩
  · constructor
    · intro h
      rcases path_inv h (by dsimp only; omega) h1 with ⟨j, hj, _⟩ | ⟨j, b, v, rfl, hj, hb, hk⟩
      · simp at hj
      · have : j = ns.length := by simp at hj; omega
        subst this
        have := path_end hk
        subst this
        exact ⟨b, rfl, hb⟩
    · rintro ⟨b, rfl, hb⟩
      exact .byte h1 (by dsimp only; omega) rfl hb .done
  · rcases app_two hx h2 with ⟨_, h6⟩ | ⟨_, h6⟩ <;> (subst h6; simp [st0, stF])
theorem part_none (ns : List St) : Part ns (ns ++ [st0, st0], ns.length, ns.length + 1) fun _ => False := by
  have h1 : (ns ++ [st0, st0])[ns.length]? = some st0 := app_0
  refine ⟨by simp, fun i hi => app_old hi, ⟨by simp, by simp, by simp, fun i x hx h2 h3 h4 => ?_, fun w => ?_⟩, ⟨st0, app_1, rfl, rfl⟩, fun i x hx h2 => ?_⟩
  · rcases app_two hx h2 with ⟨_, h6⟩ | ⟨_, h6⟩ <;> (subst h6; exact ⟨fun y hy => by simp [st0, stF] at hy, .inl rfl⟩)
  · dsimp only
    rw [path_free h1 (by omega) rfl]
    simp [st0, stF]
  · rcases app_two hx h2 with ⟨_, h6⟩ | ⟨_, h6⟩ <;> (subst h6; simp [st0, stF])
theorem part_empty (ns : List St) : Part ns (bFree (ns ++ [st0, st0]) ns.length (ns.length + 1), ns.length, ns.length + 1) fun w => w = [] := by
  have hl : (bFree (ns ++ [st0, st0]) ns.length (ns.length + 1)).length = ns.length + 2 := by rw [bFree_len]; simp
  have h0 : (bFree (ns ++ [st0, st0]) ns.length (ns.length + 1))[ns.length]? = some (addFree st0 (ns.length + 1)) := by rw [bFree_get, if_pos rfl, app_0]; rfl
  have h1 : (bFree (ns ++ [st0, st0]) ns.length (ns.length + 1))[ns.length + 1]? = some st0 := by rw [bFree_get, if_neg (by omega), app_1]
  have two : ∀ i x, (bFree (ns ++ [st0, st0]) ns.length (ns.length + 1))[i]? = some x → ns.length ≤ i → (i = ns.length ∧ x = addFree st0 (ns.length + 1)) ∨ (i = ns.length + 1 ∧ x = st0) := by
    intro i x hx hi
    have := get_lt hx
    by_cases h : i = ns.length
    · subst h; rw [h0] at hx; injection hx with hx; exact .inl ⟨rfl, hx.symm⟩
    · have h2 : i = ns.length + 1 := by omega
      subst h2; rw [h1] at hx; injection hx with hx; exact .inr ⟨rfl, hx.symm⟩
  refine ⟨by dsimp only; omega, fun i hi => ?_, ⟨by dsimp only; omega, by dsimp only; omega, Nat.le_refl _, fun i x hx h2 h3 h4 => ?_, fun w => ?_⟩, ⟨st0, h1, rfl, rfl⟩, fun i x hx h2 => ?_⟩
  · dsimp only; rw [bFree_get, if_neg (by omega), app_old hi]
  · rcases two i x hx h2 with ⟨_, h6⟩ | ⟨h5, h6⟩
    · subst h6
      refine ⟨fun y hy => ?_, .inl rfl⟩
      simp [addFree, st0, stF] at hy
      exact ⟨ns.length + 1, hy, by omega, by dsimp only; omega⟩
    · exact absurd h5 h4
  · dsimp only
    rw [path_free h0 (by omega) rfl]
    constructor
    · rintro ⟨j, hj, hk⟩
      simp [addFree, st0, stF] at hj
      have : j = ns.length + 1 := by omega
      subst this
      exact path_end hk
    · rintro rfl
      exact ⟨ns.length + 1, by simp [addFree, st0, stF], .done⟩
  · rcases two i x hx h2 with ⟨_, h6⟩ | ⟨_, h6⟩ <;> (subst h6; simp [addFree, st0, stF])
theorem Part.congr {ns : List St} {p : List St × Nat × Nat} {L L' : List Int → Prop} (h : Part ns p L) (e : ∀ w, L w ↔ L' w) : Part ns p L' :=
  ⟨h.len, h.old, ⟨h.frag.hf, h.frag.ht, h.frag.hb, h.frag.cl, fun w => (h.frag.la w).trans (e w)⟩, h.out, h.few⟩
end Go.Proofs.YtfdgbghlanbddaaDoor.Av
