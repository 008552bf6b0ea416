import Derived.Test.YtfdgbghlanbddaaDoorAvLaw8
import Derived.Test.YtfdgbghlanbddaaDoorAvG8
set_option linter.unusedVariables false
set_option linter.unusedSimpArgs false
set_option maxRecDepth 8000
namespace Go.Proofs.YtfdgbghlanbddaaDoor.Av
open Go.RowKit Go.Proofs
theorem has_walk {w0 : World} {es : List Ent} (l : List Int) (x : Int) : ACalls Tryd.prog w0 82 [ints l, .int .i64 x] es fun v es' => v = .bool (l.any fun y => decide (y = x)) ∧ es' = es := by
  unfold ints
  refine calls2 (N := 18) Tryd.func82 rfl rfl (by decide) ?_
  refine w_seq ?_
  refine w_region ?_
  refine l_cons rfl (p_assign ?_)
  refine l_nil ?_
  refine k_seq_normal ?_
  refine w_seq ?_
  refine w_seq ?_
  refine w_len 0 fun hl => ?_
  rw [List.length_map] at hl
  simp only [most] at hl
  refine w_region ?_
  refine l_cons rfl (p_assign ?_)
  refine l_nil ?_
  refine k_seq_normal ?_
  refine w_block ?_
  refine w_loop (fun n f es' => ∃ k, n = l.length - k ∧ k ≤ l.length ∧ (l.take k).any (fun y => decide (y = x)) = false ∧ es' = es ∧ Knows f [(0, .list 1 (l.map fun n => [.int .i64 n])), (1, .int .i64 x), (5, .int .i64 k)]) (l.length) (⟨0, rfl, Nat.zero_le _, rfl, rfl, by simp only [Knows, put, upd_apply, Nat.reduceEqDiff, ↓reduceIte, and_true, true_and, eq_self] <;> first | exact rfl | exact ⟨rfl, rfl⟩ | exact ⟨rfl, rfl, rfl⟩ | exact ⟨rfl, rfl, rfl, rfl⟩ | exact ⟨rfl, rfl, rfl, rfl, rfl⟩ | exact ⟨rfl, rfl, rfl, rfl, rfl, rfl⟩⟩) ?_
  rintro n f es' ⟨k, rfl, hk1, hk2, rfl, hk⟩
  refine w_pins _ (Sub.refl _) (hk) ?_
  simp only [pins]
  refine w_seq ?_
  refine w_seq ?_
  refine w_region ?_
  refine l_cons rfl (p_move ?_)
  refine l_cons rfl (p_move ?_)
  refine l_cons rfl (p_lenl sl_48 ?_)
  refine l_cons rfl (p_cmp ?_)
  refine l_nil ?_
  refine k_seq_normal ?_
  refine w_b (fun h1 => ?_) (fun h1 => ?_)
  · skip
    have h1' := h1; (try simp only [decide_eq_true_eq, decide_eq_false_iff_not, Bool.not_eq_true', Bool.not_false, Bool.not_true, Bool.not_eq_false'] at h1')
    refine w_skip ?_
    refine k_seq_normal ?_
    refine w_seq ?_
    refine w_block ?_
    refine w_seq ?_
    refine w_region ?_
    refine l_cons rfl (p_move ?_)
    refine l_cons rfl (p_move ?_)
    refine l_cons rfl (p_ixl sl_48 ?_)
    refine l_cons rfl (p_loadf ty_3 ?_)
    refine l_cons rfl (p_move ?_)
    refine l_cons rfl (p_cmp ?_)
    refine l_nil ?_
    refine k_seq_normal ?_
    refine w_b (fun h2 => ?_) (fun h2 => ?_)
    · skip
      have h2' := h2; (try simp only [decide_eq_true_eq, decide_eq_false_iff_not, Bool.not_eq_true', Bool.not_false, Bool.not_true, Bool.not_eq_false'] at h2')
      refine w_seq ?_
      refine w_region ?_
      refine l_cons rfl (p_assign ?_)
      refine l_nil ?_
      refine k_seq_normal ?_
      refine w_ret ?_
      refine k_blk_ret ?_
      refine k_seq_ret ?_
      refine k_seq_ret ?_
      refine k_blk_ret ?_
      refine k_seq_ret ?_
      exact ret1 rfl (by simp only [ev_tmp, ev_const, ev_func, ofConst_int, ofConst_bool, ofConst_str, ofConst_nil, upd_apply, Nat.reduceEqDiff, ↓reduceIte] <;> exact rfl) (by first | exact Sub.refl _ | exact sub1 _ _ | exact sub2 _ _ _ | exact sub3 _ _ _ _ | exact sub4 _ _ _ _ _ | exact sub5 _ _ _ _ _ _) ⟨by rw [show (l.any fun y => decide (y = x)) = true from List.any_eq_true.2 ⟨l[k]'(by omega), List.getElem_mem _, by assumption⟩], rfl⟩
    · skip
      have h2' := h2; (try simp only [decide_eq_true_eq, decide_eq_false_iff_not, Bool.not_eq_true', Bool.not_false, Bool.not_true, Bool.not_eq_false'] at h2')
      refine w_skip ?_
      refine k_blk_normal ?_
      refine k_seq_normal ?_
      refine w_region ?_
      refine l_cons rfl (p_move ?_)
      refine l_cons rfl (p_arith ?_)
      refine l_cons rfl (p_assign ?_)
      refine l_nil ?_
      refine k_seq_normal ?_
      exact ⟨l.length - (k + 1), by omega, k + 1, rfl, by omega, by rw [any_take (by omega), hk2]; simp_all, rfl, by simp only [Knows, put, upd_apply, Nat.reduceEqDiff, ↓reduceIte, and_true, true_and, eq_self] <;> first | exact rfl | exact ⟨rfl, rfl⟩ | exact ⟨rfl, rfl, rfl⟩ | exact ⟨rfl, rfl, rfl, rfl⟩ | exact ⟨rfl, rfl, rfl, rfl, rfl⟩ | exact ⟨rfl, rfl, rfl, rfl, rfl, rfl⟩⟩
  · skip
    have h1' := h1; (try simp only [decide_eq_true_eq, decide_eq_false_iff_not, Bool.not_eq_true', Bool.not_false, Bool.not_true, Bool.not_eq_false'] at h1')
    refine w_exit ?_
    refine k_seq_exit ?_
    refine k_seq_exit ?_
    refine k_blk_here ?_
    refine k_seq_normal ?_
    refine w_seq ?_
    refine w_region ?_
    refine l_cons rfl (p_assign ?_)
    refine l_nil ?_
    refine k_seq_normal ?_
    refine w_ret ?_
    exact ret1 rfl (by simp only [ev_tmp, ev_const, ev_func, ofConst_int, ofConst_bool, ofConst_str, ofConst_nil, upd_apply, Nat.reduceEqDiff, ↓reduceIte] <;> exact rfl) (by first | exact Sub.refl _ | exact sub1 _ _ | exact sub2 _ _ _ | exact sub3 _ _ _ _ | exact sub4 _ _ _ _ _ | exact sub5 _ _ _ _ _ _) ⟨by rw [← hk2, List.take_of_length_le (by omega)], rfl⟩
theorem marked_walk {w0 : World} {es : List Ent} {id s : Nat} {bs : List Bool} (hb : at_ es id = some (.row s 4 1 (bs.map fun b => [.bool b]))) (hl : bs.length ≤ 2000) : ACalls Tryd.prog w0 88 [.own id s] es fun v es' => v = ints (marks bs bs.length) ∧ es' = es := by
  refine calls1 (N := 20) Tryd.func88 rfl rfl (by decide) ?_
  refine w_seq ?_
  refine w_region ?_
  refine l_cons rfl (p_assign ?_)
  refine l_nil ?_
  refine k_seq_normal ?_
  refine w_seq ?_
  refine w_region ?_
  refine l_cons rfl (p_assign ?_)
  refine l_nil ?_
  refine k_seq_normal ?_
  refine w_seq ?_
  refine w_seq ?_
  refine w_adopt 3 3 1 rfl fun s3 => ?_
  simp only [upd_upd]
  refine w_region ?_
  refine l_cons rfl (p_assign ?_)
  refine l_nil ?_
  refine k_seq_normal ?_
  refine w_block ?_
  refine w_loop (fun n f es' => ∃ k s3, n = bs.length - k ∧ k ≤ bs.length ∧ es' = .row s3 3 1 ((marks bs k).map fun n => [.int .i64 n]) :: es ∧ Knows f [(0, .own id s), (3, .own es.length s3), (4, .int .i64 k)]) (bs.length) (⟨0, s3, rfl, Nat.zero_le _, rfl, by simp only [Knows, put, upd_apply, Nat.reduceEqDiff, ↓reduceIte, and_true, true_and, eq_self] <;> first | exact rfl | exact ⟨rfl, rfl⟩ | exact ⟨rfl, rfl, rfl⟩ | exact ⟨rfl, rfl, rfl, rfl⟩ | exact ⟨rfl, rfl, rfl, rfl, rfl⟩ | exact ⟨rfl, rfl, rfl, rfl, rfl, rfl⟩⟩) ?_
  rintro n f es' ⟨k, s3, rfl, hk1, rfl, hk⟩
  have hml := marks_len bs k
  refine w_pins _ (Sub.refl _) (hk) ?_
  simp only [pins]
  refine w_seq ?_
  refine w_seq ?_
  refine w_region ?_
  refine l_cons rfl (p_move ?_)
  refine l_cons rfl (p_move ?_)
  refine l_cons rfl (p_leno sl_60 ?_)
  refine l_cons rfl (p_cmp ?_)
  refine l_nil ?_
  refine k_seq_normal ?_
  refine w_b (fun h1 => ?_) (fun h1 => ?_)
  · skip
    have h1' := h1; (try simp only [decide_eq_true_eq, decide_eq_false_iff_not, Bool.not_eq_true', Bool.not_false, Bool.not_true, Bool.not_eq_false'] at h1')
    refine w_skip ?_
    refine k_seq_normal ?_
    refine w_seq ?_
    refine w_block ?_
    refine w_seq ?_
    refine w_region ?_
    refine l_cons rfl (p_move ?_)
    refine l_cons rfl (p_move ?_)
    refine l_cons rfl (p_ixo sl_60 ?_)
    refine l_cons rfl (p_loadp ty_4 ?_)
    refine l_nil ?_
    refine k_seq_normal ?_
    refine w_b (fun h2 => ?_) (fun h2 => ?_)
    · skip
      have h2' := h2; (try simp only [decide_eq_true_eq, decide_eq_false_iff_not, Bool.not_eq_true', Bool.not_false, Bool.not_true, Bool.not_eq_false'] at h2')
      refine w_region ?_
      refine l_cons rfl (p_move ?_)
      refine l_cons rfl (p_move ?_)
      refine l_cons rfl (p_buildList sl_48 ze_3 ?_)
      refine l_cons rfl (p_append sl_48 by_3 ze_3 (fun s18 => ?_))
      refine l_cons rfl (p_assign ?_)
      refine l_nil ?_
      refine k_blk_normal ?_
      refine k_seq_normal ?_
      refine w_region ?_
      refine l_cons rfl (p_move ?_)
      refine l_cons rfl (p_arith ?_)
      refine l_cons rfl (p_assign ?_)
      refine l_nil ?_
      refine k_seq_normal ?_
      first
      | exact ⟨bs.length - (k + 1), by omega, k + 1, s18, rfl, by omega, (by rw [marks_succ bs k (by omega), if_pos (by assumption), List.map_append]; rfl), by simp only [Knows, put, upd_apply, Nat.reduceEqDiff, ↓reduceIte, and_true, true_and, eq_self] <;> first | exact rfl | exact ⟨rfl, rfl⟩ | exact ⟨rfl, rfl, rfl⟩ | exact ⟨rfl, rfl, rfl, rfl⟩ | exact ⟨rfl, rfl, rfl, rfl, rfl⟩ | exact ⟨rfl, rfl, rfl, rfl, rfl, rfl⟩⟩
      | exact ⟨bs.length - (k + 1), by omega, k + 1, s3, rfl, by omega, (by rw [marks_succ bs k (by omega), if_neg (by simp_all)]), by simp only [Knows, put, upd_apply, Nat.reduceEqDiff, ↓reduceIte, and_true, true_and, eq_self] <;> first | exact rfl | exact ⟨rfl, rfl⟩ | exact ⟨rfl, rfl, rfl⟩ | exact ⟨rfl, rfl, rfl, rfl⟩ | exact ⟨rfl, rfl, rfl, rfl, rfl⟩ | exact ⟨rfl, rfl, rfl, rfl, rfl, rfl⟩⟩
    · skip
      have h2' := h2; (try simp only [decide_eq_true_eq, decide_eq_false_iff_not, Bool.not_eq_true', Bool.not_false, Bool.not_true, Bool.not_eq_false'] at h2')
      refine w_skip ?_
      refine k_blk_normal ?_
      refine k_seq_normal ?_
      refine w_region ?_
      refine l_cons rfl (p_move ?_)
      refine l_cons rfl (p_arith ?_)
      refine l_cons rfl (p_assign ?_)
      refine l_nil ?_
      refine k_seq_normal ?_
      first
      | exact ⟨bs.length - (k + 1), by omega, k + 1, s18, rfl, by omega, (by rw [marks_succ bs k (by omega), if_pos (by assumption), List.map_append]; rfl), by simp only [Knows, put, upd_apply, Nat.reduceEqDiff, ↓reduceIte, and_true, true_and, eq_self] <;> first | exact rfl | exact ⟨rfl, rfl⟩ | exact ⟨rfl, rfl, rfl⟩ | exact ⟨rfl, rfl, rfl, rfl⟩ | exact ⟨rfl, rfl, rfl, rfl, rfl⟩ | exact ⟨rfl, rfl, rfl, rfl, rfl, rfl⟩⟩
      | exact ⟨bs.length - (k + 1), by omega, k + 1, s3, rfl, by omega, (by rw [marks_succ bs k (by omega), if_neg (by simp_all)]), by simp only [Knows, put, upd_apply, Nat.reduceEqDiff, ↓reduceIte, and_true, true_and, eq_self] <;> first | exact rfl | exact ⟨rfl, rfl⟩ | exact ⟨rfl, rfl, rfl⟩ | exact ⟨rfl, rfl, rfl, rfl⟩ | exact ⟨rfl, rfl, rfl, rfl, rfl⟩ | exact ⟨rfl, rfl, rfl, rfl, rfl, rfl⟩⟩
  · skip
    have h1' := h1; (try simp only [decide_eq_true_eq, decide_eq_false_iff_not, Bool.not_eq_true', Bool.not_false, Bool.not_true, Bool.not_eq_false'] at h1')
    refine w_exit ?_
    refine k_seq_exit ?_
    refine k_seq_exit ?_
    refine k_blk_here ?_
    refine k_seq_normal ?_
    refine w_seq ?_
    refine w_freezeTop 3 ?_
    refine w_region ?_
    refine l_cons rfl (p_move ?_)
    refine l_cons rfl (p_assign ?_)
    refine l_nil ?_
    refine k_seq_normal ?_
    refine w_ret ?_
    exact ret1 rfl (by simp only [ev_tmp, ev_const, ev_func, ofConst_int, ofConst_bool, ofConst_str, ofConst_nil, upd_apply, Nat.reduceEqDiff, ↓reduceIte] <;> exact rfl) (by first | exact Sub.refl _ | exact sub1 _ _ | exact sub2 _ _ _ | exact sub3 _ _ _ _ | exact sub4 _ _ _ _ _ | exact sub5 _ _ _ _ _ _) ⟨by rw [show k = bs.length by omega]; rfl, rfl⟩
theorem refMay {w0 : World} {es : List Ent} (n : Nf) : ACalls Tryd.prog w0 42 [n.av] es fun v es' => v = .bool (mayN n) ∧ es' = es := by
  unfold Nf.av
  refine calls1 (N := 76) Tryd.func42 rfl rfl (by decide) ?_
  refine w_seq ?_
  refine w_region ?_
  refine l_cons rfl (p_box fun s1 => ?_)
  refine l_cons rfl (p_assign ?_)
  refine l_nil ?_
  refine k_seq_normal ?_
  refine w_seq ?_
  refine w_region ?_
  refine l_cons rfl (p_fap fa_36_0 ?_)
  refine l_cons rfl (p_loadp ty_34 ?_)
  refine l_len 8 fun hlen => ?_
  simp only [List.length_map, most] at hlen
  first | refine l_cons rfl (p_lenl sl_34 ?_) | refine l_cons rfl (p_leno sl_34 ?_) | refine l_cons rfl (p_lenn sl_34 ?_)
  refine l_cons rfl (p_assign ?_)
  refine l_nil ?_
  refine k_seq_normal ?_
  refine w_seq ?_
  refine w_seq ?_
  refine w_region ?_
  refine l_cons rfl (p_move ?_)
  refine l_cons rfl (p_cmp ?_)
  refine l_cons rfl (p_move ?_)
  refine g_b rfl (fun h1 => ?_) (fun h1 => ?_)
  · skip
    have h1' := h1; (try simp only [decide_eq_true_eq, decide_eq_false_iff_not, Bool.not_eq_true', Bool.not_false, Bool.not_true, Bool.not_eq_false'] at h1')
    refine (p_fap fa_36_1 ?_)
    refine g_y rfl h1 (p_loadp ty_3 ?_)
    refine g_y rfl h1 (p_cmp ?_)
    refine l_cons rfl (p_pickf h1 ?_)
    refine l_cons rfl (p_move ?_)
    refine g_b rfl (fun h2 => ?_) (fun h2 => ?_)
    · skip
      have h2' := h2; (try simp only [decide_eq_true_eq, decide_eq_false_iff_not, Bool.not_eq_true', Bool.not_false, Bool.not_true, Bool.not_eq_false'] at h2')
      refine (p_fap fa_36_1 ?_)
      refine g_y rfl h2 (p_loadp ty_3 ?_)
      refine g_y rfl h2 (p_move ?_)
      refine g_y rfl h2 (p_cmp ?_)
      refine l_cons rfl (p_pickf h2 ?_)
      refine l_cons rfl (p_move ?_)
      refine g_b rfl (fun h3 => ?_) (fun h3 => ?_)
      · skip
        have h3' := h3; (try simp only [decide_eq_true_eq, decide_eq_false_iff_not, Bool.not_eq_true', Bool.not_false, Bool.not_true, Bool.not_eq_false'] at h3')
        refine (p_fap fa_36_2 ?_)
        refine g_y rfl h3 (p_loadp ty_3 ?_)
        refine g_y rfl h3 (p_cmp ?_)
        refine l_cons rfl (p_pickf h3 ?_)
        refine l_cons rfl (p_move ?_)
        refine g_b rfl (fun h4 => ?_) (fun h4 => ?_)
        · skip
          have h4' := h4; (try simp only [decide_eq_true_eq, decide_eq_false_iff_not, Bool.not_eq_true', Bool.not_false, Bool.not_true, Bool.not_eq_false'] at h4')
          refine (p_fap fa_36_2 ?_)
          refine g_y rfl h4 (p_loadp ty_3 ?_)
          refine g_y rfl h4 (p_move ?_)
          refine g_y rfl h4 (p_cmp ?_)
          refine l_cons rfl (p_pickf h4 ?_)
          refine l_nil ?_
          refine k_seq_normal ?_
          refine w_b (fun h5 => ?_) (fun h5 => ?_)
          · skip
            have h5' := h5; (try simp only [decide_eq_true_eq, decide_eq_false_iff_not, Bool.not_eq_true', Bool.not_false, Bool.not_true, Bool.not_eq_false'] at h5')
            refine w_seq ?_
            refine w_region ?_
            refine l_cons rfl (p_assign ?_)
            refine l_nil ?_
            refine k_seq_normal ?_
            refine w_ret ?_
            refine k_seq_ret ?_
            exact ret1 rfl (by simp only [ev_tmp, ev_const, ev_func, ofConst_int, ofConst_bool, ofConst_str, ofConst_nil, upd_apply, Nat.reduceEqDiff, ↓reduceIte] <;> exact rfl) (by first | exact Sub.refl _ | exact sub1 _ _ | exact sub2 _ _ _ | exact sub3 _ _ _ _ | exact sub4 _ _ _ _ _ | exact sub5 _ _ _ _ _ _) ⟨by rw [may_no1 (by first | (left; omega) | (right; unfold inN; simp only [Bool.and_eq_false_iff, decide_eq_false_iff_not]; omega))], rfl⟩
          · skip
            have h5' := h5; (try simp only [decide_eq_true_eq, decide_eq_false_iff_not, Bool.not_eq_true', Bool.not_false, Bool.not_true, Bool.not_eq_false'] at h5')
            refine w_skip ?_
            refine k_seq_normal ?_
            refine w_seq ?_
            refine w_seq ?_
            refine w_region ?_
            refine l_cons rfl (p_assign ?_)
            refine l_nil ?_
            refine k_seq_normal ?_
            refine w_block ?_
            refine w_loop (fun m f es' => ∃ k, m = n.st.length - k ∧ k ≤ n.st.length ∧ (n.st.take k).all (okS n) = true ∧ Sub (.row s1 36 3 [n.cells] :: es) es' ∧ Knows f [(1, .ptr es.length s1 0 0), (3, .int .i64 n.st.length), (4, .int .i64 k)]) (n.st.length) (⟨0, rfl, Nat.zero_le _, rfl, Sub.refl _, by simp only [Knows, put, upd_apply, Nat.reduceEqDiff, ↓reduceIte, and_true, true_and, eq_self] <;> first | exact rfl | exact ⟨rfl, rfl⟩ | exact ⟨rfl, rfl, rfl⟩ | exact ⟨rfl, rfl, rfl, rfl⟩ | exact ⟨rfl, rfl, rfl, rfl, rfl⟩ | exact ⟨rfl, rfl, rfl, rfl, rfl, rfl⟩⟩) ?_
            rintro m f es' ⟨k, rfl, hk1, hk2, hsub, hk⟩
            refine w_pins _ hsub (hk) ?_
            simp only [pins]
            refine w_seq ?_
            refine w_seq ?_
            refine w_region ?_
            refine l_cons rfl (p_move ?_)
            refine l_cons rfl (p_move ?_)
            refine l_cons rfl (p_cmp ?_)
            refine l_nil ?_
            refine k_seq_normal ?_
            refine w_b (fun h6 => ?_) (fun h6 => ?_)
            · skip
              have h6' := h6; (try simp only [decide_eq_true_eq, decide_eq_false_iff_not, Bool.not_eq_true', Bool.not_false, Bool.not_true, Bool.not_eq_false'] at h6')
              refine w_skip ?_
              refine k_seq_normal ?_
              refine w_seq ?_
              refine w_block ?_
              refine w_seq ?_
              refine w_region ?_
              refine l_cons rfl (p_fap fa_36_0 ?_)
              refine l_cons rfl (p_loadp ty_34 ?_)
              refine l_cons rfl (p_move ?_)
              first | refine l_cons rfl (p_ixl sl_34 ?_) | refine l_cons rfl (p_ixo sl_34 ?_)
              first | refine l_cons rfl (p_loadf ty_75 ?_) | refine l_cons rfl (p_loadp ty_75 ?_)
              refine l_cons rfl (p_alloc ze_75 fun s5 => ?_)
              refine l_cons rfl (p_store ty_75 ?_)
              refine l_nil ?_
              refine k_seq_normal ?_
              refine w_seq ?_
              refine w_seq ?_
              refine w_region ?_
              refine l_cons rfl (p_fap fa_75_1 ?_)
              refine l_cons rfl (p_loadp ty_3 ?_)
              refine l_cons rfl (p_move ?_)
              refine l_cons rfl (p_cmp ?_)
              refine l_cons rfl (p_move ?_)
              refine g_b rfl (fun h7 => ?_) (fun h7 => ?_)
              · skip
                have h7' := h7; (try simp only [decide_eq_true_eq, decide_eq_false_iff_not, Bool.not_eq_true', Bool.not_false, Bool.not_true, Bool.not_eq_false'] at h7')
                refine (p_fap fa_75_2 ?_)
                refine g_y rfl h7 (p_loadp ty_48 ?_)
                first | refine g_y rfl h7 (p_lenl sl_48 ?_) | refine g_y rfl h7 (p_leno sl_48 ?_) | refine g_y rfl h7 (p_lenn sl_48 ?_)
                refine g_y rfl h7 (p_cmp ?_)
                refine l_cons rfl (p_pickf h7 ?_)
                refine l_nil ?_
                refine k_seq_normal ?_
                refine w_b (fun h8 => ?_) (fun h8 => ?_)
                · skip
                  have h8' := h8; (try simp only [decide_eq_true_eq, decide_eq_false_iff_not, Bool.not_eq_true', Bool.not_false, Bool.not_true, Bool.not_eq_false'] at h8')
                  refine w_seq ?_
                  refine w_region ?_
                  refine l_cons rfl (p_assign ?_)
                  refine l_nil ?_
                  refine k_seq_normal ?_
                  refine w_ret ?_
                  refine k_seq_ret ?_
                  refine k_blk_ret ?_
                  refine k_seq_ret ?_
                  refine k_seq_ret ?_
                  refine k_blk_ret ?_
                  refine k_seq_ret ?_
                  exact ret1 rfl (by simp only [ev_tmp, ev_const, ev_func, ofConst_int, ofConst_bool, ofConst_str, ofConst_nil, upd_apply, Nat.reduceEqDiff, ↓reduceIte] <;> exact rfl) (by first | exact Sub.refl _ | exact sub1 _ _ | exact sub2 _ _ _ | exact sub3 _ _ _ _ | exact sub4 _ _ _ _ _ | exact sub5 _ _ _ _ _ _) ⟨by rw [may_no2 (k := k) (by omega) (by unfold okS; simp only [Bool.and_eq_false_iff, decide_eq_false_iff_not]; omega)], rfl⟩
                · skip
                  have h8' := h8; (try simp only [decide_eq_true_eq, decide_eq_false_iff_not, Bool.not_eq_true', Bool.not_false, Bool.not_true, Bool.not_eq_false'] at h8')
                  refine w_skip ?_
                  refine k_seq_normal ?_
                  refine w_seq ?_
                  refine w_region ?_
                  refine l_cons rfl (p_assign ?_)
                  refine l_nil ?_
                  refine k_seq_normal ?_
                  refine w_block ?_
                  refine w_loop (fun m f es' => ∃ j s5, m = ((n.st[k]'(by omega)).free).length - j ∧ j ≤ ((n.st[k]'(by omega)).free).length ∧ (((n.st[k]'(by omega)).free).take j).all (inN n) = true ∧ es' = .row s5 75 6 [(n.st[k]'(by omega)).row] :: .row s1 36 3 [n.cells] :: es ∧ Knows f [(1, .ptr es.length s1 0 0), (3, .int .i64 n.st.length), (4, .int .i64 k), (5, .ptr (es.length + 1) s5 0 0), (6, .int .i64 j)]) (((n.st[k]'(by omega)).free).length) (⟨0, s5, rfl, Nat.zero_le _, rfl, rfl, by simp only [Knows, put, upd_apply, Nat.reduceEqDiff, ↓reduceIte, and_true, true_and, eq_self] <;> first | exact rfl | exact ⟨rfl, rfl⟩ | exact ⟨rfl, rfl, rfl⟩ | exact ⟨rfl, rfl, rfl, rfl⟩ | exact ⟨rfl, rfl, rfl, rfl, rfl⟩ | exact ⟨rfl, rfl, rfl, rfl, rfl, rfl⟩⟩) ?_
                  rintro m f es' ⟨j, s5, rfl, hj1, hj2, rfl, hk⟩
                  refine w_pins _ (Sub.refl _) (hk) ?_
                  simp only [pins]
                  refine w_seq ?_
                  refine w_seq ?_
                  refine w_region ?_
                  refine l_cons rfl (p_move ?_)
                  refine l_cons rfl (p_fap fa_75_2 ?_)
                  refine l_cons rfl (p_loadp ty_48 ?_)
                  refine l_len 56 fun hfl => ?_
                  simp only [List.length_map, most] at hfl
                  first | refine l_cons rfl (p_lenl sl_48 ?_) | refine l_cons rfl (p_leno sl_48 ?_) | refine l_cons rfl (p_lenn sl_48 ?_)
                  refine l_cons rfl (p_cmp ?_)
                  refine l_nil ?_
                  refine k_seq_normal ?_
                  refine w_b (fun h9 => ?_) (fun h9 => ?_)
                  · skip
                    have h9' := h9; (try simp only [decide_eq_true_eq, decide_eq_false_iff_not, Bool.not_eq_true', Bool.not_false, Bool.not_true, Bool.not_eq_false'] at h9')
                    refine w_skip ?_
                    refine k_seq_normal ?_
                    refine w_seq ?_
                    refine w_block ?_
                    refine w_seq ?_
                    refine w_region ?_
                    refine l_cons rfl (p_fap fa_75_2 ?_)
                    refine l_cons rfl (p_loadp ty_48 ?_)
                    refine l_cons rfl (p_move ?_)
                    first | refine l_cons rfl (p_ixl sl_48 ?_) | refine l_cons rfl (p_ixo sl_48 ?_)
                    first | refine l_cons rfl (p_loadf ty_3 ?_) | refine l_cons rfl (p_loadp ty_3 ?_)
                    refine l_cons rfl (p_cmp ?_)
                    refine l_cons rfl (p_move ?_)
                    refine g_b rfl (fun h10 => ?_) (fun h10 => ?_)
                    · skip
                      have h10' := h10; (try simp only [decide_eq_true_eq, decide_eq_false_iff_not, Bool.not_eq_true', Bool.not_false, Bool.not_true, Bool.not_eq_false'] at h10')
                      refine (p_fap fa_75_2 ?_)
                      refine g_y rfl h10 (p_loadp ty_48 ?_)
                      refine g_y rfl h10 (p_move ?_)
                      first | refine g_y rfl h10 (p_ixl sl_48 ?_) | refine g_y rfl h10 (p_ixo sl_48 ?_)
                      first | refine g_y rfl h10 (p_loadf ty_3 ?_) | refine g_y rfl h10 (p_loadp ty_3 ?_)
                      refine g_y rfl h10 (p_move ?_)
                      refine g_y rfl h10 (p_cmp ?_)
                      refine l_cons rfl (p_pickf h10 ?_)
                      refine l_nil ?_
                      refine k_seq_normal ?_
                      refine w_b (fun h11 => ?_) (fun h11 => ?_)
                      · skip
                        have h11' := h11; (try simp only [decide_eq_true_eq, decide_eq_false_iff_not, Bool.not_eq_true', Bool.not_false, Bool.not_true, Bool.not_eq_false'] at h11')
                        refine w_seq ?_
                        refine w_region ?_
                        refine l_cons rfl (p_assign ?_)
                        refine l_nil ?_
                        refine k_seq_normal ?_
                        refine w_ret ?_
                        refine k_blk_ret ?_
                        refine k_seq_ret ?_
                        refine k_seq_ret ?_
                        refine k_blk_ret ?_
                        refine k_blk_ret ?_
                        refine k_seq_ret ?_
                        refine k_seq_ret ?_
                        refine k_blk_ret ?_
                        refine k_seq_ret ?_
                        exact ret1 rfl (by simp only [ev_tmp, ev_const, ev_func, ofConst_int, ofConst_bool, ofConst_str, ofConst_nil, upd_apply, Nat.reduceEqDiff, ↓reduceIte] <;> exact rfl) (by first | exact Sub.refl _ | exact sub1 _ _ | exact sub2 _ _ _ | exact sub3 _ _ _ _ | exact sub4 _ _ _ _ _ | exact sub5 _ _ _ _ _ _) ⟨by rw [may_no2 (k := k) (by omega) (by unfold okS; rw [all_no (k := j) (by omega) (by unfold inN; simp only [Bool.and_eq_false_iff, decide_eq_false_iff_not]; omega)]; simp)], rfl⟩
                      · skip
                        have h11' := h11; (try simp only [decide_eq_true_eq, decide_eq_false_iff_not, Bool.not_eq_true', Bool.not_false, Bool.not_true, Bool.not_eq_false'] at h11')
                        refine w_skip ?_
                        refine k_blk_normal ?_
                        refine k_seq_normal ?_
                        refine w_region ?_
                        refine l_cons rfl (p_move ?_)
                        refine l_cons rfl (p_arith ?_)
                        refine l_cons rfl (p_assign ?_)
                        refine l_nil ?_
                        refine k_seq_normal ?_
                        exact ⟨((n.st[k]'(by omega)).free).length - (j + 1), by omega, j + 1, s5, rfl, by omega, take_all (by omega) hj2 (by unfold inN; simp_all; try omega), rfl, by simp only [Knows, put, upd_apply, Nat.reduceEqDiff, ↓reduceIte, and_true, true_and, eq_self] <;> first | exact rfl | exact ⟨rfl, rfl⟩ | exact ⟨rfl, rfl, rfl⟩ | exact ⟨rfl, rfl, rfl, rfl⟩ | exact ⟨rfl, rfl, rfl, rfl, rfl⟩ | exact ⟨rfl, rfl, rfl, rfl, rfl, rfl⟩⟩
                    · skip
                      have h10' := h10; (try simp only [decide_eq_true_eq, decide_eq_false_iff_not, Bool.not_eq_true', Bool.not_false, Bool.not_true, Bool.not_eq_false'] at h10')
                      refine g_n rfl h10 ?_
                      refine g_n rfl h10 ?_
                      refine g_n rfl h10 ?_
                      refine g_n rfl h10 ?_
                      refine g_n rfl h10 ?_
                      refine g_n rfl h10 ?_
                      refine l_cons rfl (p_pickt h10 ?_)
                      refine l_nil ?_
                      refine k_seq_normal ?_
                      refine w_t rfl ?_
                      refine w_seq ?_
                      refine w_region ?_
                      refine l_cons rfl (p_assign ?_)
                      refine l_nil ?_
                      refine k_seq_normal ?_
                      refine w_ret ?_
                      refine k_blk_ret ?_
                      refine k_seq_ret ?_
                      refine k_seq_ret ?_
                      refine k_blk_ret ?_
                      refine k_blk_ret ?_
                      refine k_seq_ret ?_
                      refine k_seq_ret ?_
                      refine k_blk_ret ?_
                      refine k_seq_ret ?_
                      exact ret1 rfl (by simp only [ev_tmp, ev_const, ev_func, ofConst_int, ofConst_bool, ofConst_str, ofConst_nil, upd_apply, Nat.reduceEqDiff, ↓reduceIte] <;> exact rfl) (by first | exact Sub.refl _ | exact sub1 _ _ | exact sub2 _ _ _ | exact sub3 _ _ _ _ | exact sub4 _ _ _ _ _ | exact sub5 _ _ _ _ _ _) ⟨by rw [may_no2 (k := k) (by omega) (by unfold okS; rw [all_no (k := j) (by omega) (by unfold inN; simp only [Bool.and_eq_false_iff, decide_eq_false_iff_not]; omega)]; simp)], rfl⟩
                  · skip
                    have h9' := h9; (try simp only [decide_eq_true_eq, decide_eq_false_iff_not, Bool.not_eq_true', Bool.not_false, Bool.not_true, Bool.not_eq_false'] at h9')
                    refine w_exit ?_
                    refine k_seq_exit ?_
                    refine k_seq_exit ?_
                    refine k_blk_here ?_
                    refine k_blk_normal ?_
                    refine k_seq_normal ?_
                    refine w_region ?_
                    refine l_cons rfl (p_move ?_)
                    refine l_cons rfl (p_arith ?_)
                    refine l_cons rfl (p_assign ?_)
                    refine l_nil ?_
                    refine k_seq_normal ?_
                    exact ⟨n.st.length - (k + 1), by omega, k + 1, rfl, by omega, take_all (by omega) hk2 (by
                      have hall : ((n.st[k]'(by omega)).free).all (inN n) = true := by rw [← hj2, List.take_of_length_le (by omega)]
                      unfold okS
                      rw [hall]
                      simp only [Bool.and_true, Bool.and_eq_true, decide_eq_true_eq]
                      omega), (by first | exact Sub.refl _ | exact sub1 _ _), by simp only [Knows, put, upd_apply, Nat.reduceEqDiff, ↓reduceIte, and_true, true_and, eq_self] <;> first | exact rfl | exact ⟨rfl, rfl⟩ | exact ⟨rfl, rfl, rfl⟩ | exact ⟨rfl, rfl, rfl, rfl⟩ | exact ⟨rfl, rfl, rfl, rfl, rfl⟩ | exact ⟨rfl, rfl, rfl, rfl, rfl, rfl⟩⟩
              · skip
                have h7' := h7; (try simp only [decide_eq_true_eq, decide_eq_false_iff_not, Bool.not_eq_true', Bool.not_false, Bool.not_true, Bool.not_eq_false'] at h7')
                refine g_n rfl h7 ?_
                refine g_n rfl h7 ?_
                refine g_n rfl h7 ?_
                refine l_cons rfl (p_pickt h7 ?_)
                refine l_nil ?_
                refine k_seq_normal ?_
                refine w_t rfl ?_
                refine w_seq ?_
                refine w_region ?_
                refine l_cons rfl (p_assign ?_)
                refine l_nil ?_
                refine k_seq_normal ?_
                refine w_ret ?_
                refine k_seq_ret ?_
                refine k_blk_ret ?_
                refine k_seq_ret ?_
                refine k_seq_ret ?_
                refine k_blk_ret ?_
                refine k_seq_ret ?_
                exact ret1 rfl (by simp only [ev_tmp, ev_const, ev_func, ofConst_int, ofConst_bool, ofConst_str, ofConst_nil, upd_apply, Nat.reduceEqDiff, ↓reduceIte] <;> exact rfl) (by first | exact Sub.refl _ | exact sub1 _ _ | exact sub2 _ _ _ | exact sub3 _ _ _ _ | exact sub4 _ _ _ _ _ | exact sub5 _ _ _ _ _ _) ⟨by rw [may_no2 (k := k) (by omega) (by unfold okS; simp only [Bool.and_eq_false_iff, decide_eq_false_iff_not]; omega)], rfl⟩
            · skip
              have h6' := h6; (try simp only [decide_eq_true_eq, decide_eq_false_iff_not, Bool.not_eq_true', Bool.not_false, Bool.not_true, Bool.not_eq_false'] at h6')
              refine w_exit ?_
              refine k_seq_exit ?_
              refine k_seq_exit ?_
              refine k_blk_here ?_
              refine k_seq_normal ?_
              refine w_seq ?_
              refine w_region ?_
              refine l_cons rfl (p_assign ?_)
              refine l_nil ?_
              refine k_seq_normal ?_
              refine w_ret ?_
              exact ret1 rfl (by simp only [ev_tmp, ev_const, ev_func, ofConst_int, ofConst_bool, ofConst_str, ofConst_nil, upd_apply, Nat.reduceEqDiff, ↓reduceIte] <;> exact rfl) (by first | exact Sub.refl _ | exact sub1 _ _ | exact sub2 _ _ _ | exact sub3 _ _ _ _ | exact sub4 _ _ _ _ _ | exact sub5 _ _ _ _ _ _) ⟨by rw [may_yes (by omega) (by unfold inN; simp only [Bool.and_eq_true, decide_eq_true_eq]; omega) (by unfold inN; simp only [Bool.and_eq_true, decide_eq_true_eq]; omega) (by rw [← hk2, List.take_of_length_le (by omega)])], rfl⟩
        · skip
          have h4' := h4; (try simp only [decide_eq_true_eq, decide_eq_false_iff_not, Bool.not_eq_true', Bool.not_false, Bool.not_true, Bool.not_eq_false'] at h4')
          refine g_n rfl h4 ?_
          refine g_n rfl h4 ?_
          refine g_n rfl h4 ?_
          refine l_cons rfl (p_pickt h4 ?_)
          refine l_nil ?_
          refine k_seq_normal ?_
          refine w_t rfl ?_
          refine w_seq ?_
          refine w_region ?_
          refine l_cons rfl (p_assign ?_)
          refine l_nil ?_
          refine k_seq_normal ?_
          refine w_ret ?_
          refine k_seq_ret ?_
          exact ret1 rfl (by simp only [ev_tmp, ev_const, ev_func, ofConst_int, ofConst_bool, ofConst_str, ofConst_nil, upd_apply, Nat.reduceEqDiff, ↓reduceIte] <;> exact rfl) (by first | exact Sub.refl _ | exact sub1 _ _ | exact sub2 _ _ _ | exact sub3 _ _ _ _ | exact sub4 _ _ _ _ _ | exact sub5 _ _ _ _ _ _) ⟨by rw [may_no1 (by first | (left; omega) | (right; unfold inN; simp only [Bool.and_eq_false_iff, decide_eq_false_iff_not]; omega))], rfl⟩
      · skip
        have h3' := h3; (try simp only [decide_eq_true_eq, decide_eq_false_iff_not, Bool.not_eq_true', Bool.not_false, Bool.not_true, Bool.not_eq_false'] at h3')
        refine g_n rfl h3 ?_
        refine g_n rfl h3 ?_
        refine l_cons rfl (p_pickt h3 ?_)
        refine l_cons rfl (p_move ?_)
        refine g_n rfl rfl ?_
        refine g_n rfl rfl ?_
        refine g_n rfl rfl ?_
        refine g_n rfl rfl ?_
        refine l_cons rfl (p_pickt rfl ?_)
        refine l_nil ?_
        refine k_seq_normal ?_
        refine w_t rfl ?_
        refine w_seq ?_
        refine w_region ?_
        refine l_cons rfl (p_assign ?_)
        refine l_nil ?_
        refine k_seq_normal ?_
        refine w_ret ?_
        refine k_seq_ret ?_
        exact ret1 rfl (by simp only [ev_tmp, ev_const, ev_func, ofConst_int, ofConst_bool, ofConst_str, ofConst_nil, upd_apply, Nat.reduceEqDiff, ↓reduceIte] <;> exact rfl) (by first | exact Sub.refl _ | exact sub1 _ _ | exact sub2 _ _ _ | exact sub3 _ _ _ _ | exact sub4 _ _ _ _ _ | exact sub5 _ _ _ _ _ _) ⟨by rw [may_no1 (by first | (left; omega) | (right; unfold inN; simp only [Bool.and_eq_false_iff, decide_eq_false_iff_not]; omega))], rfl⟩
    · skip
      have h2' := h2; (try simp only [decide_eq_true_eq, decide_eq_false_iff_not, Bool.not_eq_true', Bool.not_false, Bool.not_true, Bool.not_eq_false'] at h2')
      refine g_n rfl h2 ?_
      refine g_n rfl h2 ?_
      refine g_n rfl h2 ?_
      refine l_cons rfl (p_pickt h2 ?_)
      refine l_cons rfl (p_move ?_)
      refine g_n rfl rfl ?_
      refine g_n rfl rfl ?_
      refine g_n rfl rfl ?_
      refine l_cons rfl (p_pickt rfl ?_)
      refine l_cons rfl (p_move ?_)
      refine g_n rfl rfl ?_
      refine g_n rfl rfl ?_
      refine g_n rfl rfl ?_
      refine g_n rfl rfl ?_
      refine l_cons rfl (p_pickt rfl ?_)
      refine l_nil ?_
      refine k_seq_normal ?_
      refine w_t rfl ?_
      refine w_seq ?_
      refine w_region ?_
      refine l_cons rfl (p_assign ?_)
      refine l_nil ?_
      refine k_seq_normal ?_
      refine w_ret ?_
      refine k_seq_ret ?_
      exact ret1 rfl (by simp only [ev_tmp, ev_const, ev_func, ofConst_int, ofConst_bool, ofConst_str, ofConst_nil, upd_apply, Nat.reduceEqDiff, ↓reduceIte] <;> exact rfl) (by first | exact Sub.refl _ | exact sub1 _ _ | exact sub2 _ _ _ | exact sub3 _ _ _ _ | exact sub4 _ _ _ _ _ | exact sub5 _ _ _ _ _ _) ⟨by rw [may_no1 (by first | (left; omega) | (right; unfold inN; simp only [Bool.and_eq_false_iff, decide_eq_false_iff_not]; omega))], rfl⟩
  · skip
    have h1' := h1; (try simp only [decide_eq_true_eq, decide_eq_false_iff_not, Bool.not_eq_true', Bool.not_false, Bool.not_true, Bool.not_eq_false'] at h1')
    refine g_n rfl h1 ?_
    refine g_n rfl h1 ?_
    refine l_cons rfl (p_pickt h1 ?_)
    refine l_cons rfl (p_move ?_)
    refine g_n rfl rfl ?_
    refine g_n rfl rfl ?_
    refine g_n rfl rfl ?_
    refine g_n rfl rfl ?_
    refine l_cons rfl (p_pickt rfl ?_)
    refine l_cons rfl (p_move ?_)
    refine g_n rfl rfl ?_
    refine g_n rfl rfl ?_
    refine g_n rfl rfl ?_
    refine l_cons rfl (p_pickt rfl ?_)
    refine l_cons rfl (p_move ?_)
    refine g_n rfl rfl ?_
    refine g_n rfl rfl ?_
    refine g_n rfl rfl ?_
    refine g_n rfl rfl ?_
    refine l_cons rfl (p_pickt rfl ?_)
    refine l_nil ?_
    refine k_seq_normal ?_
    refine w_t rfl ?_
    refine w_seq ?_
    refine w_region ?_
    refine l_cons rfl (p_assign ?_)
    refine l_nil ?_
    refine k_seq_normal ?_
    refine w_ret ?_
    refine k_seq_ret ?_
    exact ret1 rfl (by simp only [ev_tmp, ev_const, ev_func, ofConst_int, ofConst_bool, ofConst_str, ofConst_nil, upd_apply, Nat.reduceEqDiff, ↓reduceIte] <;> exact rfl) (by first | exact Sub.refl _ | exact sub1 _ _ | exact sub2 _ _ _ | exact sub3 _ _ _ _ | exact sub4 _ _ _ _ _ | exact sub5 _ _ _ _ _ _) ⟨by rw [may_no1 (by first | (left; omega) | (right; unfold inN; simp only [Bool.and_eq_false_iff, decide_eq_false_iff_not]; omega))], rfl⟩
end Go.Proofs.YtfdgbghlanbddaaDoor.Av
