import Derived.Test.YtfdgbghlanbddaaDoorAvSweep
import Derived.Test.YtfdgbghlanbddaaDoorAvG11
set_option linter.unusedVariables false
set_option linter.unusedSimpArgs false
set_option maxRecDepth 8000
namespace Go.Proofs.YtfdgbghlanbddaaDoor.Av
open Go.RowKit Go.Proofs
theorem refClose {w0 : World} {es : List Ent} (n : Nf) (l : List Int) : ACalls Tryd.prog w0 43 [n.av, ints l] es fun v es' => v = ints (closeN n l) ∧ es' = es := by
  unfold Nf.av ints
  refine calls2 (N := 90) Tryd.func43 rfl rfl (by decide) ?_
  refine w_seq ?_
  refine w_region ?_
  refine l_cons rfl (p_box fun s2 => ?_)
  refine l_cons rfl (p_assign ?_)
  refine l_nil ?_
  refine k_seq_normal ?_
  refine w_seq ?_
  refine w_seq ?_
  refine w_len 1 fun hl => ?_
  rw [List.length_map] at hl
  simp only [most] at hl
  refine w_region ?_
  refine l_cons rfl (p_loadp ty_36 ?_)
  refine l_cons rfl (p_callr en_42 (refMay n) ?_)
  refine l_cons rfl (p_not ?_)
  refine l_nil ?_
  refine k_seq_normal ?_
  refine w_b (fun h1 => ?_) (fun h1 => ?_)
  · skip
    have h1' := h1; (try simp only [decide_eq_true_eq, decide_eq_false_iff_not, Bool.not_eq_true', Bool.not_false, Bool.not_true, Bool.not_eq_false'] at h1')
    refine w_seq ?_
    refine w_region ?_
    refine l_cons rfl (p_assign ?_)
    refine l_nil ?_
    refine k_seq_normal ?_
    refine w_nilList 4 1 ?_
    refine w_ret ?_
    refine k_seq_ret ?_
    exact ret1 rfl (by simp only [ev_tmp, ev_const, ev_func, ofConst_int, ofConst_bool, ofConst_str, ofConst_nil, upd_apply, Nat.reduceEqDiff, ↓reduceIte] <;> exact rfl) (by first | exact Sub.refl _ | exact sub1 _ _ | exact sub2 _ _ _ | exact sub3 _ _ _ _ | exact sub4 _ _ _ _ _ | exact sub5 _ _ _ _ _ _) ⟨by unfold closeN; rw [h1']; rfl, rfl⟩
  · skip
    have h1' := h1; (try simp only [decide_eq_true_eq, decide_eq_false_iff_not, Bool.not_eq_true', Bool.not_false, Bool.not_true, Bool.not_eq_false'] at h1')
    refine w_skip ?_
    refine k_seq_normal ?_
    refine w_seq ?_
    have hst := may_le h1'
    refine w_region ?_
    refine l_cons rfl (p_fap fa_36_0 ?_)
    refine l_cons rfl (p_loadp ty_34 ?_)
    first | refine l_cons rfl (p_lenl sl_34 ?_) | refine l_cons rfl (p_leno sl_34 ?_) | refine l_cons rfl (p_lenn sl_34 ?_)
    refine l_cons rfl (p_makeSlice sl_60 by_4 ze_4  fun s17 => ?_)
    refine l_cons rfl (p_assign ?_)
    refine l_nil ?_
    refine k_seq_normal ?_
    refine w_seq ?_
    refine w_seq ?_
    refine w_region ?_
    refine l_cons rfl (p_assign ?_)
    refine l_nil ?_
    refine k_seq_normal ?_
    refine w_block ?_
    refine w_loop (fun m f es' => ∃ j bs, m = l.length - j ∧ j ≤ l.length ∧ RT n l bs j ∧ es' = .row s17 4 1 (bs.map fun b => [.bool b]) :: .row s2 36 3 [n.cells] :: es ∧ Knows f [(2, .ptr es.length s2 0 0), (5, .own (es.length + 1) s17), (1, .list 1 (l.map fun n => [.int .i64 n])), (6, .int .i64 j)]) (l.length) (⟨0, _, rfl, Nat.zero_le _, RT.begin n l, by simp [List.map_replicate, Nf.cells], by simp only [Knows, put, upd_apply, Nat.reduceEqDiff, ↓reduceIte, and_true, true_and, eq_self] <;> first | exact rfl | exact ⟨rfl, rfl⟩ | exact ⟨rfl, rfl, rfl⟩ | exact ⟨rfl, rfl, rfl, rfl⟩ | exact ⟨rfl, rfl, rfl, rfl, rfl⟩ | exact ⟨rfl, rfl, rfl, rfl, rfl, rfl⟩⟩) ?_
    rintro m f es' ⟨j, bs, rfl, hj1, hrt, rfl, hk⟩
    have hbl := hrt.len
    refine w_pins _ (Sub.refl _) (hk) ?_
    simp only [pins]
    refine w_seq ?_
    refine w_seq ?_
    refine w_region ?_
    refine l_cons rfl (p_move ?_)
    refine l_cons rfl (p_move ?_)
    refine l_cons rfl (p_lenl sl_48 ?_)
    refine l_cons rfl (p_cmp ?_)
    refine l_nil ?_
    refine k_seq_normal ?_
    refine w_b (fun h2 => ?_) (fun h2 => ?_)
    · skip
      have h2' := h2; (try simp only [decide_eq_true_eq, decide_eq_false_iff_not, Bool.not_eq_true', Bool.not_false, Bool.not_true, Bool.not_eq_false'] at h2')
      refine w_skip ?_
      refine k_seq_normal ?_
      refine w_seq ?_
      refine w_block ?_
      refine w_seq ?_
      refine w_region ?_
      refine l_cons rfl (p_move ?_)
      refine l_cons rfl (p_move ?_)
      refine l_cons rfl (p_ixl sl_48 ?_)
      refine l_cons rfl (p_loadf ty_3 ?_)
      refine l_cons rfl (p_cmp ?_)
      refine l_cons rfl (p_move ?_)
      refine g_b rfl (fun h3 => ?_) (fun h3 => ?_)
      · skip
        have h3' := h3; (try simp only [decide_eq_true_eq, decide_eq_false_iff_not, Bool.not_eq_true', Bool.not_false, Bool.not_true, Bool.not_eq_false'] at h3')
        refine (p_move ?_)
        refine g_y rfl h3 (p_move ?_)
        refine g_y rfl h3 (p_ixl sl_48 ?_)
        refine g_y rfl h3 (p_loadf ty_3 ?_)
        refine g_y rfl h3 (p_move ?_)
        refine g_y rfl h3 (p_leno sl_60 ?_)
        refine g_y rfl h3 (p_cmp ?_)
        refine l_cons rfl (p_pickt h3 ?_)
        refine l_nil ?_
        refine k_seq_normal ?_
        refine w_b (fun h4 => ?_) (fun h4 => ?_)
        · skip
          have h4' := h4; (try simp only [decide_eq_true_eq, decide_eq_false_iff_not, Bool.not_eq_true', Bool.not_false, Bool.not_true, Bool.not_eq_false'] at h4')
          refine w_region ?_
          refine l_cons rfl (p_move ?_)
          refine l_cons rfl (p_move ?_)
          refine l_cons rfl (p_move ?_)
          refine l_cons rfl (p_ixl sl_48 ?_)
          refine l_cons rfl (p_loadf ty_3 ?_)
          refine l_cons rfl (p_ixo sl_60 ?_)
          refine l_cons rfl (p_store ty_4 ?_)
          refine l_nil ?_
          refine k_blk_normal ?_
          refine k_seq_normal ?_
          refine w_region ?_
          refine l_cons rfl (p_move ?_)
          refine l_cons rfl (p_arith ?_)
          refine l_cons rfl (p_assign ?_)
          refine l_nil ?_
          refine k_seq_normal ?_
          first
          | exact ⟨l.length - (j + 1), by omega, j + 1, _, rfl, by omega, hrt.yes (by omega) (by omega) (by omega), by rw [List.map_set], by simp only [Knows, put, upd_apply, Nat.reduceEqDiff, ↓reduceIte, and_true, true_and, eq_self] <;> first | exact rfl | exact ⟨rfl, rfl⟩ | exact ⟨rfl, rfl, rfl⟩ | exact ⟨rfl, rfl, rfl, rfl⟩ | exact ⟨rfl, rfl, rfl, rfl, rfl⟩ | exact ⟨rfl, rfl, rfl, rfl, rfl, rfl⟩⟩
          | exact ⟨l.length - (j + 1), by omega, j + 1, bs, rfl, by omega, hrt.no (by omega) (by omega), rfl, by simp only [Knows, put, upd_apply, Nat.reduceEqDiff, ↓reduceIte, and_true, true_and, eq_self] <;> first | exact rfl | exact ⟨rfl, rfl⟩ | exact ⟨rfl, rfl, rfl⟩ | exact ⟨rfl, rfl, rfl, rfl⟩ | exact ⟨rfl, rfl, rfl, rfl, rfl⟩ | exact ⟨rfl, rfl, rfl, rfl, rfl, rfl⟩⟩
        · skip
          have h4' := h4; (try simp only [decide_eq_true_eq, decide_eq_false_iff_not, Bool.not_eq_true', Bool.not_false, Bool.not_true, Bool.not_eq_false'] at h4')
          refine w_skip ?_
          refine k_blk_normal ?_
          refine k_seq_normal ?_
          refine w_region ?_
          refine l_cons rfl (p_move ?_)
          refine l_cons rfl (p_arith ?_)
          refine l_cons rfl (p_assign ?_)
          refine l_nil ?_
          refine k_seq_normal ?_
          first
          | exact ⟨l.length - (j + 1), by omega, j + 1, _, rfl, by omega, hrt.yes (by omega) (by omega) (by omega), by rw [List.map_set], by simp only [Knows, put, upd_apply, Nat.reduceEqDiff, ↓reduceIte, and_true, true_and, eq_self] <;> first | exact rfl | exact ⟨rfl, rfl⟩ | exact ⟨rfl, rfl, rfl⟩ | exact ⟨rfl, rfl, rfl, rfl⟩ | exact ⟨rfl, rfl, rfl, rfl, rfl⟩ | exact ⟨rfl, rfl, rfl, rfl, rfl, rfl⟩⟩
          | exact ⟨l.length - (j + 1), by omega, j + 1, bs, rfl, by omega, hrt.no (by omega) (by omega), rfl, by simp only [Knows, put, upd_apply, Nat.reduceEqDiff, ↓reduceIte, and_true, true_and, eq_self] <;> first | exact rfl | exact ⟨rfl, rfl⟩ | exact ⟨rfl, rfl, rfl⟩ | exact ⟨rfl, rfl, rfl, rfl⟩ | exact ⟨rfl, rfl, rfl, rfl, rfl⟩ | exact ⟨rfl, rfl, rfl, rfl, rfl, rfl⟩⟩
      · skip
        have h3' := h3; (try simp only [decide_eq_true_eq, decide_eq_false_iff_not, Bool.not_eq_true', Bool.not_false, Bool.not_true, Bool.not_eq_false'] at h3')
        refine g_n rfl h3 ?_
        refine g_n rfl h3 ?_
        refine g_n rfl h3 ?_
        refine g_n rfl h3 ?_
        refine g_n rfl h3 ?_
        refine g_n rfl h3 ?_
        refine l_cons rfl (p_pickf h3 ?_)
        refine l_nil ?_
        refine k_seq_normal ?_
        refine w_f rfl ?_
        refine w_skip ?_
        refine k_blk_normal ?_
        refine k_seq_normal ?_
        refine w_region ?_
        refine l_cons rfl (p_move ?_)
        refine l_cons rfl (p_arith ?_)
        refine l_cons rfl (p_assign ?_)
        refine l_nil ?_
        refine k_seq_normal ?_
        first
        | exact ⟨l.length - (j + 1), by omega, j + 1, _, rfl, by omega, hrt.yes (by omega) (by omega) (by omega), by rw [List.map_set], by simp only [Knows, put, upd_apply, Nat.reduceEqDiff, ↓reduceIte, and_true, true_and, eq_self] <;> first | exact rfl | exact ⟨rfl, rfl⟩ | exact ⟨rfl, rfl, rfl⟩ | exact ⟨rfl, rfl, rfl, rfl⟩ | exact ⟨rfl, rfl, rfl, rfl, rfl⟩ | exact ⟨rfl, rfl, rfl, rfl, rfl, rfl⟩⟩
        | exact ⟨l.length - (j + 1), by omega, j + 1, bs, rfl, by omega, hrt.no (by omega) (by omega), rfl, by simp only [Knows, put, upd_apply, Nat.reduceEqDiff, ↓reduceIte, and_true, true_and, eq_self] <;> first | exact rfl | exact ⟨rfl, rfl⟩ | exact ⟨rfl, rfl, rfl⟩ | exact ⟨rfl, rfl, rfl, rfl⟩ | exact ⟨rfl, rfl, rfl, rfl, rfl⟩ | exact ⟨rfl, rfl, rfl, rfl, rfl, rfl⟩⟩
    · skip
      have h2' := h2; (try simp only [decide_eq_true_eq, decide_eq_false_iff_not, Bool.not_eq_true', Bool.not_false, Bool.not_true, Bool.not_eq_false'] at h2')
      refine w_exit ?_
      refine k_seq_exit ?_
      refine k_seq_exit ?_
      refine k_blk_here ?_
      refine k_seq_normal ?_
      refine w_seq ?_
      refine w_seq ?_
      refine w_region ?_
      refine l_cons rfl (p_assign ?_)
      refine l_nil ?_
      refine k_seq_normal ?_
      refine w_block ?_
      refine w_loop (fun m f es' => ∃ bs again, m = bs.count false + (if again = true then 1 else 0) ∧ RI n l bs ∧ (again = false → ∀ i, On bs i ↔ Reach n l i) ∧ es' = .row s17 4 1 (bs.map fun b => [.bool b]) :: .row s2 36 3 [n.cells] :: es ∧ Knows f [(2, .ptr es.length s2 0 0), (5, .own (es.length + 1) s17), (7, .bool again)]) (_) (⟨bs, true, rfl, hrt.fin (by omega), fun e => (by cases e), rfl, by simp only [Knows, put, upd_apply, Nat.reduceEqDiff, ↓reduceIte, and_true, true_and, eq_self] <;> first | exact rfl | exact ⟨rfl, rfl⟩ | exact ⟨rfl, rfl, rfl⟩ | exact ⟨rfl, rfl, rfl, rfl⟩ | exact ⟨rfl, rfl, rfl, rfl, rfl⟩ | exact ⟨rfl, rfl, rfl, rfl, rfl, rfl⟩⟩) ?_
      rintro m f es' ⟨bs, again, rfl, hri, hfin, rfl, hk⟩
      have hbl := hri.len
      refine w_pins _ (Sub.refl _) (hk) ?_
      simp only [pins]
      refine w_seq ?_
      refine w_seq ?_
      refine w_region ?_
      refine l_cons rfl (p_move ?_)
      refine l_nil ?_
      refine k_seq_normal ?_
      refine w_b (fun h5 => ?_) (fun h5 => ?_)
      · skip
        have h5' := h5; (try simp only [decide_eq_true_eq, decide_eq_false_iff_not, Bool.not_eq_true', Bool.not_false, Bool.not_true, Bool.not_eq_false'] at h5')
        refine w_skip ?_
        refine k_seq_normal ?_
        refine w_block ?_
        refine w_seq ?_
        refine w_region ?_
        refine l_cons rfl (p_assign ?_)
        refine l_nil ?_
        refine k_seq_normal ?_
        refine w_seq ?_
        refine w_region ?_
        refine l_cons rfl (p_assign ?_)
        refine l_nil ?_
        refine k_seq_normal ?_
        refine w_block ?_
        refine w_loop (fun m f es' => ∃ i bs' again', m = n.st.length - i ∧ i ≤ n.st.length ∧ SW n l bs again' bs' i 0 ∧ es' = .row s17 4 1 (bs'.map fun b => [.bool b]) :: .row s2 36 3 [n.cells] :: es ∧ Knows f [(2, .ptr es.length s2 0 0), (5, .own (es.length + 1) s17), (7, .bool again'), (8, .int .i64 i)]) (n.st.length) (⟨0, bs, false, rfl, Nat.zero_le _, SW.begin hri, rfl, by simp only [Knows, put, upd_apply, Nat.reduceEqDiff, ↓reduceIte, and_true, true_and, eq_self] <;> first | exact rfl | exact ⟨rfl, rfl⟩ | exact ⟨rfl, rfl, rfl⟩ | exact ⟨rfl, rfl, rfl, rfl⟩ | exact ⟨rfl, rfl, rfl, rfl, rfl⟩ | exact ⟨rfl, rfl, rfl, rfl, rfl, rfl⟩⟩) ?_
        rintro m f es' ⟨i, bs', again', rfl, hi1, hsw, rfl, hk⟩
        have hbl' := hsw.ri.len
        refine w_pins _ (Sub.refl _) (hk) ?_
        simp only [pins]
        refine w_seq ?_
        refine w_seq ?_
        refine w_region ?_
        refine l_cons rfl (p_move ?_)
        refine l_cons rfl (p_move ?_)
        refine l_cons rfl (p_leno sl_60 ?_)
        refine l_cons rfl (p_cmp ?_)
        refine l_nil ?_
        refine k_seq_normal ?_
        refine w_b (fun h6 => ?_) (fun h6 => ?_)
        · skip
          have h6' := h6; (try simp only [decide_eq_true_eq, decide_eq_false_iff_not, Bool.not_eq_true', Bool.not_false, Bool.not_true, Bool.not_eq_false'] at h6')
          refine w_skip ?_
          refine k_seq_normal ?_
          refine w_seq ?_
          refine w_block ?_
          refine w_seq ?_
          refine w_region ?_
          refine l_cons rfl (p_assign ?_)
          refine l_nil ?_
          refine k_seq_normal ?_
          refine w_block ?_
          refine w_loop (fun m f es' => ∃ k bs2 again2, m = ((n.st[i]'(by omega)).free).length - k ∧ k ≤ ((n.st[i]'(by omega)).free).length ∧ SW n l bs again2 bs2 i k ∧ es' = .row s17 4 1 (bs2.map fun b => [.bool b]) :: .row s2 36 3 [n.cells] :: es ∧ Knows f [(2, .ptr es.length s2 0 0), (5, .own (es.length + 1) s17), (7, .bool again2), (8, .int .i64 i), (9, .int .i64 k)]) (((n.st[i]'(by omega)).free).length) (⟨0, bs', again', rfl, Nat.zero_le _, hsw, rfl, by simp only [Knows, put, upd_apply, Nat.reduceEqDiff, ↓reduceIte, and_true, true_and, eq_self] <;> first | exact rfl | exact ⟨rfl, rfl⟩ | exact ⟨rfl, rfl, rfl⟩ | exact ⟨rfl, rfl, rfl, rfl⟩ | exact ⟨rfl, rfl, rfl, rfl, rfl⟩ | exact ⟨rfl, rfl, rfl, rfl, rfl, rfl⟩⟩) ?_
          rintro m f es' ⟨k, bs2, again2, rfl, hk1, hsw, rfl, hk⟩
          have hbl2 := hsw.ri.len
          refine w_pins _ (Sub.refl _) (hk) ?_
          simp only [pins]
          refine w_seq ?_
          refine w_seq ?_
          refine w_region ?_
          refine l_cons rfl (p_move ?_)
          refine l_cons rfl (p_fap fa_36_0 ?_)
          refine l_cons rfl (p_loadp ty_34 ?_)
          refine l_cons rfl (p_move ?_)
          first | refine l_cons rfl (p_ixl sl_34 ?_) | refine l_cons rfl (p_ixo sl_34 ?_)
          first | refine l_cons rfl (p_fap fa_75_2 ?_) | refine l_cons rfl (p_faf fa_75_2 ?_)
          first | refine l_cons rfl (p_loadf ty_48 ?_) | refine l_cons rfl (p_loadp ty_48 ?_)
          refine l_len 57 fun hfl => ?_
          simp only [List.length_map, most] at hfl
          first | refine l_cons rfl (p_lenl sl_48 ?_) | refine l_cons rfl (p_leno sl_48 ?_) | refine l_cons rfl (p_lenn sl_48 ?_)
          refine l_cons rfl (p_cmp ?_)
          refine l_cons rfl (p_move ?_)
          refine g_b rfl (fun h7 => ?_) (fun h7 => ?_)
          · skip
            have h7' := h7; (try simp only [decide_eq_true_eq, decide_eq_false_iff_not, Bool.not_eq_true', Bool.not_false, Bool.not_true, Bool.not_eq_false'] at h7')
            refine (p_move ?_)
            refine g_y rfl h7 (p_move ?_)
            refine g_y rfl h7 (p_ixo sl_60 ?_)
            refine g_y rfl h7 (p_loadp ty_4 ?_)
            refine l_cons rfl (p_pickt h7 ?_)
            refine l_nil ?_
            refine k_seq_normal ?_
            refine w_b (fun h8 => ?_) (fun h8 => ?_)
            · skip
              have h8' := h8; (try simp only [decide_eq_true_eq, decide_eq_false_iff_not, Bool.not_eq_true', Bool.not_false, Bool.not_true, Bool.not_eq_false'] at h8')
              refine w_skip ?_
              refine k_seq_normal ?_
              refine w_seq ?_
              refine w_block ?_
              refine w_seq ?_
              refine w_region ?_
              refine l_cons rfl (p_fap fa_36_0 ?_)
              refine l_cons rfl (p_loadp ty_34 ?_)
              refine l_cons rfl (p_move ?_)
              first | refine l_cons rfl (p_ixl sl_34 ?_) | refine l_cons rfl (p_ixo sl_34 ?_)
              first | refine l_cons rfl (p_fap fa_75_2 ?_) | refine l_cons rfl (p_faf fa_75_2 ?_)
              first | refine l_cons rfl (p_loadf ty_48 ?_) | refine l_cons rfl (p_loadp ty_48 ?_)
              refine l_cons rfl (p_move ?_)
              first | refine l_cons rfl (p_ixl sl_48 ?_) | refine l_cons rfl (p_ixo sl_48 ?_)
              first | refine l_cons rfl (p_loadf ty_3 ?_) | refine l_cons rfl (p_loadp ty_3 ?_)
              refine l_cons rfl (p_assign ?_)
              refine l_nil ?_
              refine k_seq_normal ?_
              refine w_seq ?_
              have hto := may_free h1' (i := i) (k := k) (by omega) (by omega)
              refine w_region ?_
              refine l_cons rfl (p_move ?_)
              refine l_cons rfl (p_move ?_)
              refine g_b rfl (fun h9 => ?_) (fun h9 => ?_)
              · skip
                have h9' := h9; (try simp only [decide_eq_true_eq, decide_eq_false_iff_not, Bool.not_eq_true', Bool.not_false, Bool.not_true, Bool.not_eq_false'] at h9')
                refine (p_move ?_)
                refine g_y rfl h9 (p_move ?_)
                refine g_y rfl h9 (p_ixo sl_60 ?_)
                refine g_y rfl h9 (p_loadp ty_4 ?_)
                refine g_y rfl h9 (p_not ?_)
                refine l_cons rfl (p_pickf h9 ?_)
                refine l_cons rfl (p_assign ?_)
                refine l_nil ?_
                refine k_seq_normal ?_
                refine w_region ?_
                refine l_cons rfl (p_move ?_)
                refine l_cons rfl (p_move ?_)
                refine l_cons rfl (p_ixo sl_60 ?_)
                refine l_cons rfl (p_store ty_4 ?_)
                refine l_nil ?_
                refine k_blk_normal ?_
                refine k_seq_normal ?_
                refine w_region ?_
                refine l_cons rfl (p_move ?_)
                refine l_cons rfl (p_arith ?_)
                refine l_cons rfl (p_assign ?_)
                refine l_nil ?_
                refine k_seq_normal ?_
                have hon : On bs2 i := by
                  unfold On
                  rw [List.getElem?_eq_getElem (by omega)]
                  simp_all
                refine ⟨((n.st[i]'(by omega)).free).length - (k + 1), by omega, k + 1, _, _, rfl, by omega, hsw.mark (by omega) (by omega) hon hto.1 (by omega), by rw [List.map_set], ?_⟩
                simp only [Knows, put, upd_apply, Nat.reduceEqDiff, ↓reduceIte, and_true, true_and, eq_self]
                first | exact ⟨by simp [*], rfl⟩ | simp [*]
              · skip
                have h9' := h9; (try simp only [decide_eq_true_eq, decide_eq_false_iff_not, Bool.not_eq_true', Bool.not_false, Bool.not_true, Bool.not_eq_false'] at h9')
                refine g_n rfl h9 ?_
                refine g_n rfl h9 ?_
                refine g_n rfl h9 ?_
                refine g_n rfl h9 ?_
                refine l_cons rfl (p_pickt h9 ?_)
                refine l_cons rfl (p_assign ?_)
                refine l_nil ?_
                refine k_seq_normal ?_
                refine w_region ?_
                refine l_cons rfl (p_move ?_)
                refine l_cons rfl (p_move ?_)
                refine l_cons rfl (p_ixo sl_60 ?_)
                refine l_cons rfl (p_store ty_4 ?_)
                refine l_nil ?_
                refine k_blk_normal ?_
                refine k_seq_normal ?_
                refine w_region ?_
                refine l_cons rfl (p_move ?_)
                refine l_cons rfl (p_arith ?_)
                refine l_cons rfl (p_assign ?_)
                refine l_nil ?_
                refine k_seq_normal ?_
                have hon : On bs2 i := by
                  unfold On
                  rw [List.getElem?_eq_getElem (by omega)]
                  simp_all
                refine ⟨((n.st[i]'(by omega)).free).length - (k + 1), by omega, k + 1, _, _, rfl, by omega, hsw.mark (by omega) (by omega) hon hto.1 (by omega), by rw [List.map_set], ?_⟩
                simp only [Knows, put, upd_apply, Nat.reduceEqDiff, ↓reduceIte, and_true, true_and, eq_self]
                first | exact ⟨by simp [*], rfl⟩ | simp [*]
            · skip
              have h8' := h8; (try simp only [decide_eq_true_eq, decide_eq_false_iff_not, Bool.not_eq_true', Bool.not_false, Bool.not_true, Bool.not_eq_false'] at h8')
              refine w_exit ?_
              refine k_seq_exit ?_
              refine k_seq_exit ?_
              refine k_blk_here ?_
              refine k_blk_normal ?_
              refine k_seq_normal ?_
              refine w_region ?_
              refine l_cons rfl (p_move ?_)
              refine l_cons rfl (p_arith ?_)
              refine l_cons rfl (p_assign ?_)
              refine l_nil ?_
              refine k_seq_normal ?_
              exact ⟨n.st.length - (i + 1), by omega, i + 1, bs2, again2, rfl, by omega, hsw.next (by omega) (by first | exact .inl (by omega) | exact .inr (fun ho => by unfold On at ho; simp_all)), rfl, by simp only [Knows, put, upd_apply, Nat.reduceEqDiff, ↓reduceIte, and_true, true_and, eq_self] <;> first | exact rfl | exact ⟨rfl, rfl⟩ | exact ⟨rfl, rfl, rfl⟩ | exact ⟨rfl, rfl, rfl, rfl⟩ | exact ⟨rfl, rfl, rfl, rfl, rfl⟩ | exact ⟨rfl, rfl, rfl, rfl, rfl, rfl⟩⟩
          · skip
            have h7' := h7; (try simp only [decide_eq_true_eq, decide_eq_false_iff_not, Bool.not_eq_true', Bool.not_false, Bool.not_true, Bool.not_eq_false'] at h7')
            refine g_n rfl h7 ?_
            refine g_n rfl h7 ?_
            refine g_n rfl h7 ?_
            refine l_cons rfl (p_pickf h7 ?_)
            refine l_nil ?_
            refine k_seq_normal ?_
            refine w_f rfl ?_
            refine w_exit ?_
            refine k_seq_exit ?_
            refine k_seq_exit ?_
            refine k_blk_here ?_
            refine k_blk_normal ?_
            refine k_seq_normal ?_
            refine w_region ?_
            refine l_cons rfl (p_move ?_)
            refine l_cons rfl (p_arith ?_)
            refine l_cons rfl (p_assign ?_)
            refine l_nil ?_
            refine k_seq_normal ?_
            exact ⟨n.st.length - (i + 1), by omega, i + 1, bs2, again2, rfl, by omega, hsw.next (by omega) (by first | exact .inl (by omega) | exact .inr (fun ho => by unfold On at ho; simp_all)), rfl, by simp only [Knows, put, upd_apply, Nat.reduceEqDiff, ↓reduceIte, and_true, true_and, eq_self] <;> first | exact rfl | exact ⟨rfl, rfl⟩ | exact ⟨rfl, rfl, rfl⟩ | exact ⟨rfl, rfl, rfl, rfl⟩ | exact ⟨rfl, rfl, rfl, rfl, rfl⟩ | exact ⟨rfl, rfl, rfl, rfl, rfl, rfl⟩⟩
        · skip
          have h6' := h6; (try simp only [decide_eq_true_eq, decide_eq_false_iff_not, Bool.not_eq_true', Bool.not_false, Bool.not_true, Bool.not_eq_false'] at h6')
          refine w_exit ?_
          refine k_seq_exit ?_
          refine k_seq_exit ?_
          refine k_blk_here ?_
          refine k_blk_normal ?_
          refine k_seq_normal ?_
          have hin : i = n.st.length := by omega
          subst hin
          refine ⟨_, ?_, bs', again', rfl, hsw.ri, fun e => (by subst e; exact hsw.fin), rfl, by simp only [Knows, put, upd_apply, Nat.reduceEqDiff, ↓reduceIte, and_true, true_and, eq_self] <;> first | exact rfl | exact ⟨rfl, rfl⟩ | exact ⟨rfl, rfl, rfl⟩ | exact ⟨rfl, rfl, rfl, rfl⟩ | exact ⟨rfl, rfl, rfl, rfl, rfl⟩ | exact ⟨rfl, rfl, rfl, rfl, rfl, rfl⟩⟩
          have hle := hsw.le
          have hls := hsw.less
          cases again' <;> simp_all <;> omega
      · skip
        have h5' := h5; (try simp only [decide_eq_true_eq, decide_eq_false_iff_not, Bool.not_eq_true', Bool.not_false, Bool.not_true, Bool.not_eq_false'] at h5')
        refine w_exit ?_
        refine k_seq_exit ?_
        refine k_seq_exit ?_
        refine k_blk_here ?_
        refine k_seq_normal ?_
        refine w_seq ?_
        refine w_region ?_
        refine l_cons rfl (p_move ?_)
        refine l_cons rfl (p_callr en_88 (marked_walk (at_hit _ _) (by have := hri.len; omega)) ?_)
        refine l_cons rfl (p_assign ?_)
        refine l_nil ?_
        refine k_seq_normal ?_
        refine w_ret ?_
        exact ret1 rfl (by simp only [ev_tmp, ev_const, ev_func, ofConst_int, ofConst_bool, ofConst_str, ofConst_nil, upd_apply, Nat.reduceEqDiff, ↓reduceIte] <;> exact rfl) (by first | exact Sub.refl _ | exact sub1 _ _ | exact sub2 _ _ _ | exact sub3 _ _ _ _ | exact sub4 _ _ _ _ _ | exact sub5 _ _ _ _ _ _) ⟨by rw [marks_reach hri.len (hfin (by assumption))]; unfold closeN; rw [h1']; rfl, rfl⟩
end Go.Proofs.YtfdgbghlanbddaaDoor.Av
