import Derived.Test.YtfdgbghlanbddaaDoorAvG12
import Derived.Test.YtfdgbghlanbddaaDoorAvG8
set_option linter.unusedVariables false
set_option linter.unusedSimpArgs false
set_option maxRecDepth 8000
namespace Go.Proofs.YtfdgbghlanbddaaDoor.Av
open Go.RowKit Go.Proofs
theorem refStep {w0 : World} {es : List Ent} (n : Nf) (hok : ∀ s ∈ n.st, 0 ≤ s.w0 ∧ 0 ≤ s.w1 ∧ 0 ≤ s.w2 ∧ 0 ≤ s.w3) (l : List Int) (b : Int) (hl : l.length ≤ 1099511627776) (hb0 : 0 ≤ b) (hb1 : b < 256) : ACalls Tryd.prog w0 45 [n.av, ints l, .int .u8 b] es fun v es' => v = ints (stepN n l b) ∧ es' = es := by
  unfold Nf.av ints
  refine calls3 (N := 73) Tryd.func45 rfl rfl (by decide) ?_
  refine w_seq ?_
  refine w_region ?_
  refine l_cons rfl (p_box fun s3 => ?_)
  refine l_cons rfl (p_assign ?_)
  refine l_nil ?_
  refine k_seq_normal ?_
  refine w_seq ?_
  refine w_seq ?_
  refine w_region ?_
  refine l_cons rfl (p_loadp ty_36 ?_)
  refine l_cons rfl (p_callr en_42 (refMay n) ?_)
  refine l_cons rfl (p_not ?_)
  refine l_nil ?_
  refine k_seq_normal ?_
  refine w_b (fun h1 => ?_) (fun h1 => ?_)
  · skip
    have h1' := h1; (try simp only [decide_eq_true_eq, decide_eq_false_iff_not, Bool.not_eq_true', Bool.not_false, Bool.not_true, Bool.not_eq_false'] at h1')
    refine w_seq ?_
    refine w_region ?_
    refine l_cons rfl (p_assign ?_)
    refine l_nil ?_
    refine k_seq_normal ?_
    refine w_nilList 6 1 ?_
    refine w_ret ?_
    refine k_seq_ret ?_
    exact ret1 rfl (by simp only [ev_tmp, ev_const, ev_func, ofConst_int, ofConst_bool, ofConst_str, ofConst_nil, upd_apply, Nat.reduceEqDiff, ↓reduceIte] <;> exact rfl) (by first | exact Sub.refl _ | exact sub1 _ _ | exact sub2 _ _ _ | exact sub3 _ _ _ _ | exact sub4 _ _ _ _ _ | exact sub5 _ _ _ _ _ _) ⟨by unfold stepN; rw [h1']; rfl, rfl⟩
  · skip
    have h1' := h1; (try simp only [decide_eq_true_eq, decide_eq_false_iff_not, Bool.not_eq_true', Bool.not_false, Bool.not_true, Bool.not_eq_false'] at h1')
    refine w_skip ?_
    refine k_seq_normal ?_
    refine w_seq ?_
    refine w_region ?_
    refine l_cons rfl (p_assign ?_)
    refine l_nil ?_
    refine k_seq_normal ?_
    refine w_seq ?_
    refine w_seq ?_
    refine w_adopt 7 3 1 rfl fun s7 => ?_
    simp only [upd_upd]
    refine w_region ?_
    refine l_cons rfl (p_assign ?_)
    refine l_nil ?_
    refine k_seq_normal ?_
    refine w_block ?_
    refine w_loop (fun m f es' => ∃ k s7, m = l.length - k ∧ k ≤ l.length ∧ es' = .row s7 3 1 ((stepTo n (l.take k) b).map fun n => [.int .i64 n]) :: .row s3 36 3 [n.cells] :: es ∧ Knows f [(1, .list 1 (l.map fun n => [.int .i64 n])), (2, .int .u8 b), (3, .ptr es.length s3 0 0), (7, .own (es.length + 1) s7), (8, .int .i64 k)]) (l.length) (⟨0, s7, rfl, Nat.zero_le _, rfl, by simp only [Knows, put, upd_apply, Nat.reduceEqDiff, ↓reduceIte, and_true, true_and, eq_self] <;> first | exact rfl | exact ⟨rfl, rfl⟩ | exact ⟨rfl, rfl, rfl⟩ | exact ⟨rfl, rfl, rfl, rfl⟩ | exact ⟨rfl, rfl, rfl, rfl, rfl⟩ | exact ⟨rfl, rfl, rfl, rfl, rfl, rfl⟩⟩) ?_
    rintro m f es' ⟨k, s7, rfl, hk1, rfl, hk⟩
    have hle := stepTo_le n (l.take k) b
    rw [List.length_take] at hle
    refine w_pins _ (Sub.refl _) (hk) ?_
    simp only [pins]
    refine w_seq ?_
    refine w_seq ?_
    refine w_region ?_
    refine l_cons rfl (p_move ?_)
    refine l_cons rfl (p_move ?_)
    refine l_cons rfl (p_lenl sl_48 ?_)
    refine l_cons rfl (p_cmp ?_)
    refine l_nil ?_
    refine k_seq_normal ?_
    refine w_b (fun h2 => ?_) (fun h2 => ?_)
    · skip
      have h2' := h2; (try simp only [decide_eq_true_eq, decide_eq_false_iff_not, Bool.not_eq_true', Bool.not_false, Bool.not_true, Bool.not_eq_false'] at h2')
      refine w_skip ?_
      refine k_seq_normal ?_
      refine w_seq ?_
      refine w_block ?_
      refine w_seq ?_
      refine w_drawn 38 [] (fun e => e = _) mixed (by kernel_rfl) rfl ?_
      refine q1 1 (hg := rfl) (hu := rfl) (h := by rintro f _ rfl; exact p_move ⟨rfl, rfl⟩) (k := ?_)
      refine q1 8 (hg := rfl) (hu := rfl) (h := by rintro f _ rfl; exact p_move ⟨rfl, rfl⟩) (k := ?_)
      refine q2 18 19 (hg := rfl) (hu := rfl) (h := by rintro f _ rfl; exact p_ixl sl_48 ⟨rfl, rfl⟩) (k := ?_)
      refine q1 20 (hg := rfl) (hu := rfl) (h := by rintro f _ rfl; exact p_loadf ty_3 ⟨rfl, rfl⟩) (k := ?_)
      refine q1 21 (hg := rfl) (hu := rfl) (h := by rintro f _ rfl; exact p_cmp ⟨rfl, rfl⟩) (k := ?_)
      refine q1 22 (hg := rfl) (hu := rfl) (h := by rintro f _ rfl; exact p_move ⟨rfl, rfl⟩) (k := ?_)
      refine qsplit 23 (fun h3 => ?_) (fun h3 => ?_)
      · skip
        have h3' := h3; (try simp only [decide_eq_true_eq, decide_eq_false_iff_not, Bool.not_eq_true', Bool.not_false, Bool.not_true, Bool.not_eq_false'] at h3')
        refine qy1 1 (hg := rfl) (hw := h3) (hu := rfl) (h := by rintro f _ rfl; exact p_move ⟨rfl, rfl⟩) (k := ?_)
        refine qy1 8 (hg := rfl) (hw := h3) (hu := rfl) (h := by rintro f _ rfl; exact p_move ⟨rfl, rfl⟩) (k := ?_)
        refine qy2 24 25 (hg := rfl) (hw := h3) (hu := rfl) (h := by rintro f _ rfl; exact p_ixl sl_48 ⟨rfl, rfl⟩) (k := ?_)
        refine qy1 26 (hg := rfl) (hw := h3) (hu := rfl) (h := by rintro f _ rfl; exact p_loadf ty_3 ⟨rfl, rfl⟩) (k := ?_)
        refine qy1 3 (hg := rfl) (hw := h3) (hu := rfl) (h := by rintro f _ rfl; exact p_fap fa_36_0 ⟨rfl, rfl⟩) (k := ?_)
        refine qy1 28 (hg := rfl) (hw := h3) (hu := rfl) (h := by rintro f _ rfl; exact p_loadp ty_34 ⟨rfl, rfl⟩) (k := ?_)
        first | refine qy1 29 (hg := rfl) (hw := h3) (hu := rfl) (h := by rintro f _ rfl; exact p_lenl sl_34 ⟨rfl, rfl⟩) (k := ?_) | refine qy1 29 (hg := rfl) (hw := h3) (hu := rfl) (h := by rintro f _ rfl; exact p_leno sl_34 ⟨rfl, rfl⟩) (k := ?_) | refine qy1 29 (hg := rfl) (hw := h3) (hu := rfl) (h := by rintro f _ rfl; exact p_lenn sl_34 ⟨rfl, rfl⟩) (k := ?_)
        refine qy2 27 30 (hg := rfl) (hw := h3) (hu := rfl) (h := by rintro f _ rfl; exact p_cmp ⟨rfl, rfl⟩) (k := ?_)
        refine q2 23 31 (hg := rfl) (hu := rfl) (h := by rintro f _ rfl; exact p_pickt h3 ⟨rfl, rfl⟩) (k := ?_)
        refine q1 32 (hg := rfl) (hu := rfl) (h := by rintro f _ rfl; exact p_move ⟨rfl, rfl⟩) (k := ?_)
        refine qsplit 33 (fun h4 => ?_) (fun h4 => ?_)
        · skip
          have h4' := h4; (try simp only [decide_eq_true_eq, decide_eq_false_iff_not, Bool.not_eq_true', Bool.not_false, Bool.not_true, Bool.not_eq_false'] at h4')
          refine qy1 3 (hg := rfl) (hw := h4) (hu := rfl) (h := by rintro f _ rfl; exact p_fap fa_36_0 ⟨rfl, rfl⟩) (k := ?_)
          refine qy1 34 (hg := rfl) (hw := h4) (hu := rfl) (h := by rintro f _ rfl; exact p_loadp ty_34 ⟨rfl, rfl⟩) (k := ?_)
          refine qy1 1 (hg := rfl) (hw := h4) (hu := rfl) (h := by rintro f _ rfl; exact p_move ⟨rfl, rfl⟩) (k := ?_)
          refine qy1 8 (hg := rfl) (hw := h4) (hu := rfl) (h := by rintro f _ rfl; exact p_move ⟨rfl, rfl⟩) (k := ?_)
          refine qy2 36 37 (hg := rfl) (hw := h4) (hu := rfl) (h := by rintro f _ rfl; exact p_ixl sl_48 ⟨rfl, rfl⟩) (k := ?_)
          refine qy1 38 (hg := rfl) (hw := h4) (hu := rfl) (h := by rintro f _ rfl; exact p_loadf ty_3 ⟨rfl, rfl⟩) (k := ?_)
          first | refine qy2 35 39 (hg := rfl) (hw := h4) (hu := rfl) (h := by rintro f _ rfl; exact p_ixl sl_34 ⟨rfl, rfl⟩) (k := ?_) | refine qy2 35 39 (hg := rfl) (hw := h4) (hu := rfl) (h := by rintro f _ rfl; exact p_ixo sl_34 ⟨rfl, rfl⟩) (k := ?_)
          first | refine qy1 40 (hg := rfl) (hw := h4) (hu := rfl) (h := by rintro f _ rfl; exact p_fap fa_75_1 ⟨rfl, rfl⟩) (k := ?_) | refine qy1 40 (hg := rfl) (hw := h4) (hu := rfl) (h := by rintro f _ rfl; exact p_faf fa_75_1 ⟨rfl, rfl⟩) (k := ?_)
          first | refine qy1 41 (hg := rfl) (hw := h4) (hu := rfl) (h := by rintro f _ rfl; exact p_loadf ty_3 ⟨rfl, rfl⟩) (k := ?_) | refine qy1 41 (hg := rfl) (hw := h4) (hu := rfl) (h := by rintro f _ rfl; exact p_loadp ty_3 ⟨rfl, rfl⟩) (k := ?_)
          refine qy1 42 (hg := rfl) (hw := h4) (hu := rfl) (h := by rintro f _ rfl; exact p_cmp ⟨rfl, rfl⟩) (k := ?_)
          refine q2 33 43 (hg := rfl) (hu := rfl) (h := by rintro f _ rfl; exact p_pickt h4 ⟨rfl, rfl⟩) (k := ?_)
          refine q1 44 (hg := rfl) (hu := rfl) (h := by rintro f _ rfl; exact p_move ⟨rfl, rfl⟩) (k := ?_)
          refine qsplit 45 (fun h5 => ?_) (fun h5 => ?_)
          · skip
            have h5' := h5; (try simp only [decide_eq_true_eq, decide_eq_false_iff_not, Bool.not_eq_true', Bool.not_false, Bool.not_true, Bool.not_eq_false'] at h5')
            refine qy1 3 (hg := rfl) (hw := h5) (hu := rfl) (h := by rintro f _ rfl; exact p_fap fa_36_0 ⟨rfl, rfl⟩) (k := ?_)
            refine qy1 46 (hg := rfl) (hw := h5) (hu := rfl) (h := by rintro f _ rfl; exact p_loadp ty_34 ⟨rfl, rfl⟩) (k := ?_)
            refine qy1 1 (hg := rfl) (hw := h5) (hu := rfl) (h := by rintro f _ rfl; exact p_move ⟨rfl, rfl⟩) (k := ?_)
            refine qy1 8 (hg := rfl) (hw := h5) (hu := rfl) (h := by rintro f _ rfl; exact p_move ⟨rfl, rfl⟩) (k := ?_)
            refine qy2 48 49 (hg := rfl) (hw := h5) (hu := rfl) (h := by rintro f _ rfl; exact p_ixl sl_48 ⟨rfl, rfl⟩) (k := ?_)
            refine qy1 50 (hg := rfl) (hw := h5) (hu := rfl) (h := by rintro f _ rfl; exact p_loadf ty_3 ⟨rfl, rfl⟩) (k := ?_)
            first | refine qy2 47 51 (hg := rfl) (hw := h5) (hu := rfl) (h := by rintro f _ rfl; exact p_ixl sl_34 ⟨rfl, rfl⟩) (k := ?_) | refine qy2 47 51 (hg := rfl) (hw := h5) (hu := rfl) (h := by rintro f _ rfl; exact p_ixo sl_34 ⟨rfl, rfl⟩) (k := ?_)
            first | refine qy1 52 (hg := rfl) (hw := h5) (hu := rfl) (h := by rintro f _ rfl; exact p_fap fa_75_0 ⟨rfl, rfl⟩) (k := ?_) | refine qy1 52 (hg := rfl) (hw := h5) (hu := rfl) (h := by rintro f _ rfl; exact p_faf fa_75_0 ⟨rfl, rfl⟩) (k := ?_)
            first | refine qy1 53 (hg := rfl) (hw := h5) (hu := rfl) (h := by rintro f _ rfl; exact p_loadf ty_26 ⟨rfl, rfl⟩) (k := ?_) | refine qy1 53 (hg := rfl) (hw := h5) (hu := rfl) (h := by rintro f _ rfl; exact p_loadp ty_26 ⟨rfl, rfl⟩) (k := ?_)
            refine qy1 2 (hg := rfl) (hw := h5) (hu := rfl) (h := by rintro f _ rfl; exact p_move ⟨rfl, rfl⟩) (k := ?_)
            refine q_end ?_
            refine m_end ?_
            refine g_y rfl h5 (p_callr en_55 (ref1Has _ _ _ _ _ hb0 hb1 (hok _ (List.getElem_mem _)).1 (hok _ (List.getElem_mem _)).2.1 (hok _ (List.getElem_mem _)).2.2.1 (hok _ (List.getElem_mem _)).2.2.2) ?_)
            refine l_cons rfl (p_pickt h5 ?_)
            refine l_nil ?_
            refine k_seq_normal ?_
            refine w_b (fun h6 => ?_) (fun h6 => ?_)
            · skip
              have h6' := h6; (try simp only [decide_eq_true_eq, decide_eq_false_iff_not, Bool.not_eq_true', Bool.not_false, Bool.not_true, Bool.not_eq_false'] at h6')
              refine w_drawn 11 [] (fun e => e = _) mixed (by kernel_rfl) rfl ?_
              refine q1 7 (hg := rfl) (hu := rfl) (h := by rintro f _ rfl; exact p_move ⟨rfl, rfl⟩) (k := ?_)
              refine q1 3 (hg := rfl) (hu := rfl) (h := by rintro f _ rfl; exact p_fap fa_36_0 ⟨rfl, rfl⟩) (k := ?_)
              refine q1 59 (hg := rfl) (hu := rfl) (h := by rintro f _ rfl; exact p_loadp ty_34 ⟨rfl, rfl⟩) (k := ?_)
              refine q1 1 (hg := rfl) (hu := rfl) (h := by rintro f _ rfl; exact p_move ⟨rfl, rfl⟩) (k := ?_)
              refine q1 8 (hg := rfl) (hu := rfl) (h := by rintro f _ rfl; exact p_move ⟨rfl, rfl⟩) (k := ?_)
              refine q2 61 62 (hg := rfl) (hu := rfl) (h := by rintro f _ rfl; exact p_ixl sl_48 ⟨rfl, rfl⟩) (k := ?_)
              refine q1 63 (hg := rfl) (hu := rfl) (h := by rintro f _ rfl; exact p_loadf ty_3 ⟨rfl, rfl⟩) (k := ?_)
              first | refine q2 60 64 (hg := rfl) (hu := rfl) (h := by rintro f _ rfl; exact p_ixl sl_34 ⟨rfl, rfl⟩) (k := ?_) | refine q2 60 64 (hg := rfl) (hu := rfl) (h := by rintro f _ rfl; exact p_ixo sl_34 ⟨rfl, rfl⟩) (k := ?_)
              first | refine q1 65 (hg := rfl) (hu := rfl) (h := by rintro f _ rfl; exact p_fap fa_75_1 ⟨rfl, rfl⟩) (k := ?_) | refine q1 65 (hg := rfl) (hu := rfl) (h := by rintro f _ rfl; exact p_faf fa_75_1 ⟨rfl, rfl⟩) (k := ?_)
              first | refine q1 66 (hg := rfl) (hu := rfl) (h := by rintro f _ rfl; exact p_loadf ty_3 ⟨rfl, rfl⟩) (k := ?_) | refine q1 66 (hg := rfl) (hu := rfl) (h := by rintro f _ rfl; exact p_loadp ty_3 ⟨rfl, rfl⟩) (k := ?_)
              refine q1 67 (hg := rfl) (hu := rfl) (h := by rintro f _ rfl; exact p_buildList sl_48 ze_3 ⟨rfl, rfl⟩) (k := ?_)
              refine q_end ?_
              refine m_end ?_
              refine l_cons rfl (p_append sl_48 by_3 ze_3 (fun s69 => ?_))
              refine l_cons rfl (p_assign ?_)
              refine l_nil ?_
              refine k_blk_normal ?_
              refine k_seq_normal ?_
              refine w_region ?_
              refine l_cons rfl (p_move ?_)
              refine l_cons rfl (p_arith ?_)
              refine l_cons rfl (p_assign ?_)
              refine l_nil ?_
              refine k_seq_normal ?_
              first
              | exact ⟨l.length - (k + 1), by omega, k + 1, s69, rfl, by omega, by rw [stepTo_succ (by omega), stepOne_yes (by omega) (by omega) (by omega) (by assumption), List.map_append]; rfl, by simp only [Knows, put, upd_apply, Nat.reduceEqDiff, ↓reduceIte, and_true, true_and, eq_self] <;> first | exact rfl | exact ⟨rfl, rfl⟩ | exact ⟨rfl, rfl, rfl⟩ | exact ⟨rfl, rfl, rfl, rfl⟩ | exact ⟨rfl, rfl, rfl, rfl, rfl⟩ | exact ⟨rfl, rfl, rfl, rfl, rfl, rfl⟩⟩
              | exact ⟨l.length - (k + 1), by omega, k + 1, s7, rfl, by omega, by rw [stepTo_succ (by omega), stepOne_no (by first | exact .inl (by omega) | exact .inr (.inl (by omega)) | exact .inr (.inr ⟨by omega, .inl (by omega)⟩) | exact .inr (.inr ⟨by omega, .inr (by assumption)⟩))]; simp, by simp only [Knows, put, upd_apply, Nat.reduceEqDiff, ↓reduceIte, and_true, true_and, eq_self] <;> first | exact rfl | exact ⟨rfl, rfl⟩ | exact ⟨rfl, rfl, rfl⟩ | exact ⟨rfl, rfl, rfl, rfl⟩ | exact ⟨rfl, rfl, rfl, rfl, rfl⟩ | exact ⟨rfl, rfl, rfl, rfl, rfl, rfl⟩⟩
            · skip
              have h6' := h6; (try simp only [decide_eq_true_eq, decide_eq_false_iff_not, Bool.not_eq_true', Bool.not_false, Bool.not_true, Bool.not_eq_false'] at h6')
              refine w_skip ?_
              refine k_blk_normal ?_
              refine k_seq_normal ?_
              refine w_region ?_
              refine l_cons rfl (p_move ?_)
              refine l_cons rfl (p_arith ?_)
              refine l_cons rfl (p_assign ?_)
              refine l_nil ?_
              refine k_seq_normal ?_
              first
              | exact ⟨l.length - (k + 1), by omega, k + 1, s69, rfl, by omega, by rw [stepTo_succ (by omega), stepOne_yes (by omega) (by omega) (by omega) (by assumption), List.map_append]; rfl, by simp only [Knows, put, upd_apply, Nat.reduceEqDiff, ↓reduceIte, and_true, true_and, eq_self] <;> first | exact rfl | exact ⟨rfl, rfl⟩ | exact ⟨rfl, rfl, rfl⟩ | exact ⟨rfl, rfl, rfl, rfl⟩ | exact ⟨rfl, rfl, rfl, rfl, rfl⟩ | exact ⟨rfl, rfl, rfl, rfl, rfl, rfl⟩⟩
              | exact ⟨l.length - (k + 1), by omega, k + 1, s7, rfl, by omega, by rw [stepTo_succ (by omega), stepOne_no (by first | exact .inl (by omega) | exact .inr (.inl (by omega)) | exact .inr (.inr ⟨by omega, .inl (by omega)⟩) | exact .inr (.inr ⟨by omega, .inr (by assumption)⟩))]; simp, by simp only [Knows, put, upd_apply, Nat.reduceEqDiff, ↓reduceIte, and_true, true_and, eq_self] <;> first | exact rfl | exact ⟨rfl, rfl⟩ | exact ⟨rfl, rfl, rfl⟩ | exact ⟨rfl, rfl, rfl, rfl⟩ | exact ⟨rfl, rfl, rfl, rfl, rfl⟩ | exact ⟨rfl, rfl, rfl, rfl, rfl, rfl⟩⟩
          · skip
            have h5' := h5; (try simp only [decide_eq_true_eq, decide_eq_false_iff_not, Bool.not_eq_true', Bool.not_false, Bool.not_true, Bool.not_eq_false'] at h5')
            refine qn rfl h5 ?_
            refine qn rfl h5 ?_
            refine qn rfl h5 ?_
            refine qn rfl h5 ?_
            refine qn rfl h5 ?_
            refine qn rfl h5 ?_
            refine qn rfl h5 ?_
            refine qn rfl h5 ?_
            refine qn rfl h5 ?_
            refine qn rfl h5 ?_
            refine q_end ?_
            refine m_end ?_
            refine g_n rfl h5 ?_
            refine l_cons rfl (p_pickf h5 ?_)
            refine l_nil ?_
            refine k_seq_normal ?_
            refine w_f rfl ?_
            refine w_skip ?_
            refine k_blk_normal ?_
            refine k_seq_normal ?_
            refine w_region ?_
            refine l_cons rfl (p_move ?_)
            refine l_cons rfl (p_arith ?_)
            refine l_cons rfl (p_assign ?_)
            refine l_nil ?_
            refine k_seq_normal ?_
            first
            | exact ⟨l.length - (k + 1), by omega, k + 1, s69, rfl, by omega, by rw [stepTo_succ (by omega), stepOne_yes (by omega) (by omega) (by omega) (by assumption), List.map_append]; rfl, by simp only [Knows, put, upd_apply, Nat.reduceEqDiff, ↓reduceIte, and_true, true_and, eq_self] <;> first | exact rfl | exact ⟨rfl, rfl⟩ | exact ⟨rfl, rfl, rfl⟩ | exact ⟨rfl, rfl, rfl, rfl⟩ | exact ⟨rfl, rfl, rfl, rfl, rfl⟩ | exact ⟨rfl, rfl, rfl, rfl, rfl, rfl⟩⟩
            | exact ⟨l.length - (k + 1), by omega, k + 1, s7, rfl, by omega, by rw [stepTo_succ (by omega), stepOne_no (by first | exact .inl (by omega) | exact .inr (.inl (by omega)) | exact .inr (.inr ⟨by omega, .inl (by omega)⟩) | exact .inr (.inr ⟨by omega, .inr (by assumption)⟩))]; simp, by simp only [Knows, put, upd_apply, Nat.reduceEqDiff, ↓reduceIte, and_true, true_and, eq_self] <;> first | exact rfl | exact ⟨rfl, rfl⟩ | exact ⟨rfl, rfl, rfl⟩ | exact ⟨rfl, rfl, rfl, rfl⟩ | exact ⟨rfl, rfl, rfl, rfl, rfl⟩ | exact ⟨rfl, rfl, rfl, rfl, rfl, rfl⟩⟩
        · skip
          have h4' := h4; (try simp only [decide_eq_true_eq, decide_eq_false_iff_not, Bool.not_eq_true', Bool.not_false, Bool.not_true, Bool.not_eq_false'] at h4')
          refine qn rfl h4 ?_
          refine qn rfl h4 ?_
          refine qn rfl h4 ?_
          refine qn rfl h4 ?_
          refine qn rfl h4 ?_
          refine qn rfl h4 ?_
          refine qn rfl h4 ?_
          refine qn rfl h4 ?_
          refine qn rfl h4 ?_
          refine qn rfl h4 ?_
          refine q2 33 43 (hg := rfl) (hu := rfl) (h := by rintro f _ rfl; exact p_pickf h4 ⟨rfl, rfl⟩) (k := ?_)
          refine q1 44 (hg := rfl) (hu := rfl) (h := by rintro f _ rfl; exact p_move ⟨rfl, rfl⟩) (k := ?_)
          refine qn rfl rfl ?_
          refine qn rfl rfl ?_
          refine qn rfl rfl ?_
          refine qn rfl rfl ?_
          refine qn rfl rfl ?_
          refine qn rfl rfl ?_
          refine qn rfl rfl ?_
          refine qn rfl rfl ?_
          refine qn rfl rfl ?_
          refine qn rfl rfl ?_
          refine q_end ?_
          refine m_end ?_
          refine g_n rfl rfl ?_
          refine l_cons rfl (p_pickf rfl ?_)
          refine l_nil ?_
          refine k_seq_normal ?_
          refine w_f rfl ?_
          refine w_skip ?_
          refine k_blk_normal ?_
          refine k_seq_normal ?_
          refine w_region ?_
          refine l_cons rfl (p_move ?_)
          refine l_cons rfl (p_arith ?_)
          refine l_cons rfl (p_assign ?_)
          refine l_nil ?_
          refine k_seq_normal ?_
          first
          | exact ⟨l.length - (k + 1), by omega, k + 1, s69, rfl, by omega, by rw [stepTo_succ (by omega), stepOne_yes (by omega) (by omega) (by omega) (by assumption), List.map_append]; rfl, by simp only [Knows, put, upd_apply, Nat.reduceEqDiff, ↓reduceIte, and_true, true_and, eq_self] <;> first | exact rfl | exact ⟨rfl, rfl⟩ | exact ⟨rfl, rfl, rfl⟩ | exact ⟨rfl, rfl, rfl, rfl⟩ | exact ⟨rfl, rfl, rfl, rfl, rfl⟩ | exact ⟨rfl, rfl, rfl, rfl, rfl, rfl⟩⟩
          | exact ⟨l.length - (k + 1), by omega, k + 1, s7, rfl, by omega, by rw [stepTo_succ (by omega), stepOne_no (by first | exact .inl (by omega) | exact .inr (.inl (by omega)) | exact .inr (.inr ⟨by omega, .inl (by omega)⟩) | exact .inr (.inr ⟨by omega, .inr (by assumption)⟩))]; simp, by simp only [Knows, put, upd_apply, Nat.reduceEqDiff, ↓reduceIte, and_true, true_and, eq_self] <;> first | exact rfl | exact ⟨rfl, rfl⟩ | exact ⟨rfl, rfl, rfl⟩ | exact ⟨rfl, rfl, rfl, rfl⟩ | exact ⟨rfl, rfl, rfl, rfl, rfl⟩ | exact ⟨rfl, rfl, rfl, rfl, rfl, rfl⟩⟩
      · skip
        have h3' := h3; (try simp only [decide_eq_true_eq, decide_eq_false_iff_not, Bool.not_eq_true', Bool.not_false, Bool.not_true, Bool.not_eq_false'] at h3')
        refine qn rfl h3 ?_
        refine qn rfl h3 ?_
        refine qn rfl h3 ?_
        refine qn rfl h3 ?_
        refine qn rfl h3 ?_
        refine qn rfl h3 ?_
        refine qn rfl h3 ?_
        refine qn rfl h3 ?_
        refine q2 23 31 (hg := rfl) (hu := rfl) (h := by rintro f _ rfl; exact p_pickf h3 ⟨rfl, rfl⟩) (k := ?_)
        refine q1 32 (hg := rfl) (hu := rfl) (h := by rintro f _ rfl; exact p_move ⟨rfl, rfl⟩) (k := ?_)
        refine qn rfl rfl ?_
        refine qn rfl rfl ?_
        refine qn rfl rfl ?_
        refine qn rfl rfl ?_
        refine qn rfl rfl ?_
        refine qn rfl rfl ?_
        refine qn rfl rfl ?_
        refine qn rfl rfl ?_
        refine qn rfl rfl ?_
        refine qn rfl rfl ?_
        refine q2 33 43 (hg := rfl) (hu := rfl) (h := by rintro f _ rfl; exact p_pickf rfl ⟨rfl, rfl⟩) (k := ?_)
        refine q1 44 (hg := rfl) (hu := rfl) (h := by rintro f _ rfl; exact p_move ⟨rfl, rfl⟩) (k := ?_)
        refine qn rfl rfl ?_
        refine qn rfl rfl ?_
        refine qn rfl rfl ?_
        refine qn rfl rfl ?_
        refine qn rfl rfl ?_
        refine qn rfl rfl ?_
        refine qn rfl rfl ?_
        refine qn rfl rfl ?_
        refine qn rfl rfl ?_
        refine qn rfl rfl ?_
        refine q_end ?_
        refine m_end ?_
        refine g_n rfl rfl ?_
        refine l_cons rfl (p_pickf rfl ?_)
        refine l_nil ?_
        refine k_seq_normal ?_
        refine w_f rfl ?_
        refine w_skip ?_
        refine k_blk_normal ?_
        refine k_seq_normal ?_
        refine w_region ?_
        refine l_cons rfl (p_move ?_)
        refine l_cons rfl (p_arith ?_)
        refine l_cons rfl (p_assign ?_)
        refine l_nil ?_
        refine k_seq_normal ?_
        first
        | exact ⟨l.length - (k + 1), by omega, k + 1, s69, rfl, by omega, by rw [stepTo_succ (by omega), stepOne_yes (by omega) (by omega) (by omega) (by assumption), List.map_append]; rfl, by simp only [Knows, put, upd_apply, Nat.reduceEqDiff, ↓reduceIte, and_true, true_and, eq_self] <;> first | exact rfl | exact ⟨rfl, rfl⟩ | exact ⟨rfl, rfl, rfl⟩ | exact ⟨rfl, rfl, rfl, rfl⟩ | exact ⟨rfl, rfl, rfl, rfl, rfl⟩ | exact ⟨rfl, rfl, rfl, rfl, rfl, rfl⟩⟩
        | exact ⟨l.length - (k + 1), by omega, k + 1, s7, rfl, by omega, by rw [stepTo_succ (by omega), stepOne_no (by first | exact .inl (by omega) | exact .inr (.inl (by omega)) | exact .inr (.inr ⟨by omega, .inl (by omega)⟩) | exact .inr (.inr ⟨by omega, .inr (by assumption)⟩))]; simp, by simp only [Knows, put, upd_apply, Nat.reduceEqDiff, ↓reduceIte, and_true, true_and, eq_self] <;> first | exact rfl | exact ⟨rfl, rfl⟩ | exact ⟨rfl, rfl, rfl⟩ | exact ⟨rfl, rfl, rfl, rfl⟩ | exact ⟨rfl, rfl, rfl, rfl, rfl⟩ | exact ⟨rfl, rfl, rfl, rfl, rfl, rfl⟩⟩
    · skip
      have h2' := h2; (try simp only [decide_eq_true_eq, decide_eq_false_iff_not, Bool.not_eq_true', Bool.not_false, Bool.not_true, Bool.not_eq_false'] at h2')
      refine w_exit ?_
      refine k_seq_exit ?_
      refine k_seq_exit ?_
      refine k_blk_here ?_
      refine k_seq_normal ?_
      refine w_seq ?_
      refine w_freezeTop 7 ?_
      rw [show k = l.length by omega, List.take_length]
      refine w_region ?_
      refine l_cons rfl (p_loadp ty_36 ?_)
      refine l_cons rfl (p_move ?_)
      refine l_cons rfl (p_callr en_43 (refClose n (stepTo n l b)) ?_)
      refine l_cons rfl (p_assign ?_)
      refine l_nil ?_
      refine k_seq_normal ?_
      refine w_ret ?_
      exact ret1 rfl (by simp only [ev_tmp, ev_const, ev_func, ofConst_int, ofConst_bool, ofConst_str, ofConst_nil, upd_apply, Nat.reduceEqDiff, ↓reduceIte] <;> exact rfl) (by first | exact Sub.refl _ | exact sub1 _ _ | exact sub2 _ _ _ | exact sub3 _ _ _ _ | exact sub4 _ _ _ _ _ | exact sub5 _ _ _ _ _ _) ⟨by unfold stepN closeN stepped; rw [h1']; rfl, rfl⟩
theorem refRun {w0 : World} {es : List Ent} (n : Nf) (hok : ∀ s ∈ n.st, 0 ≤ s.w0 ∧ 0 ≤ s.w1 ∧ 0 ≤ s.w2 ∧ 0 ≤ s.w3) (w : List Int) (hw : ∀ b ∈ w, 0 ≤ b ∧ b < 256) : ACalls Tryd.prog w0 33 [n.av, bytesAV w] es fun v es' => v = .bool (runN n w) ∧ es' = es := by
  unfold Nf.av bytesAV
  refine calls2 (N := 32) Tryd.func33 rfl rfl (by decide) ?_
  refine w_seq ?_
  refine w_region ?_
  refine l_cons rfl (p_box fun s2 => ?_)
  refine l_cons rfl (p_assign ?_)
  refine l_nil ?_
  refine k_seq_normal ?_
  refine w_seq ?_
  refine w_seq ?_
  refine w_len 1 fun hl => ?_
  rw [List.length_map] at hl
  simp only [most] at hl
  refine w_region ?_
  refine l_cons rfl (p_loadp ty_36 ?_)
  refine l_cons rfl (p_callr en_42 (refMay n) ?_)
  refine l_cons rfl (p_not ?_)
  refine l_nil ?_
  refine k_seq_normal ?_
  refine w_b (fun h1 => ?_) (fun h1 => ?_)
  · skip
    have h1' := h1; (try simp only [decide_eq_true_eq, decide_eq_false_iff_not, Bool.not_eq_true', Bool.not_false, Bool.not_true, Bool.not_eq_false'] at h1')
    refine w_seq ?_
    refine w_region ?_
    refine l_cons rfl (p_assign ?_)
    refine l_nil ?_
    refine k_seq_normal ?_
    refine w_ret ?_
    refine k_seq_ret ?_
    exact ret1 rfl (by simp only [ev_tmp, ev_const, ev_func, ofConst_int, ofConst_bool, ofConst_str, ofConst_nil, upd_apply, Nat.reduceEqDiff, ↓reduceIte] <;> exact rfl) (by first | exact Sub.refl _ | exact sub1 _ _ | exact sub2 _ _ _ | exact sub3 _ _ _ _ | exact sub4 _ _ _ _ _ | exact sub5 _ _ _ _ _ _) ⟨by unfold runN; rw [h1']; rfl, rfl⟩
  · skip
    have h1' := h1; (try simp only [decide_eq_true_eq, decide_eq_false_iff_not, Bool.not_eq_true', Bool.not_false, Bool.not_true, Bool.not_eq_false'] at h1')
    refine w_skip ?_
    refine k_seq_normal ?_
    refine w_seq ?_
    refine w_region ?_
    refine l_cons rfl (p_loadp ty_36 ?_)
    refine l_cons rfl (p_fap fa_36_1 ?_)
    refine l_cons rfl (p_loadp ty_3 ?_)
    refine l_cons rfl (p_buildList sl_48 ze_3 ?_)
    refine l_cons rfl (p_callr en_43 (refClose n [n.start]) ?_)
    refine l_cons rfl (p_assign ?_)
    refine l_nil ?_
    refine k_seq_normal ?_
    refine w_seq ?_
    refine w_seq ?_
    have hcl : closeN n [n.start] = closed n [n.start] := by unfold closeN; rw [h1']; rfl
    rw [hcl]
    refine w_region ?_
    refine l_cons rfl (p_assign ?_)
    refine l_nil ?_
    refine k_seq_normal ?_
    refine w_block ?_
    refine w_loop (fun m f es' => ∃ k, m = w.length - k ∧ k ≤ w.length ∧ es' = .row s2 36 3 [n.cells] :: es ∧ Knows f [(1, .list 1 (w.map fun n => [.int .u8 n])), (2, .ptr es.length s2 0 0), (5, ints ((w.take k).foldl (stepped n) (closed n [n.start]))), (6, .int .i64 k)]) (w.length) (⟨0, rfl, Nat.zero_le _, rfl, by simp only [Knows, put, upd_apply, Nat.reduceEqDiff, ↓reduceIte, and_true, true_and, eq_self] <;> first | exact rfl | exact ⟨rfl, rfl⟩ | exact ⟨rfl, rfl, rfl⟩ | exact ⟨rfl, rfl, rfl, rfl⟩ | exact ⟨rfl, rfl, rfl, rfl, rfl⟩ | exact ⟨rfl, rfl, rfl, rfl, rfl, rfl⟩⟩) ?_
    rintro m f es' ⟨k, rfl, hk1, rfl, hk⟩
    have hle := fold_len n (w.take k)
    refine w_pins _ (Sub.refl _) (hk) ?_
    simp only [pins]
    refine w_seq ?_
    refine w_seq ?_
    refine w_region ?_
    refine l_cons rfl (p_move ?_)
    refine l_cons rfl (p_move ?_)
    refine l_cons rfl (p_lenl sl_22 ?_)
    refine l_cons rfl (p_cmp ?_)
    refine l_nil ?_
    refine k_seq_normal ?_
    refine w_b (fun h2 => ?_) (fun h2 => ?_)
    · skip
      have h2' := h2; (try simp only [decide_eq_true_eq, decide_eq_false_iff_not, Bool.not_eq_true', Bool.not_false, Bool.not_true, Bool.not_eq_false'] at h2')
      refine w_skip ?_
      refine k_seq_normal ?_
      refine w_seq ?_
      refine w_block ?_
      refine w_drawn 6 [] (fun e => e = _) mixed (by kernel_rfl) rfl ?_
      refine q1 2 (hg := rfl) (hu := rfl) (h := by rintro f _ rfl; exact p_loadp ty_36 ⟨rfl, rfl⟩) (k := ?_)
      refine q1 5 (hg := rfl) (hu := rfl) (h := by rintro f _ rfl; exact p_move ⟨rfl, rfl⟩) (k := ?_)
      refine q1 1 (hg := rfl) (hu := rfl) (h := by rintro f _ rfl; exact p_move ⟨rfl, rfl⟩) (k := ?_)
      refine q1 6 (hg := rfl) (hu := rfl) (h := by rintro f _ rfl; exact p_move ⟨rfl, rfl⟩) (k := ?_)
      refine q2 23 24 (hg := rfl) (hu := rfl) (h := by rintro f _ rfl; exact p_ixl sl_22 ⟨rfl, rfl⟩) (k := ?_)
      refine q1 25 (hg := rfl) (hu := rfl) (h := by rintro f _ rfl; exact p_loadf ty_5 ⟨rfl, rfl⟩) (k := ?_)
      refine q_end ?_
      refine m_end ?_
      refine l_cons rfl (p_callr en_45 (refStep n hok ((w.take k).foldl (stepped n) (closed n [n.start])) (w[k]'(by omega)) (by have := hle; have := may_le h1'; omega) (hw _ (List.getElem_mem _)).1 (hw _ (List.getElem_mem _)).2) ?_)
      refine l_cons rfl (p_assign ?_)
      refine l_nil ?_
      refine k_blk_normal ?_
      refine k_seq_normal ?_
      refine w_region ?_
      refine l_cons rfl (p_move ?_)
      refine l_cons rfl (p_arith ?_)
      refine l_cons rfl (p_assign ?_)
      refine l_nil ?_
      refine k_seq_normal ?_
      have hst : ∀ l b, stepN n l b = stepped n l b := fun l b => by unfold stepN; rw [h1']; rfl
      refine ⟨w.length - (k + 1), by omega, k + 1, rfl, by omega, rfl, ?_⟩
      rw [fold_succ (by omega)]
      simp only [Knows, put, upd_apply, Nat.reduceEqDiff, ↓reduceIte, and_true, true_and, eq_self, hst]
      first | exact rfl | exact ⟨rfl, rfl⟩
    · skip
      have h2' := h2; (try simp only [decide_eq_true_eq, decide_eq_false_iff_not, Bool.not_eq_true', Bool.not_false, Bool.not_true, Bool.not_eq_false'] at h2')
      refine w_exit ?_
      refine k_seq_exit ?_
      refine k_seq_exit ?_
      refine k_blk_here ?_
      refine k_seq_normal ?_
      refine w_seq ?_
      refine w_region ?_
      refine l_cons rfl (p_move ?_)
      refine l_cons rfl (p_fap fa_36_2 ?_)
      refine l_cons rfl (p_loadp ty_3 ?_)
      refine l_cons rfl (p_callr en_82 (has_walk _ _) ?_)
      refine l_cons rfl (p_assign ?_)
      refine l_nil ?_
      refine k_seq_normal ?_
      refine w_ret ?_
      exact ret1 rfl (by simp only [ev_tmp, ev_const, ev_func, ofConst_int, ofConst_bool, ofConst_str, ofConst_nil, upd_apply, Nat.reduceEqDiff, ↓reduceIte] <;> exact rfl) (by first | exact Sub.refl _ | exact sub1 _ _ | exact sub2 _ _ _ | exact sub3 _ _ _ _ | exact sub4 _ _ _ _ _ | exact sub5 _ _ _ _ _ _) ⟨by rw [run_any h1', show k = w.length by omega, List.take_length], rfl⟩
theorem runs_walk {w0 : World} (n : Nf) (hok : ∀ s ∈ n.st, 0 ≤ s.w0 ∧ 0 ≤ s.w1 ∧ 0 ≤ s.w2 ∧ 0 ≤ s.w3) (l w : List Int) (b : Int) (hw : ∀ b ∈ w, 0 ≤ b ∧ b < 256) (hb0 : 0 ≤ b) (hb1 : b < 256) : ACalls Tryd.prog w0 7 [n.av, ints l, bytesAV w, .int .u8 b] [] fun v es' => v = .bool true := by
  unfold Nf.av ints bytesAV
  refine calls4 (N := 58) Tryd.func7 rfl rfl (by decide) ?_
  refine w_seq ?_
  refine w_region ?_
  refine l_cons rfl (p_box fun s4 => ?_)
  refine l_cons rfl (p_assign ?_)
  refine l_nil ?_
  refine k_seq_normal ?_
  refine w_seq ?_
  refine w_seq ?_
  refine w_region ?_
  refine l_cons rfl (p_callr en_23 (begun_walk) ?_)
  refine l_cons rfl (p_not ?_)
  refine l_nil ?_
  refine k_seq_normal ?_
  refine w_f rfl ?_
  refine w_skip ?_
  refine k_seq_normal ?_
  refine w_seq ?_
  refine w_seq ?_
  refine w_region ?_
  refine l_cons rfl (p_loadp ty_36 ?_)
  refine l_cons rfl (p_callr en_36 (light_walk n 40) ?_)
  refine l_cons rfl (p_not ?_)
  refine l_cons rfl (p_move ?_)
  refine g_b rfl (fun h1 => ?_) (fun h1 => ?_)
  · skip
    have h1' := h1; (try simp only [decide_eq_true_eq, decide_eq_false_iff_not, Bool.not_eq_true', Bool.not_false, Bool.not_true, Bool.not_eq_false'] at h1')
    refine (p_move ?_)
    refine g_y rfl h1 (p_lenl sl_22 ?_)
    refine g_y rfl h1 (p_cmp ?_)
    refine l_cons rfl (p_pickf h1 ?_)
    refine l_cons rfl (p_move ?_)
    refine g_b rfl (fun h2 => ?_) (fun h2 => ?_)
    · skip
      have h2' := h2; (try simp only [decide_eq_true_eq, decide_eq_false_iff_not, Bool.not_eq_true', Bool.not_false, Bool.not_true, Bool.not_eq_false'] at h2')
      refine (p_move ?_)
      refine g_y rfl h2 (p_lenl sl_48 ?_)
      refine g_y rfl h2 (p_cmp ?_)
      refine l_cons rfl (p_pickf h2 ?_)
      refine l_nil ?_
      refine k_seq_normal ?_
      refine w_b (fun h3 => ?_) (fun h3 => ?_)
      · skip
        have h3' := h3; (try simp only [decide_eq_true_eq, decide_eq_false_iff_not, Bool.not_eq_true', Bool.not_false, Bool.not_true, Bool.not_eq_false'] at h3')
        refine w_seq ?_
        refine w_region ?_
        refine l_cons rfl (p_assign ?_)
        refine l_nil ?_
        refine k_seq_normal ?_
        refine w_ret ?_
        refine k_seq_ret ?_
        exact ret1 rfl (by simp only [ev_tmp, ev_const, ev_func, ofConst_int, ofConst_bool, ofConst_str, ofConst_nil, upd_apply, Nat.reduceEqDiff, ↓reduceIte] <;> exact rfl) (by first | exact Sub.refl _ | exact sub1 _ _ | exact sub2 _ _ _ | exact sub3 _ _ _ _ | exact sub4 _ _ _ _ _ | exact sub5 _ _ _ _ _ _) (rfl)
      · skip
        have h3' := h3; (try simp only [decide_eq_true_eq, decide_eq_false_iff_not, Bool.not_eq_true', Bool.not_false, Bool.not_true, Bool.not_eq_false'] at h3')
        refine w_skip ?_
        refine k_seq_normal ?_
        refine w_seq ?_
        have hll : l.length ≤ 40 := by omega
        refine w_drawn 31 [] (fun e => e = _) mixed (by kernel_rfl) rfl ?_
        refine q1 4 (hg := rfl) (hu := rfl) (h := by rintro f _ rfl; exact p_loadp ty_36 ⟨rfl, rfl⟩) (k := ?_)
        refine q1 24 (hg := rfl) (hu := rfl) (h := by rintro f _ rfl; exact p_callr en_30 (may n) ⟨rfl, rfl⟩) (k := ?_)
        refine q1 4 (hg := rfl) (hu := rfl) (h := by rintro f _ rfl; exact p_loadp ty_36 ⟨rfl, rfl⟩) (k := ?_)
        refine q1 26 (hg := rfl) (hu := rfl) (h := by rintro f _ rfl; exact p_callr en_42 (refMay n) ⟨rfl, rfl⟩) (k := ?_)
        refine q2 25 27 (hg := rfl) (hu := rfl) (h := by rintro f _ rfl; exact p_eqb ub_4 ⟨rfl, rfl⟩) (k := ?_)
        refine q1 28 (hg := rfl) (hu := rfl) (h := by rintro f _ rfl; exact p_move ⟨rfl, rfl⟩) (k := ?_)
        refine qsplit 29 (fun h4 => ?_) (fun h4 => ?_)
        · skip
          have h4' := h4; (try simp only [decide_eq_true_eq, decide_eq_false_iff_not, Bool.not_eq_true', Bool.not_false, Bool.not_true, Bool.not_eq_false'] at h4')
          refine qy1 4 (hg := rfl) (hw := h4) (hu := rfl) (h := by rintro f _ rfl; exact p_loadp ty_36 ⟨rfl, rfl⟩) (k := ?_)
          refine qy1 2 (hg := rfl) (hw := h4) (hu := rfl) (h := by rintro f _ rfl; exact p_move ⟨rfl, rfl⟩) (k := ?_)
          refine qy2 30 31 (hg := rfl) (hw := h4) (hu := rfl) (h := by rintro f _ rfl; exact p_callr en_31 (run_walk n w hw) ⟨rfl, rfl⟩) (k := ?_)
          refine qy1 4 (hg := rfl) (hw := h4) (hu := rfl) (h := by rintro f _ rfl; exact p_loadp ty_36 ⟨rfl, rfl⟩) (k := ?_)
          refine qy1 2 (hg := rfl) (hw := h4) (hu := rfl) (h := by rintro f _ rfl; exact p_move ⟨rfl, rfl⟩) (k := ?_)
          refine qy2 33 34 (hg := rfl) (hw := h4) (hu := rfl) (h := by rintro f _ rfl; exact p_callr en_33 (refRun n hok w hw) ⟨rfl, rfl⟩) (k := ?_)
          refine qy2 32 35 (hg := rfl) (hw := h4) (hu := rfl) (h := by rintro f _ rfl; exact p_eqb ub_4 ⟨rfl, rfl⟩) (k := ?_)
          refine q2 29 36 (hg := rfl) (hu := rfl) (h := by rintro f _ rfl; exact p_pickt h4 ⟨rfl, rfl⟩) (k := ?_)
          refine q1 37 (hg := rfl) (hu := rfl) (h := by rintro f _ rfl; exact p_move ⟨rfl, rfl⟩) (k := ?_)
          refine qsplit 38 (fun h5 => ?_) (fun h5 => ?_)
          · skip
            have h5' := h5; (try simp only [decide_eq_true_eq, decide_eq_false_iff_not, Bool.not_eq_true', Bool.not_false, Bool.not_true, Bool.not_eq_false'] at h5')
            refine qy1 4 (hg := rfl) (hw := h5) (hu := rfl) (h := by rintro f _ rfl; exact p_loadp ty_36 ⟨rfl, rfl⟩) (k := ?_)
            refine qy1 1 (hg := rfl) (hw := h5) (hu := rfl) (h := by rintro f _ rfl; exact p_move ⟨rfl, rfl⟩) (k := ?_)
            refine qy2 39 40 (hg := rfl) (hw := h5) (hu := rfl) (h := by rintro f _ rfl; exact p_callr en_37 (close_walk n l) ⟨rfl, rfl⟩) (k := ?_)
            refine qy1 4 (hg := rfl) (hw := h5) (hu := rfl) (h := by rintro f _ rfl; exact p_loadp ty_36 ⟨rfl, rfl⟩) (k := ?_)
            refine qy1 1 (hg := rfl) (hw := h5) (hu := rfl) (h := by rintro f _ rfl; exact p_move ⟨rfl, rfl⟩) (k := ?_)
            refine qy2 42 43 (hg := rfl) (hw := h5) (hu := rfl) (h := by rintro f _ rfl; exact p_callr en_43 (refClose n l) ⟨rfl, rfl⟩) (k := ?_)
            refine qy2 41 44 (hg := rfl) (hw := h5) (hu := rfl) (h := by rintro f _ rfl; exact p_callr en_38 (same_walk _ _) ⟨rfl, rfl⟩) (k := ?_)
            refine q2 38 45 (hg := rfl) (hu := rfl) (h := by rintro f _ rfl; exact p_pickt h5 ⟨rfl, rfl⟩) (k := ?_)
            refine q1 46 (hg := rfl) (hu := rfl) (h := by rintro f _ rfl; exact p_move ⟨rfl, rfl⟩) (k := ?_)
            refine qsplit 47 (fun h6 => ?_) (fun h6 => ?_)
            · skip
              have h6' := h6; (try simp only [decide_eq_true_eq, decide_eq_false_iff_not, Bool.not_eq_true', Bool.not_false, Bool.not_true, Bool.not_eq_false'] at h6')
              refine qy1 4 (hg := rfl) (hw := h6) (hu := rfl) (h := by rintro f _ rfl; exact p_loadp ty_36 ⟨rfl, rfl⟩) (k := ?_)
              refine qy1 1 (hg := rfl) (hw := h6) (hu := rfl) (h := by rintro f _ rfl; exact p_move ⟨rfl, rfl⟩) (k := ?_)
              refine qy1 3 (hg := rfl) (hw := h6) (hu := rfl) (h := by rintro f _ rfl; exact p_move ⟨rfl, rfl⟩) (k := ?_)
              refine qy3 48 49 50 (hg := rfl) (hw := h6) (hu := rfl) (h := by rintro f _ rfl; exact p_callr en_44 (step_walk n l b (by omega) hb0 hb1) ⟨rfl, rfl⟩) (k := ?_)
              refine qy1 4 (hg := rfl) (hw := h6) (hu := rfl) (h := by rintro f _ rfl; exact p_loadp ty_36 ⟨rfl, rfl⟩) (k := ?_)
              refine qy1 1 (hg := rfl) (hw := h6) (hu := rfl) (h := by rintro f _ rfl; exact p_move ⟨rfl, rfl⟩) (k := ?_)
              refine qy1 3 (hg := rfl) (hw := h6) (hu := rfl) (h := by rintro f _ rfl; exact p_move ⟨rfl, rfl⟩) (k := ?_)
              refine q_end ?_
              refine m_end ?_
              refine g_y rfl h6 (p_callr en_45 (refStep n hok l b (by omega) hb0 hb1) ?_)
              refine g_y rfl h6 (p_callr en_38 (same_walk _ _) ?_)
              refine l_cons rfl (p_pickt h6 ?_)
              refine l_cons rfl (p_assign ?_)
              refine l_nil ?_
              refine k_seq_normal ?_
              refine w_ret ?_
              exact ret1 rfl (by simp only [ev_tmp, ev_const, ev_func, ofConst_int, ofConst_bool, ofConst_str, ofConst_nil, upd_apply, Nat.reduceEqDiff, ↓reduceIte] <;> exact rfl) (by first | exact Sub.refl _ | exact sub1 _ _ | exact sub2 _ _ _ | exact sub3 _ _ _ _ | exact sub4 _ _ _ _ _ | exact sub5 _ _ _ _ _ _) (by simp_all)
            · skip
              have h6' := h6; (try simp only [decide_eq_true_eq, decide_eq_false_iff_not, Bool.not_eq_true', Bool.not_false, Bool.not_true, Bool.not_eq_false'] at h6')
              refine qn rfl h6 ?_
              refine qn rfl h6 ?_
              refine qn rfl h6 ?_
              refine qn rfl h6 ?_
              refine qn rfl h6 ?_
              refine qn rfl h6 ?_
              refine qn rfl h6 ?_
              refine q_end ?_
              refine m_end ?_
              refine g_n rfl h6 ?_
              refine g_n rfl h6 ?_
              refine l_cons rfl (p_pickf h6 ?_)
              refine l_cons rfl (p_assign ?_)
              refine l_nil ?_
              refine k_seq_normal ?_
              refine w_ret ?_
              exact ret1 rfl (by simp only [ev_tmp, ev_const, ev_func, ofConst_int, ofConst_bool, ofConst_str, ofConst_nil, upd_apply, Nat.reduceEqDiff, ↓reduceIte] <;> exact rfl) (by first | exact Sub.refl _ | exact sub1 _ _ | exact sub2 _ _ _ | exact sub3 _ _ _ _ | exact sub4 _ _ _ _ _ | exact sub5 _ _ _ _ _ _) (by simp_all)
          · skip
            have h5' := h5; (try simp only [decide_eq_true_eq, decide_eq_false_iff_not, Bool.not_eq_true', Bool.not_false, Bool.not_true, Bool.not_eq_false'] at h5')
            refine qn rfl h5 ?_
            refine qn rfl h5 ?_
            refine qn rfl h5 ?_
            refine qn rfl h5 ?_
            refine qn rfl h5 ?_
            refine qn rfl h5 ?_
            refine qn rfl h5 ?_
            refine q2 38 45 (hg := rfl) (hu := rfl) (h := by rintro f _ rfl; exact p_pickf h5 ⟨rfl, rfl⟩) (k := ?_)
            refine q1 46 (hg := rfl) (hu := rfl) (h := by rintro f _ rfl; exact p_move ⟨rfl, rfl⟩) (k := ?_)
            refine qn rfl rfl ?_
            refine qn rfl rfl ?_
            refine qn rfl rfl ?_
            refine qn rfl rfl ?_
            refine qn rfl rfl ?_
            refine qn rfl rfl ?_
            refine qn rfl rfl ?_
            refine q_end ?_
            refine m_end ?_
            refine g_n rfl rfl ?_
            refine g_n rfl rfl ?_
            refine l_cons rfl (p_pickf rfl ?_)
            refine l_cons rfl (p_assign ?_)
            refine l_nil ?_
            refine k_seq_normal ?_
            refine w_ret ?_
            exact ret1 rfl (by simp only [ev_tmp, ev_const, ev_func, ofConst_int, ofConst_bool, ofConst_str, ofConst_nil, upd_apply, Nat.reduceEqDiff, ↓reduceIte] <;> exact rfl) (by first | exact Sub.refl _ | exact sub1 _ _ | exact sub2 _ _ _ | exact sub3 _ _ _ _ | exact sub4 _ _ _ _ _ | exact sub5 _ _ _ _ _ _) (by simp_all)
        · skip
          have h4' := h4; (try simp only [decide_eq_true_eq, decide_eq_false_iff_not, Bool.not_eq_true', Bool.not_false, Bool.not_true, Bool.not_eq_false'] at h4')
          refine qn rfl h4 ?_
          refine qn rfl h4 ?_
          refine qn rfl h4 ?_
          refine qn rfl h4 ?_
          refine qn rfl h4 ?_
          refine qn rfl h4 ?_
          refine qn rfl h4 ?_
          refine q2 29 36 (hg := rfl) (hu := rfl) (h := by rintro f _ rfl; exact p_pickf h4 ⟨rfl, rfl⟩) (k := ?_)
          refine q1 37 (hg := rfl) (hu := rfl) (h := by rintro f _ rfl; exact p_move ⟨rfl, rfl⟩) (k := ?_)
          refine qn rfl rfl ?_
          refine qn rfl rfl ?_
          refine qn rfl rfl ?_
          refine qn rfl rfl ?_
          refine qn rfl rfl ?_
          refine qn rfl rfl ?_
          refine qn rfl rfl ?_
          refine q2 38 45 (hg := rfl) (hu := rfl) (h := by rintro f _ rfl; exact p_pickf rfl ⟨rfl, rfl⟩) (k := ?_)
          refine q1 46 (hg := rfl) (hu := rfl) (h := by rintro f _ rfl; exact p_move ⟨rfl, rfl⟩) (k := ?_)
          refine qn rfl rfl ?_
          refine qn rfl rfl ?_
          refine qn rfl rfl ?_
          refine qn rfl rfl ?_
          refine qn rfl rfl ?_
          refine qn rfl rfl ?_
          refine qn rfl rfl ?_
          refine q_end ?_
          refine m_end ?_
          refine g_n rfl rfl ?_
          refine g_n rfl rfl ?_
          refine l_cons rfl (p_pickf rfl ?_)
          refine l_cons rfl (p_assign ?_)
          refine l_nil ?_
          refine k_seq_normal ?_
          refine w_ret ?_
          exact ret1 rfl (by simp only [ev_tmp, ev_const, ev_func, ofConst_int, ofConst_bool, ofConst_str, ofConst_nil, upd_apply, Nat.reduceEqDiff, ↓reduceIte] <;> exact rfl) (by first | exact Sub.refl _ | exact sub1 _ _ | exact sub2 _ _ _ | exact sub3 _ _ _ _ | exact sub4 _ _ _ _ _ | exact sub5 _ _ _ _ _ _) (by simp_all)
    · skip
      have h2' := h2; (try simp only [decide_eq_true_eq, decide_eq_false_iff_not, Bool.not_eq_true', Bool.not_false, Bool.not_true, Bool.not_eq_false'] at h2')
      refine g_n rfl h2 ?_
      refine g_n rfl h2 ?_
      refine l_cons rfl (p_pickt h2 ?_)
      refine l_nil ?_
      refine k_seq_normal ?_
      refine w_t rfl ?_
      refine w_seq ?_
      refine w_region ?_
      refine l_cons rfl (p_assign ?_)
      refine l_nil ?_
      refine k_seq_normal ?_
      refine w_ret ?_
      refine k_seq_ret ?_
      exact ret1 rfl (by simp only [ev_tmp, ev_const, ev_func, ofConst_int, ofConst_bool, ofConst_str, ofConst_nil, upd_apply, Nat.reduceEqDiff, ↓reduceIte] <;> exact rfl) (by first | exact Sub.refl _ | exact sub1 _ _ | exact sub2 _ _ _ | exact sub3 _ _ _ _ | exact sub4 _ _ _ _ _ | exact sub5 _ _ _ _ _ _) (rfl)
  · skip
    have h1' := h1; (try simp only [decide_eq_true_eq, decide_eq_false_iff_not, Bool.not_eq_true', Bool.not_false, Bool.not_true, Bool.not_eq_false'] at h1')
    refine g_n rfl h1 ?_
    refine g_n rfl h1 ?_
    refine l_cons rfl (p_pickt h1 ?_)
    refine l_cons rfl (p_move ?_)
    refine g_n rfl rfl ?_
    refine g_n rfl rfl ?_
    refine g_n rfl rfl ?_
    refine l_cons rfl (p_pickt rfl ?_)
    refine l_nil ?_
    refine k_seq_normal ?_
    refine w_t rfl ?_
    refine w_seq ?_
    refine w_region ?_
    refine l_cons rfl (p_assign ?_)
    refine l_nil ?_
    refine k_seq_normal ?_
    refine w_ret ?_
    refine k_seq_ret ?_
    exact ret1 rfl (by simp only [ev_tmp, ev_const, ev_func, ofConst_int, ofConst_bool, ofConst_str, ofConst_nil, upd_apply, Nat.reduceEqDiff, ↓reduceIte] <;> exact rfl) (by first | exact Sub.refl _ | exact sub1 _ _ | exact sub2 _ _ _ | exact sub3 _ _ _ _ | exact sub4 _ _ _ _ _ | exact sub5 _ _ _ _ _ _) (rfl)
end Go.Proofs.YtfdgbghlanbddaaDoor.Av
