import Derived.Test.YtfdgbghlanbddaaDoorAvG8
import Derived.Test.YtfdgbghlanbddaaDoorAvLaw8
set_option linter.unusedVariables false
set_option linter.unusedSimpArgs false
set_option maxRecDepth 8000
namespace Go.Proofs.YtfdgbghlanbddaaDoor.Av
open Go.RowKit Go.Proofs
theorem light_le {n : Nf} (h : lightN n 40 = true) : n.st.length ≤ 40 := by
  unfold lightN at h
  simp only [Bool.and_eq_true, decide_eq_true_eq] at h
  omega
theorem goes_walk {w0 : World} (n : Nf) (w : List Int) (hw : ∀ b ∈ w, 0 ≤ b ∧ b < 256) : ACalls Tryd.prog w0 8 [n.av, bytesAV w] [] fun v es' => v = .bool true := by
  unfold Nf.av bytesAV
  refine calls2 (N := 87) Tryd.func8 rfl rfl (by decide) ?_
  refine w_seq ?_
  refine w_region ?_
  refine l_cons rfl (p_box fun s2 => ?_)
  refine l_cons rfl (p_assign ?_)
  refine l_nil ?_
  refine k_seq_normal ?_
  refine w_seq ?_
  refine w_seq ?_
  refine w_region ?_
  refine l_cons rfl (p_callr en_23 (begun_walk) ?_)
  refine l_cons rfl (p_not ?_)
  refine l_nil ?_
  refine k_seq_normal ?_
  refine w_f rfl ?_
  refine w_skip ?_
  refine k_seq_normal ?_
  refine w_seq ?_
  refine w_seq ?_
  refine w_region ?_
  refine l_cons rfl (p_loadp ty_36 ?_)
  refine l_cons rfl (p_callr en_36 (light_walk n 40) ?_)
  refine l_cons rfl (p_not ?_)
  refine l_cons rfl (p_move ?_)
  refine g_b rfl (fun h1 => ?_) (fun h1 => ?_)
  · skip
    have h1' := h1; (try simp only [decide_eq_true_eq, decide_eq_false_iff_not, Bool.not_eq_true', Bool.not_false, Bool.not_true, Bool.not_eq_false'] at h1')
    refine (p_move ?_)
    refine g_y rfl h1 (p_lenl sl_22 ?_)
    refine g_y rfl h1 (p_cmp ?_)
    refine l_cons rfl (p_pickf h1 ?_)
    refine l_cons rfl (p_move ?_)
    refine g_b rfl (fun h2 => ?_) (fun h2 => ?_)
    · skip
      have h2' := h2; (try simp only [decide_eq_true_eq, decide_eq_false_iff_not, Bool.not_eq_true', Bool.not_false, Bool.not_true, Bool.not_eq_false'] at h2')
      refine (p_loadp ty_36 ?_)
      refine g_y rfl h2 (p_callr en_30 (may n) ?_)
      refine g_y rfl h2 (p_not ?_)
      refine l_cons rfl (p_pickf h2 ?_)
      refine l_nil ?_
      refine k_seq_normal ?_
      refine w_b (fun h3 => ?_) (fun h3 => ?_)
      · skip
        have h3' := h3; (try simp only [decide_eq_true_eq, decide_eq_false_iff_not, Bool.not_eq_true', Bool.not_false, Bool.not_true, Bool.not_eq_false'] at h3')
        refine w_seq ?_
        refine w_region ?_
        refine l_cons rfl (p_assign ?_)
        refine l_nil ?_
        refine k_seq_normal ?_
        refine w_ret ?_
        refine k_seq_ret ?_
        exact ret1 rfl (by simp only [ev_tmp, ev_const, ev_func, ofConst_int, ofConst_bool, ofConst_str, ofConst_nil, upd_apply, Nat.reduceEqDiff, ↓reduceIte] <;> exact rfl) (by first | exact Sub.refl _ | exact sub1 _ _ | exact sub2 _ _ _ | exact sub3 _ _ _ _ | exact sub4 _ _ _ _ _ | exact sub5 _ _ _ _ _ _) (rfl)
      · skip
        have h3' := h3; (try simp only [decide_eq_true_eq, decide_eq_false_iff_not, Bool.not_eq_true', Bool.not_false, Bool.not_true, Bool.not_eq_false'] at h3')
        refine w_skip ?_
        refine k_seq_normal ?_
        refine w_seq ?_
        have hwl : w.length ≤ 20 := by omega
        have hst : n.st.length ≤ 40 := light_le (by assumption)
        have hmay : mayN n = true := by assumption
        refine w_region ?_
        refine l_cons rfl (p_loadp ty_36 ?_)
        refine l_cons rfl (p_fap fa_36_1 ?_)
        refine l_cons rfl (p_loadp ty_3 ?_)
        refine l_cons rfl (p_fap fa_36_0 ?_)
        refine l_cons rfl (p_loadp ty_34 ?_)
        first | refine l_cons rfl (p_lenl sl_34 ?_) | refine l_cons rfl (p_leno sl_34 ?_) | refine l_cons rfl (p_lenn sl_34 ?_)
        refine l_cons rfl (p_buildList sl_48 ze_3 ?_)
        refine l_cons rfl (p_callr en_37 (close_walk n [n.start, -1, (n.st.length : Int), 1099511627776]) ?_)
        refine l_cons rfl (p_assign ?_)
        refine l_nil ?_
        refine k_seq_normal ?_
        refine w_seq ?_
        refine w_seq ?_
        rw [goes_start hmay hst]
        refine w_region ?_
        refine l_cons rfl (p_assign ?_)
        refine l_nil ?_
        refine k_seq_normal ?_
        refine w_block ?_
        refine w_loop (fun q f es' => ∃ k, q = w.length - k ∧ k ≤ w.length ∧ Sub (.row s2 36 3 [n.cells] :: []) es' ∧ Knows f [(1, .list 1 (w.map fun n => [.int .u8 n])), (2, .ptr 0 s2 0 0), (5, .list 1 (((w.take k).foldl (stepped n) (closed n [n.start])).map fun n => [.int .i64 n])), (6, .int .i64 k)]) (w.length) (⟨0, rfl, Nat.zero_le _, (by first | exact Sub.refl _ | exact sub1 _ _), by simp only [Knows, put, upd_apply, Nat.reduceEqDiff, ↓reduceIte, and_true, true_and, eq_self] <;> first | exact rfl | exact ⟨rfl, rfl⟩ | exact ⟨rfl, rfl, rfl⟩ | exact ⟨rfl, rfl, rfl, rfl⟩ | exact ⟨rfl, rfl, rfl, rfl, rfl⟩ | exact ⟨rfl, rfl, rfl, rfl, rfl, rfl⟩⟩) ?_
        rintro q f es' ⟨k, rfl, hk1, hsub, hk⟩
        refine w_pins _ hsub (hk) ?_
        simp only [pins]
        refine w_seq ?_
        refine w_seq ?_
        refine w_region ?_
        refine l_cons rfl (p_move ?_)
        refine l_cons rfl (p_move ?_)
        refine l_cons rfl (p_lenl sl_22 ?_)
        refine l_cons rfl (p_cmp ?_)
        refine l_nil ?_
        refine k_seq_normal ?_
        refine w_b (fun h4 => ?_) (fun h4 => ?_)
        · skip
          have h4' := h4; (try simp only [decide_eq_true_eq, decide_eq_false_iff_not, Bool.not_eq_true', Bool.not_false, Bool.not_true, Bool.not_eq_false'] at h4')
          refine w_skip ?_
          refine k_seq_normal ?_
          refine w_seq ?_
          refine w_block ?_
          refine w_drawn 12 [5, 7] (fun e => at_ e 0 = some (.row s2 36 3 [n.cells])) mixed (by kernel_rfl) rfl ?_
          refine q1 2 (hg := rfl) (hu := rfl) (h := by rintro f _ hG; exact p_loadp ty_36 ⟨rfl, rfl⟩) (k := ?_)
          refine q1 2 (hg := rfl) (hu := rfl) (h := by rintro f _ hG; exact p_fap fa_36_0 ⟨rfl, rfl⟩) (k := ?_)
          refine q1 39 (hg := rfl) (hu := rfl) (h := by rintro f _ hG; exact p_loadp ty_34 ⟨rfl, rfl⟩) (k := ?_)
          first | refine q1 40 (hg := rfl) (hu := rfl) (h := by rintro f _ hG; exact p_lenl sl_34 ⟨rfl, rfl⟩) (k := ?_) | refine q1 40 (hg := rfl) (hu := rfl) (h := by rintro f _ hG; exact p_leno sl_34 ⟨rfl, rfl⟩) (k := ?_) | refine q1 40 (hg := rfl) (hu := rfl) (h := by rintro f _ hG; exact p_lenn sl_34 ⟨rfl, rfl⟩) (k := ?_)
          refine q1 41 (hg := rfl) (hu := rfl) (h := by rintro f _ hG; exact p_arith ⟨rfl, rfl⟩) (k := ?_)
          refine q1 5 (hg := rfl) (hu := rfl) (h := by rintro f _ hG; exact p_move ⟨rfl, rfl⟩) (k := ?_)
          refine q1 1 (hg := rfl) (hu := rfl) (h := by rintro f _ hG; exact p_move ⟨rfl, rfl⟩) (k := ?_)
          refine q1 6 (hg := rfl) (hu := rfl) (h := by rintro f _ hG; exact p_move ⟨rfl, rfl⟩) (k := ?_)
          refine q2 46 47 (hg := rfl) (hu := rfl) (h := by rintro f _ hG; exact p_ixl sl_22 ⟨rfl, rfl⟩) (k := ?_)
          refine q1 48 (hg := rfl) (hu := rfl) (h := by rintro f _ hG; exact p_loadf ty_5 ⟨rfl, rfl⟩) (k := ?_)
          refine q_end ?_
          refine m1 42 (hu := rfl) (h := fun f => p_buildSlice sl_48 ze_3 fun s43 => ?_)
          refine ⟨_, rfl, rfl, ?_⟩
          refine m2 43 44 (hu := rfl) (h := fun f => p_append sl_48 by_3 ze_3 (fun s45 => ?_) (hb := by have hfl := fold_len n (w.take k); simp only [List.length_map, List.length_cons, List.length_nil, most]; omega))
          refine ⟨_, rfl, rfl, ?_⟩
          refine m_end ?_
          refine l_freeze 45 rfl loc_hit (by simp [cleans, clean]) ?_
          refine l_retell 45 (b := ints ([-5, (n.st.length : Int) + 9] ++ ((w.take k).foldl (stepped n) (closed n [n.start])))) (fun c m' v h => by simpa [ints] using h) ?_
          refine l_cons rfl (p_callr en_44 (step_walk n ([-5, (n.st.length : Int) + 9] ++ ((w.take k).foldl (stepped n) (closed n [n.start]))) (w[k]'(by omega)) (by have := fold_len n (w.take k); simp only [List.length_append, List.length_cons, List.length_nil]; omega) (hw _ (List.getElem_mem _)).1 (hw _ (List.getElem_mem _)).2) ?_)
          refine l_cons rfl (p_assign ?_)
          refine l_nil ?_
          refine k_blk_normal ?_
          refine k_seq_normal ?_
          refine w_region ?_
          refine l_cons rfl (p_move ?_)
          refine l_cons rfl (p_arith ?_)
          refine l_cons rfl (p_assign ?_)
          refine l_nil ?_
          refine k_seq_normal ?_
          have e := goes_step hmay ((w.take k).foldl (stepped n) (closed n [n.start])) (w[k]'(by omega))
          refine ⟨w.length - (k + 1), by omega, k + 1, rfl, by omega, (by first | exact Sub.refl _ | exact sub1 _ _), ?_⟩
          rw [fold_succ (by omega)]
          simp only [Knows, put, upd_apply, Nat.reduceEqDiff, ↓reduceIte, and_true, true_and, eq_self, e]
          first | exact rfl | exact ⟨rfl, rfl⟩
        · skip
          have h4' := h4; (try simp only [decide_eq_true_eq, decide_eq_false_iff_not, Bool.not_eq_true', Bool.not_false, Bool.not_true, Bool.not_eq_false'] at h4')
          refine w_exit ?_
          refine k_seq_exit ?_
          refine k_seq_exit ?_
          refine k_blk_here ?_
          have hkw : k = w.length := by omega
          subst hkw
          rw [List.take_length]
          have hfl := fold_len n w
          refine k_seq_normal ?_
          refine w_seq ?_
          refine w_region ?_
          refine l_cons rfl (p_assign ?_)
          refine l_nil ?_
          refine k_seq_normal ?_
          refine w_seq ?_
          refine w_seq ?_
          refine w_region ?_
          refine l_cons rfl (p_assign ?_)
          refine l_nil ?_
          refine k_seq_normal ?_
          refine w_block ?_
          refine w_loop (fun q f es' => ∃ i, q = (w.foldl (stepped n) (closed n [n.start])).length - i ∧ i ≤ (w.foldl (stepped n) (closed n [n.start])).length ∧ es' = .row s2 36 3 [n.cells] :: [] ∧ Knows f [(1, .list 1 (w.map fun n => [.int .u8 n])), (2, .ptr 0 s2 0 0), (5, .list 1 ((w.foldl (stepped n) (closed n [n.start])).map fun n => [.int .i64 n])), (7, .bool (((w.foldl (stepped n) (closed n [n.start])).take i).any fun z => decide (z = n.stop))), (8, .int .i64 i)]) ((w.foldl (stepped n) (closed n [n.start])).length) (⟨0, rfl, Nat.zero_le _, rfl, by simp only [Knows, put, upd_apply, Nat.reduceEqDiff, ↓reduceIte, and_true, true_and, eq_self] <;> first | exact rfl | exact ⟨rfl, rfl⟩ | exact ⟨rfl, rfl, rfl⟩ | exact ⟨rfl, rfl, rfl, rfl⟩ | exact ⟨rfl, rfl, rfl, rfl, rfl⟩ | exact ⟨rfl, rfl, rfl, rfl, rfl, rfl⟩⟩) ?_
          rintro q f es' ⟨i, rfl, hi1, rfl, hk⟩
          refine w_pins _ (Sub.refl _) (hk) ?_
          simp only [pins]
          refine w_seq ?_
          refine w_seq ?_
          refine w_region ?_
          refine l_cons rfl (p_move ?_)
          refine l_cons rfl (p_move ?_)
          refine l_cons rfl (p_lenl sl_48 ?_)
          refine l_cons rfl (p_cmp ?_)
          refine l_nil ?_
          refine k_seq_normal ?_
          refine w_b (fun h5 => ?_) (fun h5 => ?_)
          · skip
            have h5' := h5; (try simp only [decide_eq_true_eq, decide_eq_false_iff_not, Bool.not_eq_true', Bool.not_false, Bool.not_true, Bool.not_eq_false'] at h5')
            refine w_skip ?_
            refine k_seq_normal ?_
            refine w_seq ?_
            refine w_block ?_
            refine w_seq ?_
            refine w_drawn 8 [] (fun e => e = _) mixed (by kernel_rfl) rfl ?_
            refine q1 7 (hg := rfl) (hu := rfl) (h := by rintro f _ rfl; exact p_move ⟨rfl, rfl⟩) (k := ?_)
            refine q1 57 (hg := rfl) (hu := rfl) (h := by rintro f _ rfl; exact p_move ⟨rfl, rfl⟩) (k := ?_)
            refine qsplit 58 (fun h6 => ?_) (fun h6 => ?_)
            · skip
              have h6' := h6; (try simp only [decide_eq_true_eq, decide_eq_false_iff_not, Bool.not_eq_true', Bool.not_false, Bool.not_true, Bool.not_eq_false'] at h6')
              refine qn rfl h6 ?_
              refine qn rfl h6 ?_
              refine qn rfl h6 ?_
              refine qn rfl h6 ?_
              refine qn rfl h6 ?_
              refine qn rfl h6 ?_
              refine q_end ?_
              refine m_end ?_
              refine g_n rfl h6 ?_
              refine l_cons rfl (p_pickt h6 ?_)
              refine l_cons rfl (p_assign ?_)
              refine l_nil ?_
              refine k_seq_normal ?_
              refine w_seq ?_
              refine w_drawn 13 [] (fun e => e = _) mixed (by kernel_rfl) rfl ?_
              refine q1 5 (hg := rfl) (hu := rfl) (h := by rintro f _ rfl; exact p_move ⟨rfl, rfl⟩) (k := ?_)
              refine q1 8 (hg := rfl) (hu := rfl) (h := by rintro f _ rfl; exact p_move ⟨rfl, rfl⟩) (k := ?_)
              refine q2 67 68 (hg := rfl) (hu := rfl) (h := by rintro f _ rfl; exact p_ixl sl_48 ⟨rfl, rfl⟩) (k := ?_)
              refine q1 69 (hg := rfl) (hu := rfl) (h := by rintro f _ rfl; exact p_loadf ty_3 ⟨rfl, rfl⟩) (k := ?_)
              refine q1 70 (hg := rfl) (hu := rfl) (h := by rintro f _ rfl; exact p_cmp ⟨rfl, rfl⟩) (k := ?_)
              refine q1 71 (hg := rfl) (hu := rfl) (h := by rintro f _ rfl; exact p_move ⟨rfl, rfl⟩) (k := ?_)
              refine qsplit 72 (fun h7 => ?_) (fun h7 => ?_)
              · skip
                have h7' := h7; (try simp only [decide_eq_true_eq, decide_eq_false_iff_not, Bool.not_eq_true', Bool.not_false, Bool.not_true, Bool.not_eq_false'] at h7')
                refine qn rfl h7 ?_
                refine qn rfl h7 ?_
                refine qn rfl h7 ?_
                refine qn rfl h7 ?_
                refine qn rfl h7 ?_
                refine qn rfl h7 ?_
                refine qn rfl h7 ?_
                refine q_end ?_
                refine m_end ?_
                refine g_n rfl h7 ?_
                refine l_cons rfl (p_pickt h7 ?_)
                refine l_nil ?_
                refine k_seq_normal ?_
                refine w_t rfl ?_
                refine w_seq ?_
                refine w_region ?_
                refine l_cons rfl (p_assign ?_)
                refine l_nil ?_
                refine k_seq_normal ?_
                refine w_ret ?_
                refine k_blk_ret ?_
                refine k_seq_ret ?_
                refine k_seq_ret ?_
                refine k_blk_ret ?_
                refine k_seq_ret ?_
                exfalso
                have hin := fold_mem (List.getElem_mem (l := (w.foldl (stepped n) (closed n [n.start]))) (n := i) (by omega))
                omega
              · skip
                have h7' := h7; (try simp only [decide_eq_true_eq, decide_eq_false_iff_not, Bool.not_eq_true', Bool.not_false, Bool.not_true, Bool.not_eq_false'] at h7')
                refine qy1 5 (hg := rfl) (hw := h7) (hu := rfl) (h := by rintro f _ rfl; exact p_move ⟨rfl, rfl⟩) (k := ?_)
                refine qy1 8 (hg := rfl) (hw := h7) (hu := rfl) (h := by rintro f _ rfl; exact p_move ⟨rfl, rfl⟩) (k := ?_)
                refine qy2 73 74 (hg := rfl) (hw := h7) (hu := rfl) (h := by rintro f _ rfl; exact p_ixl sl_48 ⟨rfl, rfl⟩) (k := ?_)
                refine qy1 75 (hg := rfl) (hw := h7) (hu := rfl) (h := by rintro f _ rfl; exact p_loadf ty_3 ⟨rfl, rfl⟩) (k := ?_)
                refine qy1 2 (hg := rfl) (hw := h7) (hu := rfl) (h := by rintro f _ rfl; exact p_fap fa_36_0 ⟨rfl, rfl⟩) (k := ?_)
                refine qy1 77 (hg := rfl) (hw := h7) (hu := rfl) (h := by rintro f _ rfl; exact p_loadp ty_34 ⟨rfl, rfl⟩) (k := ?_)
                first | refine qy1 78 (hg := rfl) (hw := h7) (hu := rfl) (h := by rintro f _ rfl; exact p_lenl sl_34 ⟨rfl, rfl⟩) (k := ?_) | refine qy1 78 (hg := rfl) (hw := h7) (hu := rfl) (h := by rintro f _ rfl; exact p_leno sl_34 ⟨rfl, rfl⟩) (k := ?_) | refine qy1 78 (hg := rfl) (hw := h7) (hu := rfl) (h := by rintro f _ rfl; exact p_lenn sl_34 ⟨rfl, rfl⟩) (k := ?_)
                refine q_end ?_
                refine m_end ?_
                refine g_y rfl h7 (p_cmp ?_)
                refine l_cons rfl (p_pickf h7 ?_)
                refine l_nil ?_
                refine k_seq_normal ?_
                refine w_b (fun h8 => ?_) (fun h8 => ?_)
                · skip
                  have h8' := h8; (try simp only [decide_eq_true_eq, decide_eq_false_iff_not, Bool.not_eq_true', Bool.not_false, Bool.not_true, Bool.not_eq_false'] at h8')
                  refine w_seq ?_
                  refine w_region ?_
                  refine l_cons rfl (p_assign ?_)
                  refine l_nil ?_
                  refine k_seq_normal ?_
                  refine w_ret ?_
                  refine k_blk_ret ?_
                  refine k_seq_ret ?_
                  refine k_seq_ret ?_
                  refine k_blk_ret ?_
                  refine k_seq_ret ?_
                  exfalso
                  have hin := fold_mem (List.getElem_mem (l := (w.foldl (stepped n) (closed n [n.start]))) (n := i) (by omega))
                  omega
                · skip
                  have h8' := h8; (try simp only [decide_eq_true_eq, decide_eq_false_iff_not, Bool.not_eq_true', Bool.not_false, Bool.not_true, Bool.not_eq_false'] at h8')
                  refine w_skip ?_
                  refine k_blk_normal ?_
                  refine k_seq_normal ?_
                  refine w_region ?_
                  refine l_cons rfl (p_move ?_)
                  refine l_cons rfl (p_arith ?_)
                  refine l_cons rfl (p_assign ?_)
                  refine l_nil ?_
                  refine k_seq_normal ?_
                  have e := any_take (p := fun z => decide (z = n.stop)) (l := (w.foldl (stepped n) (closed n [n.start]))) (k := i) (by omega)
                  refine ⟨(w.foldl (stepped n) (closed n [n.start])).length - (i + 1), by omega, i + 1, rfl, by omega, rfl, ?_⟩
                  simp only [Knows, put, upd_apply, Nat.reduceEqDiff, ↓reduceIte, and_true, true_and, eq_self, e]
                  first | exact ⟨by simp [*], rfl⟩ | simp [*]
            · skip
              have h6' := h6; (try simp only [decide_eq_true_eq, decide_eq_false_iff_not, Bool.not_eq_true', Bool.not_false, Bool.not_true, Bool.not_eq_false'] at h6')
              refine qy1 5 (hg := rfl) (hw := h6) (hu := rfl) (h := by rintro f _ rfl; exact p_move ⟨rfl, rfl⟩) (k := ?_)
              refine qy1 8 (hg := rfl) (hw := h6) (hu := rfl) (h := by rintro f _ rfl; exact p_move ⟨rfl, rfl⟩) (k := ?_)
              refine qy2 59 60 (hg := rfl) (hw := h6) (hu := rfl) (h := by rintro f _ rfl; exact p_ixl sl_48 ⟨rfl, rfl⟩) (k := ?_)
              refine qy1 61 (hg := rfl) (hw := h6) (hu := rfl) (h := by rintro f _ rfl; exact p_loadf ty_3 ⟨rfl, rfl⟩) (k := ?_)
              refine qy1 2 (hg := rfl) (hw := h6) (hu := rfl) (h := by rintro f _ rfl; exact p_fap fa_36_2 ⟨rfl, rfl⟩) (k := ?_)
              refine qy1 63 (hg := rfl) (hw := h6) (hu := rfl) (h := by rintro f _ rfl; exact p_loadp ty_3 ⟨rfl, rfl⟩) (k := ?_)
              refine q_end ?_
              refine m_end ?_
              refine g_y rfl h6 (p_cmp ?_)
              refine l_cons rfl (p_pickf h6 ?_)
              refine l_cons rfl (p_assign ?_)
              refine l_nil ?_
              refine k_seq_normal ?_
              refine w_seq ?_
              refine w_drawn 13 [] (fun e => e = _) mixed (by kernel_rfl) rfl ?_
              refine q1 5 (hg := rfl) (hu := rfl) (h := by rintro f _ rfl; exact p_move ⟨rfl, rfl⟩) (k := ?_)
              refine q1 8 (hg := rfl) (hu := rfl) (h := by rintro f _ rfl; exact p_move ⟨rfl, rfl⟩) (k := ?_)
              refine q2 67 68 (hg := rfl) (hu := rfl) (h := by rintro f _ rfl; exact p_ixl sl_48 ⟨rfl, rfl⟩) (k := ?_)
              refine q1 69 (hg := rfl) (hu := rfl) (h := by rintro f _ rfl; exact p_loadf ty_3 ⟨rfl, rfl⟩) (k := ?_)
              refine q1 70 (hg := rfl) (hu := rfl) (h := by rintro f _ rfl; exact p_cmp ⟨rfl, rfl⟩) (k := ?_)
              refine q1 71 (hg := rfl) (hu := rfl) (h := by rintro f _ rfl; exact p_move ⟨rfl, rfl⟩) (k := ?_)
              refine qsplit 72 (fun h9 => ?_) (fun h9 => ?_)
              · skip
                have h9' := h9; (try simp only [decide_eq_true_eq, decide_eq_false_iff_not, Bool.not_eq_true', Bool.not_false, Bool.not_true, Bool.not_eq_false'] at h9')
                refine qn rfl h9 ?_
                refine qn rfl h9 ?_
                refine qn rfl h9 ?_
                refine qn rfl h9 ?_
                refine qn rfl h9 ?_
                refine qn rfl h9 ?_
                refine qn rfl h9 ?_
                refine q_end ?_
                refine m_end ?_
                refine g_n rfl h9 ?_
                refine l_cons rfl (p_pickt h9 ?_)
                refine l_nil ?_
                refine k_seq_normal ?_
                refine w_t rfl ?_
                refine w_seq ?_
                refine w_region ?_
                refine l_cons rfl (p_assign ?_)
                refine l_nil ?_
                refine k_seq_normal ?_
                refine w_ret ?_
                refine k_blk_ret ?_
                refine k_seq_ret ?_
                refine k_seq_ret ?_
                refine k_blk_ret ?_
                refine k_seq_ret ?_
                exfalso
                have hin := fold_mem (List.getElem_mem (l := (w.foldl (stepped n) (closed n [n.start]))) (n := i) (by omega))
                omega
              · skip
                have h9' := h9; (try simp only [decide_eq_true_eq, decide_eq_false_iff_not, Bool.not_eq_true', Bool.not_false, Bool.not_true, Bool.not_eq_false'] at h9')
                refine qy1 5 (hg := rfl) (hw := h9) (hu := rfl) (h := by rintro f _ rfl; exact p_move ⟨rfl, rfl⟩) (k := ?_)
                refine qy1 8 (hg := rfl) (hw := h9) (hu := rfl) (h := by rintro f _ rfl; exact p_move ⟨rfl, rfl⟩) (k := ?_)
                refine qy2 73 74 (hg := rfl) (hw := h9) (hu := rfl) (h := by rintro f _ rfl; exact p_ixl sl_48 ⟨rfl, rfl⟩) (k := ?_)
                refine qy1 75 (hg := rfl) (hw := h9) (hu := rfl) (h := by rintro f _ rfl; exact p_loadf ty_3 ⟨rfl, rfl⟩) (k := ?_)
                refine qy1 2 (hg := rfl) (hw := h9) (hu := rfl) (h := by rintro f _ rfl; exact p_fap fa_36_0 ⟨rfl, rfl⟩) (k := ?_)
                refine qy1 77 (hg := rfl) (hw := h9) (hu := rfl) (h := by rintro f _ rfl; exact p_loadp ty_34 ⟨rfl, rfl⟩) (k := ?_)
                first | refine qy1 78 (hg := rfl) (hw := h9) (hu := rfl) (h := by rintro f _ rfl; exact p_lenl sl_34 ⟨rfl, rfl⟩) (k := ?_) | refine qy1 78 (hg := rfl) (hw := h9) (hu := rfl) (h := by rintro f _ rfl; exact p_leno sl_34 ⟨rfl, rfl⟩) (k := ?_) | refine qy1 78 (hg := rfl) (hw := h9) (hu := rfl) (h := by rintro f _ rfl; exact p_lenn sl_34 ⟨rfl, rfl⟩) (k := ?_)
                refine q_end ?_
                refine m_end ?_
                refine g_y rfl h9 (p_cmp ?_)
                refine l_cons rfl (p_pickf h9 ?_)
                refine l_nil ?_
                refine k_seq_normal ?_
                refine w_b (fun h10 => ?_) (fun h10 => ?_)
                · skip
                  have h10' := h10; (try simp only [decide_eq_true_eq, decide_eq_false_iff_not, Bool.not_eq_true', Bool.not_false, Bool.not_true, Bool.not_eq_false'] at h10')
                  refine w_seq ?_
                  refine w_region ?_
                  refine l_cons rfl (p_assign ?_)
                  refine l_nil ?_
                  refine k_seq_normal ?_
                  refine w_ret ?_
                  refine k_blk_ret ?_
                  refine k_seq_ret ?_
                  refine k_seq_ret ?_
                  refine k_blk_ret ?_
                  refine k_seq_ret ?_
                  exfalso
                  have hin := fold_mem (List.getElem_mem (l := (w.foldl (stepped n) (closed n [n.start]))) (n := i) (by omega))
                  omega
                · skip
                  have h10' := h10; (try simp only [decide_eq_true_eq, decide_eq_false_iff_not, Bool.not_eq_true', Bool.not_false, Bool.not_true, Bool.not_eq_false'] at h10')
                  refine w_skip ?_
                  refine k_blk_normal ?_
                  refine k_seq_normal ?_
                  refine w_region ?_
                  refine l_cons rfl (p_move ?_)
                  refine l_cons rfl (p_arith ?_)
                  refine l_cons rfl (p_assign ?_)
                  refine l_nil ?_
                  refine k_seq_normal ?_
                  have e := any_take (p := fun z => decide (z = n.stop)) (l := (w.foldl (stepped n) (closed n [n.start]))) (k := i) (by omega)
                  refine ⟨(w.foldl (stepped n) (closed n [n.start])).length - (i + 1), by omega, i + 1, rfl, by omega, rfl, ?_⟩
                  simp only [Knows, put, upd_apply, Nat.reduceEqDiff, ↓reduceIte, and_true, true_and, eq_self, e]
                  first | exact ⟨by simp [*], rfl⟩ | simp [*]
          · skip
            have h5' := h5; (try simp only [decide_eq_true_eq, decide_eq_false_iff_not, Bool.not_eq_true', Bool.not_false, Bool.not_true, Bool.not_eq_false'] at h5')
            refine w_exit ?_
            refine k_seq_exit ?_
            refine k_seq_exit ?_
            refine k_blk_here ?_
            refine k_seq_normal ?_
            refine w_seq ?_
            refine w_region ?_
            refine l_cons rfl (p_loadp ty_36 ?_)
            refine l_cons rfl (p_move ?_)
            refine l_cons rfl (p_callr en_31 (run_walk n w hw) ?_)
            refine l_cons rfl (p_move ?_)
            refine l_cons rfl (p_eqb ub_4 ?_)
            refine l_cons rfl (p_assign ?_)
            refine l_nil ?_
            refine k_seq_normal ?_
            refine w_ret ?_
            exact ret1 rfl (by simp only [ev_tmp, ev_const, ev_func, ofConst_int, ofConst_bool, ofConst_str, ofConst_nil, upd_apply, Nat.reduceEqDiff, ↓reduceIte] <;> exact rfl) (by first | exact Sub.refl _ | exact sub1 _ _ | exact sub2 _ _ _ | exact sub3 _ _ _ _ | exact sub4 _ _ _ _ _ | exact sub5 _ _ _ _ _ _) (by rw [run_any hmay, List.take_of_length_le (by omega)]; simp)
    · skip
      have h2' := h2; (try simp only [decide_eq_true_eq, decide_eq_false_iff_not, Bool.not_eq_true', Bool.not_false, Bool.not_true, Bool.not_eq_false'] at h2')
      refine g_n rfl h2 ?_
      refine g_n rfl h2 ?_
      refine l_cons rfl (p_pickt h2 ?_)
      refine l_nil ?_
      refine k_seq_normal ?_
      refine w_t rfl ?_
      refine w_seq ?_
      refine w_region ?_
      refine l_cons rfl (p_assign ?_)
      refine l_nil ?_
      refine k_seq_normal ?_
      refine w_ret ?_
      refine k_seq_ret ?_
      exact ret1 rfl (by simp only [ev_tmp, ev_const, ev_func, ofConst_int, ofConst_bool, ofConst_str, ofConst_nil, upd_apply, Nat.reduceEqDiff, ↓reduceIte] <;> exact rfl) (by first | exact Sub.refl _ | exact sub1 _ _ | exact sub2 _ _ _ | exact sub3 _ _ _ _ | exact sub4 _ _ _ _ _ | exact sub5 _ _ _ _ _ _) (rfl)
  · skip
    have h1' := h1; (try simp only [decide_eq_true_eq, decide_eq_false_iff_not, Bool.not_eq_true', Bool.not_false, Bool.not_true, Bool.not_eq_false'] at h1')
    refine g_n rfl h1 ?_
    refine g_n rfl h1 ?_
    refine l_cons rfl (p_pickt h1 ?_)
    refine l_cons rfl (p_move ?_)
    refine g_n rfl rfl ?_
    refine g_n rfl rfl ?_
    refine g_n rfl rfl ?_
    refine l_cons rfl (p_pickt rfl ?_)
    refine l_nil ?_
    refine k_seq_normal ?_
    refine w_t rfl ?_
    refine w_seq ?_
    refine w_region ?_
    refine l_cons rfl (p_assign ?_)
    refine l_nil ?_
    refine k_seq_normal ?_
    refine w_ret ?_
    refine k_seq_ret ?_
    exact ret1 rfl (by simp only [ev_tmp, ev_const, ev_func, ofConst_int, ofConst_bool, ofConst_str, ofConst_nil, upd_apply, Nat.reduceEqDiff, ↓reduceIte] <;> exact rfl) (by first | exact Sub.refl _ | exact sub1 _ _ | exact sub2 _ _ _ | exact sub3 _ _ _ _ | exact sub4 _ _ _ _ _ | exact sub5 _ _ _ _ _ _) (rfl)
end Go.Proofs.YtfdgbghlanbddaaDoor.Av
