import Derived.Test.YtfdgbghlanbddaaDoorAvG8
import Derived.Test.YtfdgbghlanbddaaDoorAvLaw5
set_option linter.unusedVariables false
set_option linter.unusedSimpArgs false
set_option maxRecDepth 8000
namespace Go.Proofs.YtfdgbghlanbddaaDoor.Av
open Go.RowKit Go.Proofs
theorem closes_walk {w0 : World} (n : Nf) (l m : List Int) : ACalls Tryd.prog w0 5 [n.av, ints l, ints m] [] fun v es' => v = .bool true := by
  unfold Nf.av ints
  refine calls3 (N := 84) Tryd.func5 rfl rfl (by decide) ?_
  refine w_seq ?_
  refine w_region ?_
  refine l_cons rfl (p_box fun s3 => ?_)
  refine l_cons rfl (p_assign ?_)
  refine l_nil ?_
  refine k_seq_normal ?_
  refine w_seq ?_
  refine w_seq ?_
  refine w_region ?_
  refine l_cons rfl (p_callr en_23 (begun_walk) ?_)
  refine l_cons rfl (p_not ?_)
  refine l_nil ?_
  refine k_seq_normal ?_
  refine w_f rfl ?_
  refine w_skip ?_
  refine k_seq_normal ?_
  refine w_seq ?_
  refine w_seq ?_
  refine w_region ?_
  refine l_cons rfl (p_loadp ty_36 ?_)
  refine l_cons rfl (p_callr en_36 (light_walk n 40) ?_)
  refine l_cons rfl (p_not ?_)
  refine l_cons rfl (p_move ?_)
  refine g_b rfl (fun h1 => ?_) (fun h1 => ?_)
  · skip
    have h1' := h1; (try simp only [decide_eq_true_eq, decide_eq_false_iff_not, Bool.not_eq_true', Bool.not_false, Bool.not_true, Bool.not_eq_false'] at h1')
    refine (p_move ?_)
    refine g_y rfl h1 (p_lenl sl_48 ?_)
    refine g_y rfl h1 (p_cmp ?_)
    refine l_cons rfl (p_pickf h1 ?_)
    refine l_cons rfl (p_move ?_)
    refine g_b rfl (fun h2 => ?_) (fun h2 => ?_)
    · skip
      have h2' := h2; (try simp only [decide_eq_true_eq, decide_eq_false_iff_not, Bool.not_eq_true', Bool.not_false, Bool.not_true, Bool.not_eq_false'] at h2')
      refine (p_move ?_)
      refine g_y rfl h2 (p_lenl sl_48 ?_)
      refine g_y rfl h2 (p_cmp ?_)
      refine l_cons rfl (p_pickf h2 ?_)
      refine l_nil ?_
      refine k_seq_normal ?_
      refine w_b (fun h3 => ?_) (fun h3 => ?_)
      · skip
        have h3' := h3; (try simp only [decide_eq_true_eq, decide_eq_false_iff_not, Bool.not_eq_true', Bool.not_false, Bool.not_true, Bool.not_eq_false'] at h3')
        refine w_seq ?_
        refine w_region ?_
        refine l_cons rfl (p_assign ?_)
        refine l_nil ?_
        refine k_seq_normal ?_
        refine w_ret ?_
        refine k_seq_ret ?_
        exact ret1 rfl (by simp only [ev_tmp, ev_const, ev_func, ofConst_int, ofConst_bool, ofConst_str, ofConst_nil, upd_apply, Nat.reduceEqDiff, ↓reduceIte] <;> exact rfl) (by first | exact Sub.refl _ | exact sub1 _ _ | exact sub2 _ _ _ | exact sub3 _ _ _ _ | exact sub4 _ _ _ _ _ | exact sub5 _ _ _ _ _ _) (rfl)
      · skip
        have h3' := h3; (try simp only [decide_eq_true_eq, decide_eq_false_iff_not, Bool.not_eq_true', Bool.not_false, Bool.not_true, Bool.not_eq_false'] at h3')
        refine w_skip ?_
        refine k_seq_normal ?_
        refine w_seq ?_
        have hll : l.length ≤ 40 := by omega
        have hml : m.length ≤ 40 := by omega
        refine w_region ?_
        refine l_cons rfl (p_loadp ty_36 ?_)
        refine l_cons rfl (p_move ?_)
        refine l_cons rfl (p_callr en_37 (close_walk n l) ?_)
        refine l_cons rfl (p_assign ?_)
        refine l_nil ?_
        refine k_seq_normal ?_
        refine w_seq ?_
        refine w_drawn 6 [1, 3, 5] (fun e => at_ e 0 = some (.row s3 36 3 [n.cells])) mixed (by kernel_rfl) rfl ?_
        refine q1 3 (hg := rfl) (hu := rfl) (h := by rintro f _ hG; exact p_loadp ty_36 ⟨rfl, rfl⟩) (k := ?_)
        refine q1 1 (hg := rfl) (hu := rfl) (h := by rintro f _ hG; exact p_move ⟨rfl, rfl⟩) (k := ?_)
        refine q1 2 (hg := rfl) (hu := rfl) (h := by rintro f _ hG; exact p_move ⟨rfl, rfl⟩) (k := ?_)
        refine q_end ?_
        refine m0  (hu := rfl) (h := fun f => p_buildSlice sl_48 ze_3 fun s31 => ?_)
        refine ⟨_, rfl, rfl, ?_⟩
        refine m2 31 32 (hu := rfl) (h := fun f => p_append sl_48 by_3 ze_3 (fun s33 => ?_))
        refine ⟨_, rfl, rfl, ?_⟩
        refine m2 33 34 (hu := rfl) (h := fun f => p_append sl_48 by_3 ze_3 (fun s35 => ?_))
        refine ⟨_, rfl, rfl, ?_⟩
        refine m_end ?_
        refine l_freeze 35 rfl loc_hit (by simp [cleans, clean]) ?_
        refine l_retell 35 (b := ints (l ++ m)) (fun c m' v h => by simpa [ints] using h) ?_
        refine l_cons rfl (p_callr en_37 (close_walk n (l ++ m)) ?_)
        refine l_cons rfl (p_assign ?_)
        refine l_nil ?_
        refine k_seq_normal ?_
        refine w_seq ?_
        refine w_seq ?_
        have hxl := closeN_len n l
        have hyl := closeN_len n (l ++ m)
        refine w_region ?_
        refine l_cons rfl (p_assign ?_)
        refine l_nil ?_
        refine k_seq_normal ?_
        refine w_block ?_
        refine w_loop (fun q f es' => ∃ i, q = (closeN n l).length - i ∧ i ≤ (closeN n l).length ∧ Sub (.row s3 36 3 [n.cells] :: []) es' ∧ Knows f [(3, .ptr 0 s3 0 0), (7, .list 1 ((closeN n l).map fun n => [.int .i64 n])), (8, .list 1 ((closeN n (l ++ m)).map fun n => [.int .i64 n])), (9, .int .i64 i)]) ((closeN n l).length) (⟨0, rfl, Nat.zero_le _, (by first | exact Sub.refl _ | exact sub1 _ _), by simp only [Knows, put, upd_apply, Nat.reduceEqDiff, ↓reduceIte, and_true, true_and, eq_self] <;> first | exact rfl | exact ⟨rfl, rfl⟩ | exact ⟨rfl, rfl, rfl⟩ | exact ⟨rfl, rfl, rfl, rfl⟩ | exact ⟨rfl, rfl, rfl, rfl, rfl⟩ | exact ⟨rfl, rfl, rfl, rfl, rfl, rfl⟩⟩) ?_
        rintro q f es' ⟨i, rfl, hi1, hsub, hk⟩
        refine w_pins _ hsub (hk) ?_
        simp only [pins]
        refine w_seq ?_
        refine w_seq ?_
        refine w_region ?_
        refine l_cons rfl (p_move ?_)
        refine l_cons rfl (p_move ?_)
        refine l_cons rfl (p_lenl sl_48 ?_)
        refine l_cons rfl (p_cmp ?_)
        refine l_nil ?_
        refine k_seq_normal ?_
        refine w_b (fun h4 => ?_) (fun h4 => ?_)
        · skip
          have h4' := h4; (try simp only [decide_eq_true_eq, decide_eq_false_iff_not, Bool.not_eq_true', Bool.not_false, Bool.not_true, Bool.not_eq_false'] at h4')
          refine w_skip ?_
          refine k_seq_normal ?_
          refine w_seq ?_
          refine w_block ?_
          refine w_seq ?_
          refine w_region ?_
          refine l_cons rfl (p_assign ?_)
          refine l_nil ?_
          refine k_seq_normal ?_
          refine w_seq ?_
          refine w_seq ?_
          refine w_region ?_
          refine l_cons rfl (p_assign ?_)
          refine l_nil ?_
          refine k_seq_normal ?_
          refine w_block ?_
          refine w_loop (fun q f es' => ∃ k, q = (closeN n (l ++ m)).length - k ∧ k ≤ (closeN n (l ++ m)).length ∧ es' = .row s3 36 3 [n.cells] :: [] ∧ Knows f [(3, .ptr 0 s3 0 0), (7, .list 1 ((closeN n l).map fun n => [.int .i64 n])), (8, .list 1 ((closeN n (l ++ m)).map fun n => [.int .i64 n])), (9, .int .i64 i), (10, .bool (((closeN n (l ++ m)).take k).any fun z => decide ((closeN n l)[i] = z))), (11, .int .i64 k)]) ((closeN n (l ++ m)).length) (⟨0, rfl, Nat.zero_le _, rfl, by simp only [Knows, put, upd_apply, Nat.reduceEqDiff, ↓reduceIte, and_true, true_and, eq_self] <;> first | exact rfl | exact ⟨rfl, rfl⟩ | exact ⟨rfl, rfl, rfl⟩ | exact ⟨rfl, rfl, rfl, rfl⟩ | exact ⟨rfl, rfl, rfl, rfl, rfl⟩ | exact ⟨rfl, rfl, rfl, rfl, rfl, rfl⟩⟩) ?_
          rintro q f es' ⟨k, rfl, hk1, rfl, hk⟩
          refine w_pins _ (Sub.refl _) (hk) ?_
          simp only [pins]
          refine w_seq ?_
          refine w_seq ?_
          refine w_region ?_
          refine l_cons rfl (p_move ?_)
          refine l_cons rfl (p_move ?_)
          refine l_cons rfl (p_lenl sl_48 ?_)
          refine l_cons rfl (p_cmp ?_)
          refine l_nil ?_
          refine k_seq_normal ?_
          refine w_b (fun h5 => ?_) (fun h5 => ?_)
          · skip
            have h5' := h5; (try simp only [decide_eq_true_eq, decide_eq_false_iff_not, Bool.not_eq_true', Bool.not_false, Bool.not_true, Bool.not_eq_false'] at h5')
            refine w_skip ?_
            refine k_seq_normal ?_
            refine w_seq ?_
            refine w_block ?_
            refine w_drawn 10 [] (fun e => e = _) mixed (by kernel_rfl) rfl ?_
            refine q1 10 (hg := rfl) (hu := rfl) (h := by rintro f _ rfl; exact p_move ⟨rfl, rfl⟩) (k := ?_)
            refine q1 49 (hg := rfl) (hu := rfl) (h := by rintro f _ rfl; exact p_move ⟨rfl, rfl⟩) (k := ?_)
            refine qsplit 50 (fun h6 => ?_) (fun h6 => ?_)
            · skip
              have h6' := h6; (try simp only [decide_eq_true_eq, decide_eq_false_iff_not, Bool.not_eq_true', Bool.not_false, Bool.not_true, Bool.not_eq_false'] at h6')
              refine qn rfl h6 ?_
              refine qn rfl h6 ?_
              refine qn rfl h6 ?_
              refine qn rfl h6 ?_
              refine qn rfl h6 ?_
              refine qn rfl h6 ?_
              refine qn rfl h6 ?_
              refine qn rfl h6 ?_
              refine q_end ?_
              refine m_end ?_
              refine g_n rfl h6 ?_
              refine l_cons rfl (p_pickt h6 ?_)
              refine l_cons rfl (p_assign ?_)
              refine l_nil ?_
              refine k_blk_normal ?_
              refine k_seq_normal ?_
              refine w_region ?_
              refine l_cons rfl (p_move ?_)
              refine l_cons rfl (p_arith ?_)
              refine l_cons rfl (p_assign ?_)
              refine l_nil ?_
              refine k_seq_normal ?_
              have e := any_take (p := fun z => decide ((closeN n l)[i] = z)) (l := (closeN n (l ++ m))) (k := k) (by omega)
              refine ⟨(closeN n (l ++ m)).length - (k + 1), by omega, k + 1, rfl, by omega, rfl, ?_⟩
              simp only [Knows, put, upd_apply, Nat.reduceEqDiff, ↓reduceIte, and_true, true_and, eq_self, e]
              first | exact ⟨by simp [*], rfl⟩ | simp [*]
            · skip
              have h6' := h6; (try simp only [decide_eq_true_eq, decide_eq_false_iff_not, Bool.not_eq_true', Bool.not_false, Bool.not_true, Bool.not_eq_false'] at h6')
              refine qy1 7 (hg := rfl) (hw := h6) (hu := rfl) (h := by rintro f _ rfl; exact p_move ⟨rfl, rfl⟩) (k := ?_)
              refine qy1 9 (hg := rfl) (hw := h6) (hu := rfl) (h := by rintro f _ rfl; exact p_move ⟨rfl, rfl⟩) (k := ?_)
              refine qy2 51 52 (hg := rfl) (hw := h6) (hu := rfl) (h := by rintro f _ rfl; exact p_ixl sl_48 ⟨rfl, rfl⟩) (k := ?_)
              refine qy1 53 (hg := rfl) (hw := h6) (hu := rfl) (h := by rintro f _ rfl; exact p_loadf ty_3 ⟨rfl, rfl⟩) (k := ?_)
              refine qy1 8 (hg := rfl) (hw := h6) (hu := rfl) (h := by rintro f _ rfl; exact p_move ⟨rfl, rfl⟩) (k := ?_)
              refine qy1 11 (hg := rfl) (hw := h6) (hu := rfl) (h := by rintro f _ rfl; exact p_move ⟨rfl, rfl⟩) (k := ?_)
              refine qy2 55 56 (hg := rfl) (hw := h6) (hu := rfl) (h := by rintro f _ rfl; exact p_ixl sl_48 ⟨rfl, rfl⟩) (k := ?_)
              refine qy1 57 (hg := rfl) (hw := h6) (hu := rfl) (h := by rintro f _ rfl; exact p_loadf ty_3 ⟨rfl, rfl⟩) (k := ?_)
              refine q_end ?_
              refine m_end ?_
              refine g_y rfl h6 (p_cmp ?_)
              refine l_cons rfl (p_pickf h6 ?_)
              refine l_cons rfl (p_assign ?_)
              refine l_nil ?_
              refine k_blk_normal ?_
              refine k_seq_normal ?_
              refine w_region ?_
              refine l_cons rfl (p_move ?_)
              refine l_cons rfl (p_arith ?_)
              refine l_cons rfl (p_assign ?_)
              refine l_nil ?_
              refine k_seq_normal ?_
              have e := any_take (p := fun z => decide ((closeN n l)[i] = z)) (l := (closeN n (l ++ m))) (k := k) (by omega)
              refine ⟨(closeN n (l ++ m)).length - (k + 1), by omega, k + 1, rfl, by omega, rfl, ?_⟩
              simp only [Knows, put, upd_apply, Nat.reduceEqDiff, ↓reduceIte, and_true, true_and, eq_self, e]
              first | exact ⟨by simp [*], rfl⟩ | simp [*]
          · skip
            have h5' := h5; (try simp only [decide_eq_true_eq, decide_eq_false_iff_not, Bool.not_eq_true', Bool.not_false, Bool.not_true, Bool.not_eq_false'] at h5')
            refine w_exit ?_
            refine k_seq_exit ?_
            refine k_seq_exit ?_
            refine k_blk_here ?_
            refine k_seq_normal ?_
            refine w_seq ?_
            have hall : ((closeN n (l ++ m)).take k).any (fun z => decide ((closeN n l)[i] = z)) = true := by
              rw [List.take_of_length_le (by omega)]
              exact closeN_any n l m (by omega)
            refine w_drawn 15 [] (fun e => e = _) mixed (by kernel_rfl) rfl ?_
            refine q1 10 (hg := rfl) (hu := rfl) (h := by rintro f _ rfl; exact p_move ⟨rfl, rfl⟩) (k := ?_)
            refine q1 61 (hg := rfl) (hu := rfl) (h := by rintro f _ rfl; exact p_not ⟨rfl, rfl⟩) (k := ?_)
            refine q1 62 (hg := rfl) (hu := rfl) (h := by rintro f _ rfl; exact p_move ⟨rfl, rfl⟩) (k := ?_)
            refine qsplit 63 (fun h7 => ?_) (fun h7 => ?_)
            · skip
              have h7' := h7; (try simp only [decide_eq_true_eq, decide_eq_false_iff_not, Bool.not_eq_true', Bool.not_false, Bool.not_true, Bool.not_eq_false'] at h7')
              refine qn rfl h7 ?_
              refine qn rfl h7 ?_
              refine qn rfl h7 ?_
              refine qu rfl ?_
              refine qu rfl ?_
              refine qu rfl ?_
              refine qu rfl ?_
              refine qu rfl ?_
              refine qu rfl ?_
              refine qu rfl ?_
              refine qu rfl ?_
              refine qu rfl ?_
              refine q_end ?_
              refine m_end ?_
              refine g_u rfl ?_
              refine g_n rfl h7 ?_
              refine l_cons rfl (p_pickt h7 ?_)
              refine l_nil ?_
              refine k_seq_normal ?_
              refine w_t rfl ?_
              refine w_seq ?_
              refine w_region ?_
              refine l_cons rfl (p_assign ?_)
              refine l_nil ?_
              refine k_seq_normal ?_
              refine w_ret ?_
              refine k_blk_ret ?_
              refine k_seq_ret ?_
              refine k_seq_ret ?_
              refine k_blk_ret ?_
              refine k_seq_ret ?_
              exfalso
              first
              | (simp_all; done)
              | (have hlt := closeN_lt n l (i := i - 1) (j := i) (by omega) (by omega); simp_all; done)
              | (have hlt := closeN_lt n l (i := i - 1) (j := i) (by omega) (by omega); simp_all; omega)
            · skip
              have h7' := h7; (try simp only [decide_eq_true_eq, decide_eq_false_iff_not, Bool.not_eq_true', Bool.not_false, Bool.not_true, Bool.not_eq_false'] at h7')
              refine qy1 9 (hg := rfl) (hw := h7) (hu := rfl) (h := by rintro f _ rfl; exact p_move ⟨rfl, rfl⟩) (k := ?_)
              refine qy1 64 (hg := rfl) (hw := h7) (hu := rfl) (h := by rintro f _ rfl; exact p_cmp ⟨rfl, rfl⟩) (k := ?_)
              refine qy1 65 (hg := rfl) (hw := h7) (hu := rfl) (h := by rintro f _ rfl; exact p_move ⟨rfl, rfl⟩) (k := ?_)
              refine qsplit 66 (fun h8 => ?_) (fun h8 => ?_)
              · skip
                have h8' := h8; (try simp only [decide_eq_true_eq, decide_eq_false_iff_not, Bool.not_eq_true', Bool.not_false, Bool.not_true, Bool.not_eq_false'] at h8')
                refine qy1 7 (hg := rfl) (hw := h8) (hu := rfl) (h := by rintro f _ rfl; exact p_move ⟨rfl, rfl⟩) (k := ?_)
                refine qy1 9 (hg := rfl) (hw := h8) (hu := rfl) (h := by rintro f _ rfl; exact p_move ⟨rfl, rfl⟩) (k := ?_)
                refine qy1 68 (hg := rfl) (hw := h8) (hu := rfl) (h := by rintro f _ rfl; exact p_arith ⟨rfl, rfl⟩) (k := ?_)
                refine qy2 67 69 (hg := rfl) (hw := h8) (hu := rfl) (h := by rintro f _ rfl; exact p_ixl sl_48 ⟨rfl, rfl⟩) (k := ?_)
                refine qy1 70 (hg := rfl) (hw := h8) (hu := rfl) (h := by rintro f _ rfl; exact p_loadf ty_3 ⟨rfl, rfl⟩) (k := ?_)
                refine qy1 7 (hg := rfl) (hw := h8) (hu := rfl) (h := by rintro f _ rfl; exact p_move ⟨rfl, rfl⟩) (k := ?_)
                refine qy1 9 (hg := rfl) (hw := h8) (hu := rfl) (h := by rintro f _ rfl; exact p_move ⟨rfl, rfl⟩) (k := ?_)
                refine qy2 72 73 (hg := rfl) (hw := h8) (hu := rfl) (h := by rintro f _ rfl; exact p_ixl sl_48 ⟨rfl, rfl⟩) (k := ?_)
                refine qy1 74 (hg := rfl) (hw := h8) (hu := rfl) (h := by rintro f _ rfl; exact p_loadf ty_3 ⟨rfl, rfl⟩) (k := ?_)
                refine q_end ?_
                refine m_end ?_
                refine g_y rfl h8 (p_cmp ?_)
                refine g_y rfl h7 (p_pickt h8 ?_)
                refine l_cons rfl (p_pickf h7 ?_)
                refine l_nil ?_
                refine k_seq_normal ?_
                refine w_b (fun h9 => ?_) (fun h9 => ?_)
                · skip
                  have h9' := h9; (try simp only [decide_eq_true_eq, decide_eq_false_iff_not, Bool.not_eq_true', Bool.not_false, Bool.not_true, Bool.not_eq_false'] at h9')
                  refine w_seq ?_
                  refine w_region ?_
                  refine l_cons rfl (p_assign ?_)
                  refine l_nil ?_
                  refine k_seq_normal ?_
                  refine w_ret ?_
                  refine k_blk_ret ?_
                  refine k_seq_ret ?_
                  refine k_seq_ret ?_
                  refine k_blk_ret ?_
                  refine k_seq_ret ?_
                  exfalso
                  first
                  | (simp_all; done)
                  | (have hlt := closeN_lt n l (i := i - 1) (j := i) (by omega) (by omega); simp_all; done)
                  | (have hlt := closeN_lt n l (i := i - 1) (j := i) (by omega) (by omega); simp_all; omega)
                · skip
                  have h9' := h9; (try simp only [decide_eq_true_eq, decide_eq_false_iff_not, Bool.not_eq_true', Bool.not_false, Bool.not_true, Bool.not_eq_false'] at h9')
                  refine w_skip ?_
                  refine k_blk_normal ?_
                  refine k_seq_normal ?_
                  refine w_region ?_
                  refine l_cons rfl (p_move ?_)
                  refine l_cons rfl (p_arith ?_)
                  refine l_cons rfl (p_assign ?_)
                  refine l_nil ?_
                  refine k_seq_normal ?_
                  exact ⟨(closeN n l).length - (i + 1), by omega, i + 1, rfl, by omega, Sub.refl _, by simp only [Knows, put, upd_apply, Nat.reduceEqDiff, ↓reduceIte, and_true, true_and, eq_self] <;> first | exact rfl | exact ⟨rfl, rfl⟩ | exact ⟨rfl, rfl, rfl⟩ | exact ⟨rfl, rfl, rfl, rfl⟩ | exact ⟨rfl, rfl, rfl, rfl, rfl⟩ | exact ⟨rfl, rfl, rfl, rfl, rfl, rfl⟩⟩
              · skip
                have h8' := h8; (try simp only [decide_eq_true_eq, decide_eq_false_iff_not, Bool.not_eq_true', Bool.not_false, Bool.not_true, Bool.not_eq_false'] at h8')
                refine qn rfl h8 ?_
                refine qn rfl h8 ?_
                refine qn rfl h8 ?_
                refine qn rfl h8 ?_
                refine qn rfl h8 ?_
                refine qn rfl h8 ?_
                refine qn rfl h8 ?_
                refine qn rfl h8 ?_
                refine qn rfl h8 ?_
                refine q_end ?_
                refine m_end ?_
                refine g_n rfl h8 ?_
                refine g_y rfl h7 (p_pickf h8 ?_)
                refine l_cons rfl (p_pickf h7 ?_)
                refine l_nil ?_
                refine k_seq_normal ?_
                refine w_f rfl ?_
                refine w_skip ?_
                refine k_blk_normal ?_
                refine k_seq_normal ?_
                refine w_region ?_
                refine l_cons rfl (p_move ?_)
                refine l_cons rfl (p_arith ?_)
                refine l_cons rfl (p_assign ?_)
                refine l_nil ?_
                refine k_seq_normal ?_
                exact ⟨(closeN n l).length - (i + 1), by omega, i + 1, rfl, by omega, Sub.refl _, by simp only [Knows, put, upd_apply, Nat.reduceEqDiff, ↓reduceIte, and_true, true_and, eq_self] <;> first | exact rfl | exact ⟨rfl, rfl⟩ | exact ⟨rfl, rfl, rfl⟩ | exact ⟨rfl, rfl, rfl, rfl⟩ | exact ⟨rfl, rfl, rfl, rfl, rfl⟩ | exact ⟨rfl, rfl, rfl, rfl, rfl, rfl⟩⟩
        · skip
          have h4' := h4; (try simp only [decide_eq_true_eq, decide_eq_false_iff_not, Bool.not_eq_true', Bool.not_false, Bool.not_true, Bool.not_eq_false'] at h4')
          refine w_exit ?_
          refine k_seq_exit ?_
          refine k_seq_exit ?_
          refine k_blk_here ?_
          refine k_seq_normal ?_
          refine w_seq ?_
          refine w_region ?_
          refine l_cons rfl (p_loadp ty_36 ?_)
          refine l_cons rfl (p_move ?_)
          refine l_cons rfl (p_callr en_37 (close_walk n (closeN n l)) ?_)
          refine l_cons rfl (p_move ?_)
          refine l_cons rfl (p_callr en_38 (same_walk _ _) ?_)
          refine l_cons rfl (p_assign ?_)
          refine l_nil ?_
          refine k_seq_normal ?_
          refine w_ret ?_
          exact ret1 rfl (by simp only [ev_tmp, ev_const, ev_func, ofConst_int, ofConst_bool, ofConst_str, ofConst_nil, upd_apply, Nat.reduceEqDiff, ↓reduceIte] <;> exact rfl) (by first | exact Sub.refl _ | exact sub1 _ _ | exact sub2 _ _ _ | exact sub3 _ _ _ _ | exact sub4 _ _ _ _ _ | exact sub5 _ _ _ _ _ _) (by rw [closeN_closeN]; simp)
    · skip
      have h2' := h2; (try simp only [decide_eq_true_eq, decide_eq_false_iff_not, Bool.not_eq_true', Bool.not_false, Bool.not_true, Bool.not_eq_false'] at h2')
      refine g_n rfl h2 ?_
      refine g_n rfl h2 ?_
      refine l_cons rfl (p_pickt h2 ?_)
      refine l_nil ?_
      refine k_seq_normal ?_
      refine w_t rfl ?_
      refine w_seq ?_
      refine w_region ?_
      refine l_cons rfl (p_assign ?_)
      refine l_nil ?_
      refine k_seq_normal ?_
      refine w_ret ?_
      refine k_seq_ret ?_
      exact ret1 rfl (by simp only [ev_tmp, ev_const, ev_func, ofConst_int, ofConst_bool, ofConst_str, ofConst_nil, upd_apply, Nat.reduceEqDiff, ↓reduceIte] <;> exact rfl) (by first | exact Sub.refl _ | exact sub1 _ _ | exact sub2 _ _ _ | exact sub3 _ _ _ _ | exact sub4 _ _ _ _ _ | exact sub5 _ _ _ _ _ _) (rfl)
  · skip
    have h1' := h1; (try simp only [decide_eq_true_eq, decide_eq_false_iff_not, Bool.not_eq_true', Bool.not_false, Bool.not_true, Bool.not_eq_false'] at h1')
    refine g_n rfl h1 ?_
    refine g_n rfl h1 ?_
    refine l_cons rfl (p_pickt h1 ?_)
    refine l_cons rfl (p_move ?_)
    refine g_n rfl rfl ?_
    refine g_n rfl rfl ?_
    refine g_n rfl rfl ?_
    refine l_cons rfl (p_pickt rfl ?_)
    refine l_nil ?_
    refine k_seq_normal ?_
    refine w_t rfl ?_
    refine w_seq ?_
    refine w_region ?_
    refine l_cons rfl (p_assign ?_)
    refine l_nil ?_
    refine k_seq_normal ?_
    refine w_ret ?_
    refine k_seq_ret ?_
    exact ret1 rfl (by simp only [ev_tmp, ev_const, ev_func, ofConst_int, ofConst_bool, ofConst_str, ofConst_nil, upd_apply, Nat.reduceEqDiff, ↓reduceIte] <;> exact rfl) (by first | exact Sub.refl _ | exact sub1 _ _ | exact sub2 _ _ _ | exact sub3 _ _ _ _ | exact sub4 _ _ _ _ _ | exact sub5 _ _ _ _ _ _) (rfl)
end Go.Proofs.YtfdgbghlanbddaaDoor.Av
