import Derived.Test.YtfdgbghlanbddaaDoorAvAid
set_option linter.unusedVariables false
set_option linter.unusedSimpArgs false
set_option maxRecDepth 8000
namespace Go.Proofs.YtfdgbghlanbddaaDoor.Av
open Go.RowKit Go.Proofs
theorem may_is {w0 : World} {es : List Ent} {id s : Nat} {n : Nf} {k : Int} (hb : at_ es id = some (.row s 36 3 [n.cells])) : ACalls Tryd.prog w0 75 [.int .i64 k, .ptr id s 0 0] es fun v es' => v = .bool (inN n k) ∧ es' = es := by
  unfold Nf.cells at hb
  refine calls2 (N := 13) Tryd.func75 rfl rfl (by decide) ?_
  refine w_seq ?_
  refine w_region ?_
  refine l_cons rfl (p_assign ?_)
  refine l_nil ?_
  refine k_seq_normal ?_
  refine w_seq ?_
  refine w_region ?_
  refine l_cons rfl (p_move ?_)
  refine l_cons rfl (p_cmp ?_)
  refine l_cons rfl (p_move ?_)
  refine g_b rfl (fun h1 => ?_) (fun h1 => ?_)
  · skip
    have h1' := h1; (try simp only [decide_eq_true_eq, decide_eq_false_iff_not, Bool.not_eq_true', Bool.not_false, Bool.not_true, Bool.not_eq_false'] at h1')
    refine (p_move ?_)
    refine g_y rfl h1 (p_fap fa_36_0 ?_)
    refine g_y rfl h1 (p_loadp ty_34 ?_)
    first | refine g_y rfl h1 (p_lenl sl_34 ?_) | refine g_y rfl h1 (p_leno sl_34 ?_) | refine g_y rfl h1 (p_lenn sl_34 ?_)
    refine g_y rfl h1 (p_cmp ?_)
    refine l_cons rfl (p_pickt h1 ?_)
    refine l_cons rfl (p_assign ?_)
    refine l_nil ?_
    refine k_seq_normal ?_
    refine w_ret ?_
    exact ret1 rfl (by simp only [ev_tmp, ev_const, ev_func, ofConst_int, ofConst_bool, ofConst_str, ofConst_nil, upd_apply, Nat.reduceEqDiff, ↓reduceIte] <;> exact rfl) (by first | exact Sub.refl _ | exact sub1 _ _ | exact sub2 _ _ _ | exact sub3 _ _ _ _ | exact sub4 _ _ _ _ _ | exact sub5 _ _ _ _ _ _) ⟨by first | (simp_all [inN]; done) | (simp_all [inN]; omega), rfl⟩
  · skip
    have h1' := h1; (try simp only [decide_eq_true_eq, decide_eq_false_iff_not, Bool.not_eq_true', Bool.not_false, Bool.not_true, Bool.not_eq_false'] at h1')
    refine g_n rfl h1 ?_
    refine g_n rfl h1 ?_
    refine g_n rfl h1 ?_
    refine g_n rfl h1 ?_
    refine l_cons rfl (p_pickf h1 ?_)
    refine l_cons rfl (p_assign ?_)
    refine l_nil ?_
    refine k_seq_normal ?_
    refine w_ret ?_
    exact ret1 rfl (by simp only [ev_tmp, ev_const, ev_func, ofConst_int, ofConst_bool, ofConst_str, ofConst_nil, upd_apply, Nat.reduceEqDiff, ↓reduceIte] <;> exact rfl) (by first | exact Sub.refl _ | exact sub1 _ _ | exact sub2 _ _ _ | exact sub3 _ _ _ _ | exact sub4 _ _ _ _ _ | exact sub5 _ _ _ _ _ _) ⟨by first | (simp_all [inN]; done) | (simp_all [inN]; omega), rfl⟩
theorem indexFunc {w0 : World} {es : List Ent} {l : List Int} {g : Nat} {l1 l2 : List AV} (p : Int → Bool) (hg : enterB Tryd.prog g = true) (hp : ∀ k, ACalls Tryd.prog w0 g (l1 ++ [.int .i64 k] ++ l2) es fun v es' => v = .bool (p k) ∧ es' = es) :
    ACalls Tryd.prog w0 115 [ints l, .fn (.func g) l1 l2] es fun v es' => v = .int .i64 (firstIdx p l) ∧ es' = es := by
  unfold ints
  refine calls2 (N := 19) Tryd.func115 rfl rfl (by decide) ?_
  refine w_seq ?_
  refine w_region ?_
  refine l_cons rfl (p_assign ?_)
  refine l_nil ?_
  refine k_seq_normal ?_
  refine w_seq ?_
  refine w_seq ?_
  refine w_len 0 fun hl => ?_
  rw [List.length_map] at hl
  simp only [most] at hl
  refine w_region ?_
  refine l_cons rfl (p_move ?_)
  refine l_cons rfl (p_lenl sl_48 ?_)
  refine l_cons rfl (p_move ?_)
  refine l_nil ?_
  refine k_seq_normal ?_
  refine w_block ?_
  refine w_loop (fun n f es' => ∃ k, n = l.length - k ∧ k ≤ l.length ∧ (∀ j (hj : j < k) (hjl : j < l.length), p l[j] = false) ∧ es' = es ∧ Knows f [(0, .list 1 (l.map fun n => [.int .i64 n])), (1, .fn (.func g) l1 l2), (7, .int .i64 l.length), (8, .int .i64 k)]) (l.length) (⟨0, rfl, Nat.zero_le _, fun j hj => absurd hj (Nat.not_lt_zero _), rfl, by simp only [Knows, upd_apply, Nat.reduceEqDiff, ↓reduceIte, and_true, true_and, eq_self] <;> first | exact rfl | exact ⟨rfl, rfl⟩ | exact ⟨rfl, rfl, rfl⟩ | exact ⟨rfl, rfl, rfl, rfl⟩ | exact ⟨rfl, rfl, rfl, rfl, rfl⟩ | exact ⟨rfl, rfl, rfl, rfl, rfl, rfl⟩⟩) ?_
  rintro n f es' ⟨k, rfl, hk1, hk2, rfl, hk⟩
  refine w_pins _ (Sub.refl _) (hk) ?_
  simp only [pins]
  refine w_seq ?_
  refine w_region ?_
  refine l_cons rfl (p_cmp ?_)
  refine l_nil ?_
  refine k_seq_normal ?_
  refine w_seq ?_
  refine w_b (fun h1 => ?_) (fun h1 => ?_)
  · skip
    have h1' := h1; (try simp only [decide_eq_true_eq, decide_eq_false_iff_not, Bool.not_eq_true', Bool.not_false, Bool.not_true, Bool.not_eq_false'] at h1')
    refine w_skip ?_
    refine k_seq_normal ?_
    refine w_seq ?_
    refine w_block ?_
    refine w_seq ?_
    refine w_region ?_
    refine l_cons rfl (p_move ?_)
    refine l_cons rfl (p_assign ?_)
    refine l_nil ?_
    refine k_seq_normal ?_
    refine w_seq ?_
    refine w_region ?_
    refine l_cons rfl (p_move ?_)
    refine l_cons rfl (p_move ?_)
    refine l_cons rfl (p_move ?_)
    refine l_cons rfl (p_ixl sl_48 ?_)
    refine l_cons rfl (p_loadf ty_3 ?_)
    refine l_cons rfl (p_callr hg (hp _) ?_)
    refine l_nil ?_
    refine k_seq_normal ?_
    refine w_b (fun h2 => ?_) (fun h2 => ?_)
    · skip
      have h2' := h2; (try simp only [decide_eq_true_eq, decide_eq_false_iff_not, Bool.not_eq_true', Bool.not_false, Bool.not_true, Bool.not_eq_false'] at h2')
      refine w_seq ?_
      refine w_region ?_
      refine l_cons rfl (p_move ?_)
      refine l_cons rfl (p_assign ?_)
      refine l_nil ?_
      refine k_seq_normal ?_
      refine w_ret ?_
      refine k_blk_ret ?_
      refine k_seq_ret ?_
      refine k_seq_ret ?_
      refine k_blk_ret ?_
      refine k_seq_ret ?_
      exact ret1 rfl (by simp only [ev_tmp, ev_const, ev_func, ofConst_int, ofConst_bool, ofConst_str, ofConst_nil, upd_apply, Nat.reduceEqDiff, ↓reduceIte] <;> exact rfl) (Sub.refl _) ⟨by rw [firstIdx_at (p := p) (l := l) (k := k) (by omega) (fun j hj => hk2 j hj (by omega)) (by assumption)], rfl⟩
    · skip
      have h2' := h2; (try simp only [decide_eq_true_eq, decide_eq_false_iff_not, Bool.not_eq_true', Bool.not_false, Bool.not_true, Bool.not_eq_false'] at h2')
      refine w_skip ?_
      refine k_blk_normal ?_
      refine k_seq_normal ?_
      refine w_region ?_
      refine l_cons rfl (p_arith ?_)
      refine l_cons rfl (p_move ?_)
      refine l_nil ?_
      refine k_seq_normal ?_
      exact ⟨l.length - (k + 1), by omega, k + 1, rfl, by omega, fun j hj hjl => by
        rcases Nat.lt_or_eq_of_le (Nat.le_of_lt_succ hj) with h9 | h9
        · exact hk2 j h9 hjl
        · subst h9; assumption, rfl, by simp only [Knows, upd_apply, Nat.reduceEqDiff, ↓reduceIte, and_true, true_and, eq_self] <;> first | exact rfl | exact ⟨rfl, rfl⟩ | exact ⟨rfl, rfl, rfl⟩ | exact ⟨rfl, rfl, rfl, rfl⟩ | exact ⟨rfl, rfl, rfl, rfl, rfl⟩ | exact ⟨rfl, rfl, rfl, rfl, rfl, rfl⟩⟩
  · skip
    have h1' := h1; (try simp only [decide_eq_true_eq, decide_eq_false_iff_not, Bool.not_eq_true', Bool.not_false, Bool.not_true, Bool.not_eq_false'] at h1')
    refine w_exit ?_
    refine k_seq_exit ?_
    refine k_seq_exit ?_
    refine k_blk_here ?_
    refine k_seq_normal ?_
    refine w_seq ?_
    refine w_region ?_
    refine l_cons rfl (p_assign ?_)
    refine l_nil ?_
    refine k_seq_normal ?_
    refine w_ret ?_
    exact ret1 rfl (by simp only [ev_tmp, ev_const, ev_func, ofConst_int, ofConst_bool, ofConst_str, ofConst_nil, upd_apply, Nat.reduceEqDiff, ↓reduceIte] <;> exact rfl) (Sub.refl _) ⟨by rw [firstIdx_no (p := p) (l := l) (fun j hj => hk2 j (by omega) hj)], rfl⟩
end Go.Proofs.YtfdgbghlanbddaaDoor.Av
