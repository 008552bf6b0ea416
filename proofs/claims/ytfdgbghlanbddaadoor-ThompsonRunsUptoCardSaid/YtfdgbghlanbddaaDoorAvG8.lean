import Derived.Test.YtfdgbghlanbddaaDoorAvLone
set_option linter.unusedVariables false
set_option linter.unusedSimpArgs false
set_option maxRecDepth 8000
namespace Go.Proofs.YtfdgbghlanbddaaDoor.Av
open Go.RowKit Go.Proofs
theorem begun_walk {w0 : World} {es : List Ent} : ACalls Tryd.prog w0 23 [] es fun v es' => v = .bool true ∧ es' = es := by
  refine calls0 (N := 37) Tryd.func23 rfl rfl ?_
  refine w_seq ?_
  refine w_region ?_
  refine l_cons rfl (p_assign ?_)
  refine l_nil ?_
  refine k_seq_normal ?_
  refine w_seq ?_
  refine w_region ?_
  refine l_cons rfl (p_buildSlice sl_22 ze_5 fun s4 => ?_)
  refine l_cons rfl (p_convBytes sl_22 in_5 ?_)
  refine l_cons rfl (p_callr en_68 (of_a) ?_)
  refine l_cons rfl (p_callr en_67 (bytes_a) ?_)
  refine l_cons rfl (p_callr en_27 (build_leaf) ?_)
  refine l_cons rfl (p_move ?_)
  refine l_cons rfl (p_extract ?_)
  refine l_cons rfl (p_extract ?_)
  refine l_cons rfl (p_alloc ze_36 fun s1 => ?_)
  refine l_cons rfl (p_store ty_36 ?_)
  refine l_cons rfl (p_assign ?_)
  refine l_nil ?_
  refine k_seq_normal ?_
  refine w_seq ?_
  refine w_region ?_
  refine l_cons rfl (p_move ?_)
  refine l_cons rfl (p_cmpl true ?_)
  refine l_cons rfl (p_move ?_)
  refine g_y rfl rfl (p_loadp ty_36 ?_)
  refine g_y rfl rfl (p_callr en_30 (may_a) ?_)
  refine l_cons rfl (p_pickt rfl ?_)
  refine l_cons rfl (p_move ?_)
  refine g_y rfl rfl (p_loadp ty_36 ?_)
  refine g_y rfl rfl (p_buildSlice sl_22 ze_5 fun s19 => ?_)
  refine g_y rfl rfl (p_convBytes sl_22 in_5 ?_)
  refine g_y rfl rfl (p_callr en_31 (run_a) ?_)
  refine l_cons rfl (p_pickt rfl ?_)
  refine l_cons rfl (p_move ?_)
  refine g_y rfl rfl (p_loadp ty_36 ?_)
  refine g_y rfl rfl (p_callr en_31 (run_an) ?_)
  refine g_y rfl rfl (p_not ?_)
  refine l_cons rfl (p_pickt rfl ?_)
  refine l_cons rfl (p_move ?_)
  refine g_y rfl rfl (p_loadp ty_36 ?_)
  refine g_y rfl rfl (p_fap fa_36_1 ?_)
  refine g_y rfl rfl (p_loadp ty_3 ?_)
  refine g_y rfl rfl (p_buildList sl_48 ze_3 ?_)
  refine g_y rfl rfl (p_callr en_37 (close_a) ?_)
  first | refine g_y rfl rfl (p_lenl sl_48 ?_) | refine g_y rfl rfl (p_leno sl_48 ?_) | refine g_y rfl rfl (p_lenn sl_48 ?_)
  refine g_y rfl rfl (p_cmpl true ?_)
  refine l_cons rfl (p_pickt rfl ?_)
  refine l_cons rfl (p_assign ?_)
  refine l_nil ?_
  refine k_seq_normal ?_
  refine w_ret ?_
  exact ret1 rfl (by simp only [ev_tmp, ev_const, ev_func, ofConst_int, ofConst_bool, ofConst_str, ofConst_nil, upd_apply, Nat.reduceEqDiff, ↓reduceIte] <;> exact rfl) (by first | exact Sub.refl _ | exact sub1 _ _ | exact sub2 _ _ _ | exact sub3 _ _ _ _ | exact sub4 _ _ _ _ _ | exact sub5 _ _ _ _ _ _) ⟨rfl, rfl⟩
end Go.Proofs.YtfdgbghlanbddaaDoor.Av
