import Derived.Test.YtfdgbghlanbddaaDoorAvG5
import Derived.Test.YtfdgbghlanbddaaDoorAvShut
import Derived.Test.YtfdgbghlanbddaaDoorAvBytes
set_option linter.unusedVariables false
set_option linter.unusedSimpArgs false
set_option maxRecDepth 8000
namespace Go.Proofs.YtfdgbghlanbddaaDoor.Av
open Go.RowKit Go.Proofs
def nfA : Nf := ⟨[⟨0, 0, 0, 0, -1, []⟩, ⟨0, 8589934592, 0, 0, 0, []⟩], 1, 0⟩
theorem state_walk {w0 : World} {es : List Ent} {ib sb iS sS : Nat} {rows : List (List AV)} (hb : at_ es ib = some (.row sb 94 1 [[.own iS sS]])) (hS : at_ es iS = some (.row sS 75 6 rows)) (hne : ib ≠ iS) (hr : rows.length ≤ 1000000) :
    ACalls Tryd.prog w0 111 [.ptr ib sb 0 0, .nil] es fun v es' => v = .int .i64 rows.length ∧ ∃ sS', es' = setAt (setAt es iS (.row sS' 75 6 (rows ++ [[AV.int .u64 0, .int .u64 0, .int .u64 0, .int .u64 0, .int .i64 (-1), .nil]]))) ib (.row sb 94 1 [[.own iS sS']]) := by
  refine calls2 (N := 22) Tryd.func111 rfl rfl (by decide) ?_
  refine w_seq ?_
  refine w_region ?_
  refine l_cons rfl (p_assign ?_)
  refine l_nil ?_
  refine k_seq_normal ?_
  refine w_seq ?_
  refine w_region ?_
  refine l_cons rfl (p_move ?_)
  refine l_cons rfl (p_move ?_)
  first | refine l_cons rfl (p_ncp ?_) | refine l_cons rfl (p_ncf ?_)
  refine l_cons rfl (p_fap fa_94_0 ?_)
  refine l_cons rfl (p_loadp ty_34 ?_)
  refine l_cons rfl (p_move ?_)
  refine l_cons rfl (p_build ze_75 pl_75 ?_)
  refine l_cons rfl (p_buildList sl_34 ze_75 ?_)
  refine l_cons rfl (p_append sl_34 by_75 ze_75 (fun s13 => ?_))
  have hb1 := (at_setAt_ne (.row s13 75 6 (rows ++ [[AV.int .u64 0, .int .u64 0, .int .u64 0, .int .u64 0, .int .i64 (-1), .nil]])) hne).trans hb
  have hS1 := at_setAt_same (.row s13 75 6 (rows ++ [[AV.int .u64 0, .int .u64 0, .int .u64 0, .int .u64 0, .int .i64 (-1), .nil]])) hS
  first | refine l_cons rfl (p_ncp ?_) | refine l_cons rfl (p_ncf ?_)
  refine l_cons rfl (p_fap fa_94_0 ?_)
  refine l_cons rfl (p_store ty_34 ?_)
  have hb2 := at_setAt_same (.row sb 94 1 [[.own iS s13]]) hb1
  have hS2 := (at_setAt_ne (.row sb 94 1 [[.own iS s13]]) (Ne.symm hne)).trans hS1
  have hlen : (rows ++ [[AV.int .u64 0, .int .u64 0, .int .u64 0, .int .u64 0, .int .i64 (-1), .nil]]).length = rows.length + 1 := by simp
  refine l_nil ?_
  refine k_seq_normal ?_
  refine w_seq ?_
  refine w_region ?_
  refine l_cons rfl (p_move ?_)
  first | refine l_cons rfl (p_ncp ?_) | refine l_cons rfl (p_ncf ?_)
  refine l_cons rfl (p_fap fa_94_0 ?_)
  refine l_cons rfl (p_loadp ty_34 ?_)
  first | refine l_cons rfl (p_lenl sl_34 ?_) | refine l_cons rfl (p_leno sl_34 ?_) | refine l_cons rfl (p_lenn sl_34 ?_)
  refine l_cons rfl (p_arith ?_)
  refine l_cons rfl (p_assign ?_)
  refine l_nil ?_
  refine k_seq_normal ?_
  refine w_ret ?_
  exact ret1 rfl (by simp only [ev_tmp, ev_const, ev_func, ofConst_int, ofConst_bool, ofConst_str, ofConst_nil, upd_apply, Nat.reduceEqDiff, ↓reduceIte] <;> exact rfl) (Sub.refl _) ⟨by rw [hlen]; congr 1; omega, s13, rfl⟩
theorem state_leaf {w0 : World} {T : List Ent} {x : Ent} {sb sS : Nat} {rows : List (List AV)} (hr : rows.length ≤ 1000000) :
    ACalls Tryd.prog w0 111 [.ptr T.length sb 0 0, .nil] (x :: .row sS 75 6 rows :: .row sb 94 1 [[.own (T.length + 1) sS]] :: T) fun v es' => v = .int .i64 rows.length ∧ ∃ sS', es' = x :: .row sS' 75 6 (rows ++ [[AV.int .u64 0, .int .u64 0, .int .u64 0, .int .u64 0, .int .i64 (-1), .nil]]) :: .row sb 94 1 [[.own (T.length + 1) sS']] :: T := by
  refine (state_walk (iS := T.length + 1) (at_miss _ (at_miss _ (at_hit _ _))) (at_miss _ (at_hit _ _)) (by omega) hr).mono ?_
  rintro _ _ ⟨rfl, s', rfl⟩
  exact ⟨rfl, s', setAt2⟩
theorem part_leaf {w0 : World} {T : List Ent} {sb sS : Nat} :
    ACalls Tryd.prog w0 72 [.ptr T.length sb 0 0, .agg [AV.int .i64 3, .int .u64 0, .int .u64 8589934592, .int .u64 0, .int .u64 0, .nil]] (.row sS 75 6 [] :: .row sb 94 1 [[.own (T.length + 1) sS]] :: T) fun v es' => v = .tup [.int .i64 1, .int .i64 0] ∧ ∃ sS', es' = .row sS' 75 6 [[AV.int .u64 0, .int .u64 0, .int .u64 0, .int .u64 0, .int .i64 (-1), .nil], [AV.int .u64 0, .int .u64 8589934592, .int .u64 0, .int .u64 0, .int .i64 0, .nil]] :: .row sb 94 1 [[.own (T.length + 1) sS']] :: T := by
  refine calls2 (N := 84) Tryd.func72 rfl rfl (by decide) ?_
  refine w_seq ?_
  refine w_region ?_
  refine l_cons rfl (p_box fun s3 => ?_)
  refine l_cons rfl (p_assign ?_)
  refine l_cons rfl (p_assign ?_)
  refine l_nil ?_
  refine k_seq_normal ?_
  refine w_seq ?_
  refine w_seq ?_
  refine w_region ?_
  refine l_cons rfl (p_fap fa_29_0 ?_)
  refine l_cons rfl (p_loadp ty_3 ?_)
  refine l_nil ?_
  refine k_seq_normal ?_
  refine w_block ?_
  refine w_seq ?_
  refine w_region ?_
  refine l_cons rfl (p_cmpl true ?_)
  refine l_cons rfl (p_assign ?_)
  refine l_nil ?_
  refine k_seq_normal ?_
  refine w_t rfl ?_
  refine w_seq ?_
  refine w_region ?_
  refine l_cons rfl (p_move ?_)
  refine l_cons rfl (p_call en_111 ((state_leaf (rows := []) (by simp)).mono ?_))
  rintro _ _ ⟨rfl, sA, rfl⟩
  simp only [List.nil_append]
  refine l_cons rfl (p_assign ?_)
  refine l_nil ?_
  refine k_seq_normal ?_
  refine w_seq ?_
  refine w_region ?_
  refine l_cons rfl (p_move ?_)
  refine l_cons rfl (p_call en_111 ((state_leaf (rows := [[AV.int .u64 0, .int .u64 0, .int .u64 0, .int .u64 0, .int .i64 (-1), .nil]]) (by simp)).mono ?_))
  rintro _ _ ⟨rfl, sB, rfl⟩
  simp only [List.cons_append, List.nil_append]
  refine l_cons rfl (p_assign ?_)
  refine l_nil ?_
  refine k_seq_normal ?_
  refine w_seq ?_
  refine w_drawn 16 [15] (fun e => ∃ rws, rws.length = 2 ∧ e = .row s3 29 6 [[AV.int .i64 3, .int .u64 0, .int .u64 8589934592, .int .u64 0, .int .u64 0, .nil]] :: .row sB 75 6 rws :: .row sb 94 1 [[.own (T.length + 1) sB]] :: T) mixed (by kernel_rfl) ⟨_, rfl, rfl⟩ ?_
  refine q1 0 (hg := rfl) (hu := rfl) (h := by rintro f _ ⟨rws, hl, rfl⟩; exact p_move ⟨rfl, rfl⟩) (k := ?_)
  first | refine q1 16 (hg := rfl) (hu := rfl) (h := by rintro f _ ⟨rws, hl, rfl⟩; exact p_ncp ⟨rfl, rfl⟩) (k := ?_) | refine q1 16 (hg := rfl) (hu := rfl) (h := by rintro f _ ⟨rws, hl, rfl⟩; exact p_ncf ⟨rfl, rfl⟩) (k := ?_)
  refine q1 17 (hg := rfl) (hu := rfl) (h := by rintro f _ ⟨rws, hl, rfl⟩; exact p_fap fa_94_0 ⟨rfl, rfl⟩) (k := ?_)
  refine q1 18 (hg := rfl) (hu := rfl) (h := by rintro f _ ⟨rws, hl, rfl⟩; exact p_loadp ty_34 ⟨rfl, rfl⟩) (k := ?_)
  refine q1 4 (hg := rfl) (hu := rfl) (h := by rintro f _ ⟨rws, hl, rfl⟩; exact p_move ⟨rfl, rfl⟩) (k := ?_)
  refine q1 0 (hg := rfl) (hu := rfl) (h := by rintro f _ ⟨rws, hl, rfl⟩; exact p_move ⟨rfl, rfl⟩) (k := ?_)
  first | refine q1 21 (hg := rfl) (hu := rfl) (h := by rintro f _ ⟨rws, hl, rfl⟩; exact p_ncp ⟨rfl, rfl⟩) (k := ?_) | refine q1 21 (hg := rfl) (hu := rfl) (h := by rintro f _ ⟨rws, hl, rfl⟩; exact p_ncf ⟨rfl, rfl⟩) (k := ?_)
  refine q1 22 (hg := rfl) (hu := rfl) (h := by rintro f _ ⟨rws, hl, rfl⟩; exact p_fap fa_94_0 ⟨rfl, rfl⟩) (k := ?_)
  refine q1 23 (hg := rfl) (hu := rfl) (h := by rintro f _ ⟨rws, hl, rfl⟩; exact p_loadp ty_34 ⟨rfl, rfl⟩) (k := ?_)
  refine q1 4 (hg := rfl) (hu := rfl) (h := by rintro f _ ⟨rws, hl, rfl⟩; exact p_move ⟨rfl, rfl⟩) (k := ?_)
  refine q1 3 (hg := rfl) (hu := rfl) (h := by rintro f _ ⟨rws, hl, rfl⟩; exact p_fap fa_29_1 ⟨rfl, rfl⟩) (k := ?_)
  refine q1 26 (hg := rfl) (hu := rfl) (h := by rintro f _ ⟨rws, hl, rfl⟩; exact p_loadp ty_26 ⟨rfl, rfl⟩) (k := ?_)
  refine q1 5 (hg := rfl) (hu := rfl) (h := by rintro f _ ⟨rws, hl, rfl⟩; exact p_move ⟨rfl, rfl⟩) (k := ?_)
  first | refine q2 19 20 (hg := rfl) (hu := rfl) (h := by rintro f _ ⟨rws, hl, rfl⟩; exact p_ixl sl_34 ⟨rfl, rfl⟩) (k := ?_) | refine q2 19 20 (hg := rfl) (hu := rfl) (h := by rintro f _ ⟨rws, hl, rfl⟩; exact p_ixo sl_34 ⟨rfl, rfl⟩) (k := ?_)
  first | refine q1 29 (hg := rfl) (hu := rfl) (h := by rintro f _ ⟨rws, hl, rfl⟩; exact p_fap fa_75_0 ⟨rfl, rfl⟩) (k := ?_) | refine q1 29 (hg := rfl) (hu := rfl) (h := by rintro f _ ⟨rws, hl, rfl⟩; exact p_faf fa_75_0 ⟨rfl, rfl⟩) (k := ?_)
  refine q_end ?_
  refine ms2 30 27 (hu := rfl) (h := fun f => p_store ty_26 ?_)
  refine ⟨rfl, ⟨_, rfl, rfl⟩, ?_⟩
  refine m_end ?_
  first | refine l_cons rfl (p_ixl sl_34 ?_) | refine l_cons rfl (p_ixo sl_34 ?_)
  first | refine l_cons rfl (p_fap fa_75_1 ?_) | refine l_cons rfl (p_faf fa_75_1 ?_)
  refine l_cons rfl (p_store ty_3 ?_)
  refine l_nil ?_
  refine k_seq_normal ?_
  refine w_seq ?_
  refine w_region ?_
  refine l_cons rfl (p_move ?_)
  refine l_cons rfl (p_move ?_)
  refine l_cons rfl (p_assign ?_)
  refine l_cons rfl (p_assign ?_)
  refine l_nil ?_
  refine k_seq_normal ?_
  refine w_ret ?_
  refine k_blk_ret ?_
  refine k_seq_ret ?_
  exact ret2 rfl (by simp only [ev_tmp, ev_const, ev_func, ofConst_int, ofConst_bool, ofConst_str, ofConst_nil, upd_apply, Nat.reduceEqDiff, ↓reduceIte] <;> exact rfl) (by simp only [ev_tmp, ev_const, ev_func, ofConst_int, ofConst_bool, ofConst_str, ofConst_nil, upd_apply, Nat.reduceEqDiff, ↓reduceIte] <;> exact rfl) (sub1 _ _) ⟨rfl, sB, rfl⟩
theorem build_leaf {w0 : World} {es : List Ent} : ACalls Tryd.prog w0 27 [.agg [AV.int .i64 3, .int .u64 0, .int .u64 8589934592, .int .u64 0, .int .u64 0, .nil]] es fun v es' => v = .tup [nfA.av, .int .i64 0] ∧ es' = es := by
  refine calls1 (N := 29) Tryd.func27 rfl rfl (by decide) ?_
  refine w_seq ?_
  refine w_region ?_
  refine l_cons rfl (p_box fun s1 => ?_)
  refine l_cons rfl (p_alloc ze_36 fun s2 => ?_)
  refine l_cons rfl (p_assign ?_)
  refine l_nil ?_
  refine k_seq_normal ?_
  refine w_seq ?_
  refine w_seq ?_
  refine w_region ?_
  refine l_cons rfl (p_loadp ty_29 ?_)
  refine l_cons rfl (p_callr en_71 (rxMay_leaf) ?_)
  refine l_cons rfl (p_assign ?_)
  refine l_nil ?_
  refine k_seq_normal ?_
  refine w_seq ?_
  refine w_region ?_
  refine l_cons rfl (p_move ?_)
  refine l_cons rfl (p_cmpl false ?_)
  refine l_nil ?_
  refine k_seq_normal ?_
  refine w_f rfl ?_
  refine w_skip ?_
  refine k_seq_normal ?_
  refine w_seq ?_
  refine w_region ?_
  refine l_cons rfl (p_build ze_94 pl_94 ?_)
  refine l_cons rfl (p_box fun s15 => ?_)
  refine l_cons rfl (p_assign ?_)
  refine l_nil ?_
  refine k_seq_normal ?_
  refine w_seq ?_
  refine w_adoptVar 75 6 fun sA => ?_
  refine w_region ?_
  refine l_cons rfl (p_move ?_)
  refine l_cons rfl (p_loadp ty_29 ?_)
  refine l_cons rfl (p_call en_72 (part_leaf.mono ?_))
  rintro _ _ ⟨rfl, sB, rfl⟩
  refine l_cons rfl (p_move ?_)
  refine l_cons rfl (p_extract ?_)
  refine l_cons rfl (p_extract ?_)
  refine l_cons rfl (p_assign ?_)
  refine l_cons rfl (p_assign ?_)
  refine l_nil ?_
  refine k_seq_normal ?_
  refine w_seq ?_
  refine w_region ?_
  refine l_cons rfl (p_move ?_)
  first | refine l_cons rfl (p_ncp ?_) | refine l_cons rfl (p_ncf ?_)
  refine l_cons rfl (p_fap fa_94_0 ?_)
  refine l_cons rfl (p_loadp ty_34 ?_)
  refine l_freeze 25 rfl loc_hit rfl ?_
  refine l_retell 25 (fun c m v h => rep_list_nilTo 1 h) ?_
  refine l_cons rfl (p_move ?_)
  refine l_cons rfl (p_move ?_)
  refine l_cons rfl (p_build ze_36 pl_36 ?_)
  refine l_cons rfl (p_store ty_36 ?_)
  refine l_cons rfl (p_assign ?_)
  refine l_nil ?_
  refine k_seq_normal ?_
  refine w_ret ?_
  exact retct rfl ty_36 (by first | exact sub4 _ _ _ _ _ | exact sub3 _ _ _ _ | exact sub5 _ _ _ _ _ _) ⟨rfl, rfl⟩
end Go.Proofs.YtfdgbghlanbddaaDoor.Av
