import Derived.Test.YtfdgbghlanbddaaDoorAvK0
import Derived.Test.YtfdgbghlanbddaaDoorAvK1
import Derived.Test.YtfdgbghlanbddaaDoorAvK2
import Derived.Test.YtfdgbghlanbddaaDoorAvK3
set_option linter.unusedVariables false
set_option linter.unusedSimpArgs false
set_option maxRecDepth 8000
namespace Go.Proofs.YtfdgbghlanbddaaDoor.Av
open Go.RowKit Go.Proofs
theorem Rx.fit_eq (r : Rx) : r.fit ↔ okArgs r.kind r.args ∧ Rx.fitL r.args := by cases r; simp only [Rx.fit, Rx.kind, Rx.args]
theorem bPart_eq (r : Rx) (ns : List St) : bPart r ns = if r.kind = 3 then (ns ++ [st0, ⟨r.set.w0, r.set.w1, r.set.w2, r.set.w3, (ns.length : Int), []⟩], ns.length + 1, ns.length)
  else if r.kind = 4 then bCat r.args ns
  else if r.kind = 5 then bAltGo r.args (ns ++ [st0]) none ns.length
  else if r.kind = 6 then bStar r.args ns
  else if r.kind = 2 then (bFree (ns ++ [st0, st0]) ns.length (ns.length + 1), ns.length, ns.length + 1)
  else (ns ++ [st0, st0], ns.length, ns.length + 1) := by
 cases r
 rw [bPart]
 rfl
theorem bStar_eq {l : List Rx} {ns : List St} (h : 0 < l.length) : bStar l ns = (bFree (bFree (bFree (bPart l[0] (ns ++ [st0, st0])).1 ns.length (bPart l[0] (ns ++ [st0, st0])).2.1) (bPart l[0] (ns ++ [st0, st0])).2.2 ns.length) ns.length (ns.length + 1), ns.length, ns.length + 1) := by
 match l, h with
 | a :: t, _ => rw [bStar]; rfl
theorem set_two {ns : List St} {a b : St} : ((ns ++ [st0, st0]).set (ns.length + 1) a).set (ns.length + 1) b = ns ++ [st0, b] := by
 rw [List.set_set, List.set_append_right _ _ (by omega)]
 simp
theorem part_gen {w0 : World} : ∀ B : Nat, PartOk w0 B := by
 intro B
 induction B using Nat.strongRecOn with
 | _ B ih => ?_
 intro r es ib sb F ns hB hfit hbf hw
 rw [Rx.cells_eq r]
 have hne := r.nodes_eq
 have hnp := r.nodes_pos
 have hft := r.fit_eq.1 hfit
 have hwl := wt_len ns
 obtain ⟨ih, hB⟩ : PartOk w0 (B - 1) ∧ 1 ≤ B := ⟨ih (B - 1) (by omega), by omega⟩
 refine calls2 (N := 84) Tryd.func72 rfl rfl (by decide) ?_
 refine w_seq ?_
 refine w_region ?_
 refine l_cons rfl (p_box fun s3 => ?_)
 refine l_cons rfl (p_assign ?_)
 refine l_cons rfl (p_assign ?_)
 refine l_nil ?_
 refine k_seq_normal ?_
 refine w_seq ?_
 refine w_seq ?_
 refine w_region ?_
 refine l_cons rfl (p_fap fa_29_0 ?_)
 refine l_cons rfl (p_loadp ty_3 ?_)
 refine l_nil ?_
 refine k_seq_normal ?_
 refine w_block ?_
 refine w_seq ?_
 refine w_region ?_
 refine l_cons rfl (p_cmp ?_)
 refine l_cons rfl (p_assign ?_)
 refine l_nil ?_
 refine k_seq_normal ?_
 refine w_b (fun h1 => ?_) (fun h1 => ?_)
 ·skip
  have h1' := h1; (try simp only [decide_eq_true_eq, decide_eq_false_iff_not, Bool.not_eq_true', Bool.not_false, Bool.not_true, Bool.not_eq_false'] at h1')
  refine w_seq ?_
  refine w_region ?_
  refine l_cons rfl (p_move ?_)
  refine l_cons rfl (p_call en_111 ((state_nil (hbf.push _) (by omega)).mono ?_))
  rintro _ es1 ⟨rfl, F1, hg1⟩
  refine l_cons rfl (p_assign ?_)
  refine l_nil ?_
  refine k_seq_normal ?_
  refine w_seq ?_
  refine w_region ?_
  refine l_cons rfl (p_move ?_)
  refine l_cons rfl (p_call en_111 ((state_nil hg1.bf (by rw [wt_append, wt_st0]; omega)).mono ?_))
  rintro _ es2 ⟨rfl, F2, hg2⟩
  rw [show ((ns ++ [st0]).length : Int) = ((ns.length + 1 : Nat) : Int) by simp]
  rw [show ns ++ [st0] ++ [st0] = ns ++ [st0, st0] by simp] at hg2
  have hg := hg1.trans hg2
  have hwt2 : wt (ns ++ [st0, st0]) = wt ns + 2 := by rw [wt_append, wt_st00]
  refine l_cons rfl (p_assign ?_)
  refine l_nil ?_
  refine k_seq_normal ?_
  refine w_seq ?_
  obtain ⟨hbox, hnot⟩ := BG.top hbf hg
  obtain ⟨iS, sS, ms, hbi, rfl⟩ := hg.bf
  obtain ⟨hne1, hd1, _⟩ := nodup_ne hbi.nd
  have hib2 := hbi.b
  have hiS2 := hbi.s
  have hneS : es.length ≠ iS := fun e => hnot (by simp [ids, e])
  have hkl : ns.length + 1 < (ns ++ [st0, st0]).length := by simp
  have hkm : ns.length + 1 < ms.length := by rw [hbi.len]; exact hkl
  have hst : (ns ++ [st0, st0])[ns.length + 1] = st0 := by simp
  have hrow : (bRows (ns ++ [st0, st0]) ms)[ns.length + 1]? = some (bRow st0 (ms[ns.length + 1]'hkm)) := by rw [bRows_at hbi.len hkl, hst]
  have hbi3 := bi_set hbi hkl ⟨r.set.w0, r.set.w1, r.set.w2, r.set.w3, -1, []⟩ (by rw [hst]; rfl)
  have hkl3 : ns.length + 1 < ((ns ++ [st0, st0]).set (ns.length + 1) ⟨r.set.w0, r.set.w1, r.set.w2, r.set.w3, -1, []⟩).length := by simp
  have hst3 : ((ns ++ [st0, st0]).set (ns.length + 1) ⟨r.set.w0, r.set.w1, r.set.w2, r.set.w3, -1, []⟩)[ns.length + 1] = ⟨r.set.w0, r.set.w1, r.set.w2, r.set.w3, -1, []⟩ := by simp
  have hrow3 : (bRows ((ns ++ [st0, st0]).set (ns.length + 1) ⟨r.set.w0, r.set.w1, r.set.w2, r.set.w3, -1, []⟩) ms)[ns.length + 1]? = some (bRow ⟨r.set.w0, r.set.w1, r.set.w2, r.set.w3, -1, []⟩ (ms[ns.length + 1]'hkm)) := by rw [bRows_at hbi3.len hkl3, hst3]
  have hbg4 := bg_set hbi3 hkl3 ⟨r.set.w0, r.set.w1, r.set.w2, r.set.w3, (ns.length : Int), []⟩ (by rw [hst3])
  have hr2 : (bRows (ns ++ [st0, st0]) ms).length = ns.length + 2 := by rw [bRows_len hbi.len]; simp
  have hr3 : (bRows ((ns ++ [st0, st0]).set (ns.length + 1) ⟨r.set.w0, r.set.w1, r.set.w2, r.set.w3, -1, []⟩) ms).length = ns.length + 2 := by rw [bRows_len hbi3.len]; simp
  have hbox3 := (at_setAt_ne (.row sS 75 6 ((bRows (ns ++ [st0, st0]) ms).set (ns.length + 1) (bRow ⟨r.set.w0, r.set.w1, r.set.w2, r.set.w3, -1, []⟩ (ms[ns.length + 1]'hkm)))) hneS).trans hbox
  refine w_drawn 16 [15] (fun e => at_ e es.length = some (.row s3 29 6 [[.int .i64 r.kind, .int .u64 r.set.w0, .int .u64 r.set.w1, .int .u64 r.set.w2, .int .u64 r.set.w3, .list 6 (r.args.map Rx.cells)]]) ∧ at_ e ib = some (.row sb 94 1 [[.own iS sS]]) ∧ ∃ rws, rws.length = ns.length + 2 ∧ at_ e iS = some (.row sS 75 6 rws)) mixed (by kernel_rfl) ⟨hbox, hbi.b, _, hr2, hbi.s⟩ ?_
  refine q1 0 (hg := rfl) (hu := rfl) (h := by rintro f _ ⟨hG1, hG2, rws, hGl, hG3⟩; exact p_move ⟨rfl, rfl⟩) (k := ?_)
  first | refine q1 16 (hg := rfl) (hu := rfl) (h := by rintro f _ ⟨hG1, hG2, rws, hGl, hG3⟩; exact p_ncp ⟨rfl, rfl⟩) (k := ?_) | refine q1 16 (hg := rfl) (hu := rfl) (h := by rintro f _ ⟨hG1, hG2, rws, hGl, hG3⟩; exact p_ncf ⟨rfl, rfl⟩) (k := ?_)
  refine q1 17 (hg := rfl) (hu := rfl) (h := by rintro f _ ⟨hG1, hG2, rws, hGl, hG3⟩; exact p_fap fa_94_0 ⟨rfl, rfl⟩) (k := ?_)
  refine q1 18 (hg := rfl) (hu := rfl) (h := by rintro f _ ⟨hG1, hG2, rws, hGl, hG3⟩; exact p_loadp ty_34 (a := .own iS sS) ⟨rfl, rfl⟩) (k := ?_)
  refine q1 4 (hg := rfl) (hu := rfl) (h := by rintro f _ ⟨hG1, hG2, rws, hGl, hG3⟩; exact p_move ⟨rfl, rfl⟩) (k := ?_)
  refine q1 0 (hg := rfl) (hu := rfl) (h := by rintro f _ ⟨hG1, hG2, rws, hGl, hG3⟩; exact p_move ⟨rfl, rfl⟩) (k := ?_)
  first | refine q1 21 (hg := rfl) (hu := rfl) (h := by rintro f _ ⟨hG1, hG2, rws, hGl, hG3⟩; exact p_ncp ⟨rfl, rfl⟩) (k := ?_) | refine q1 21 (hg := rfl) (hu := rfl) (h := by rintro f _ ⟨hG1, hG2, rws, hGl, hG3⟩; exact p_ncf ⟨rfl, rfl⟩) (k := ?_)
  refine q1 22 (hg := rfl) (hu := rfl) (h := by rintro f _ ⟨hG1, hG2, rws, hGl, hG3⟩; exact p_fap fa_94_0 ⟨rfl, rfl⟩) (k := ?_)
  refine q1 23 (hg := rfl) (hu := rfl) (h := by rintro f _ ⟨hG1, hG2, rws, hGl, hG3⟩; exact p_loadp ty_34 (a := .own iS sS) ⟨rfl, rfl⟩) (k := ?_)
  refine q1 4 (hg := rfl) (hu := rfl) (h := by rintro f _ ⟨hG1, hG2, rws, hGl, hG3⟩; exact p_move ⟨rfl, rfl⟩) (k := ?_)
  refine q1 3 (hg := rfl) (hu := rfl) (h := by rintro f _ ⟨hG1, hG2, rws, hGl, hG3⟩; exact p_fap fa_29_1 ⟨rfl, rfl⟩) (k := ?_)
  refine q1 26 (hg := rfl) (hu := rfl) (h := by rintro f _ ⟨hG1, hG2, rws, hGl, hG3⟩; exact p_loadp ty_26 ⟨rfl, rfl⟩) (k := ?_)
  refine q1 5 (hg := rfl) (hu := rfl) (h := by rintro f _ ⟨hG1, hG2, rws, hGl, hG3⟩; exact p_move ⟨rfl, rfl⟩) (k := ?_)
  refine q2 19 20 (hg := rfl) (hu := rfl) (h := by rintro f _ ⟨hG1, hG2, rws, hGl, hG3⟩; exact p_ixo sl_34 ⟨rfl, rfl⟩) (k := ?_)
  refine q1 29 (hg := rfl) (hu := rfl) (h := by rintro f _ ⟨hG1, hG2, rws, hGl, hG3⟩; exact p_fap fa_75_0 ⟨rfl, rfl⟩) (k := ?_)
  refine q_end ?_
  refine ms2 30 27 (hu := rfl) (h := fun f => p_store ty_26 (r' := bRow ⟨r.set.w0, r.set.w1, r.set.w2, r.set.w3, -1, []⟩ (ms[ns.length + 1]'hkm)) ?_ (hr := hrow) (hl := Nat.le_of_ble_eq_true rfl) (hr' := rfl))
  have hb3' := hbi3.b
  have hS3 := hbi3.s
  refine ⟨rfl, ⟨hbox3, hb3', _, hr3, hS3⟩, ?_⟩
  refine m_end ?_
  refine l_cons rfl (p_ixo sl_34 ?_)
  refine l_cons rfl (p_fap fa_75_1 ?_)
  refine l_cons rfl (p_store ty_3 (r' := bRow ⟨r.set.w0, r.set.w1, r.set.w2, r.set.w3, (ns.length : Int), []⟩ (ms[ns.length + 1]'hkm)) ?_ (hr := hrow3) (hl := Nat.le_of_ble_eq_true rfl) (hr' := rfl))
  refine l_nil ?_
  refine k_seq_normal ?_
  refine w_seq ?_
  refine w_region ?_
  refine l_cons rfl (p_move ?_)
  refine l_cons rfl (p_move ?_)
  refine l_cons rfl (p_assign ?_)
  refine l_cons rfl (p_assign ?_)
  refine l_nil ?_
  refine k_seq_normal ?_
  refine w_ret ?_
  refine k_blk_ret ?_
  refine k_seq_ret ?_
  rw [bPart_eq r ns, if_pos (by omega)]
  exact ret2 rfl (by simp only [ev_tmp, ev_const, ev_func, ofConst_int, ofConst_bool, ofConst_str, ofConst_nil, upd_apply, Nat.reduceEqDiff, ↓reduceIte] <;> exact rfl) (by simp only [ev_tmp, ev_const, ev_func, ofConst_int, ofConst_bool, ofConst_str, ofConst_nil, upd_apply, Nat.reduceEqDiff, ↓reduceIte] <;> exact rfl) (Sub.refl _) ⟨rfl, _, by have hx := ((hg.trans (bg_set hbi hkl _ (by rw [hst]; rfl))).trans hbg4).pop; rw [set_two] at hx; exact hx⟩
 ·skip
  have h1' := h1; (try simp only [decide_eq_true_eq, decide_eq_false_iff_not, Bool.not_eq_true', Bool.not_false, Bool.not_true, Bool.not_eq_false'] at h1')
  refine w_seq ?_
  refine w_region ?_
  refine l_cons rfl (p_cmp ?_)
  refine l_cons rfl (p_assign ?_)
  refine l_nil ?_
  refine k_seq_normal ?_
  refine w_b (fun h2 => ?_) (fun h2 => ?_)
  ·skip
   have h2' := h2; (try simp only [decide_eq_true_eq, decide_eq_false_iff_not, Bool.not_eq_true', Bool.not_false, Bool.not_true, Bool.not_eq_false'] at h2')
   refine w_seq ?_
   refine w_region ?_
   refine l_cons rfl (p_move ?_)
   refine l_cons rfl (p_fap fa_29_2 ?_)
   refine l_cons rfl (p_loadp ty_27 ?_)
   refine l_cons rfl (p_call en_112 ((cat_gen ih r.args (by omega) hft.2 (hft.1.1 (by omega)) (hbf.push _) (by omega)).mono ?_))
   rintro _ es1 ⟨rfl, F1, hg⟩
   refine l_cons rfl (p_extract ?_ (hl := Nat.le_of_ble_eq_true rfl))
   refine l_cons rfl (p_extract ?_ (hl := Nat.le_of_ble_eq_true rfl))
   refine l_cons rfl (p_assign ?_)
   refine l_cons rfl (p_assign ?_)
   refine l_nil ?_
   refine k_seq_normal ?_
   refine w_ret ?_
   refine k_blk_ret ?_
   refine k_seq_ret ?_
   rw [bPart_eq r ns, if_neg (by omega), if_pos (by omega)]
   exact ret2 rfl (by simp only [ev_tmp, ev_const, ev_func, ofConst_int, ofConst_bool, ofConst_str, ofConst_nil, upd_apply, Nat.reduceEqDiff, ↓reduceIte] <;> exact rfl) (by simp only [ev_tmp, ev_const, ev_func, ofConst_int, ofConst_bool, ofConst_str, ofConst_nil, upd_apply, Nat.reduceEqDiff, ↓reduceIte] <;> exact rfl) (Sub.refl _) ⟨rfl, _, hg.pop⟩
  ·skip
   have h2' := h2; (try simp only [decide_eq_true_eq, decide_eq_false_iff_not, Bool.not_eq_true', Bool.not_false, Bool.not_true, Bool.not_eq_false'] at h2')
   refine w_seq ?_
   refine w_region ?_
   refine l_cons rfl (p_cmp ?_)
   refine l_cons rfl (p_assign ?_)
   refine l_nil ?_
   refine k_seq_normal ?_
   refine w_b (fun h3 => ?_) (fun h3 => ?_)
   ·skip
    have h3' := h3; (try simp only [decide_eq_true_eq, decide_eq_false_iff_not, Bool.not_eq_true', Bool.not_false, Bool.not_true, Bool.not_eq_false'] at h3')
    refine w_seq ?_
    refine w_region ?_
    refine l_cons rfl (p_move ?_)
    refine l_cons rfl (p_fap fa_29_2 ?_)
    refine l_cons rfl (p_loadp ty_27 ?_)
    refine l_cons rfl (p_call en_113 ((alt_gen ih r.args (by omega) hft.2 (hbf.push _) (by omega)).mono ?_))
    rintro _ es1 ⟨rfl, F1, hg⟩
    refine l_cons rfl (p_extract ?_ (hl := Nat.le_of_ble_eq_true rfl))
    refine l_cons rfl (p_extract ?_ (hl := Nat.le_of_ble_eq_true rfl))
    refine l_cons rfl (p_assign ?_)
    refine l_cons rfl (p_assign ?_)
    refine l_nil ?_
    refine k_seq_normal ?_
    refine w_ret ?_
    refine k_blk_ret ?_
    refine k_seq_ret ?_
    rw [bPart_eq r ns, if_neg (by omega), if_neg (by omega), if_pos (by omega)]
    exact ret2 rfl (by simp only [ev_tmp, ev_const, ev_func, ofConst_int, ofConst_bool, ofConst_str, ofConst_nil, upd_apply, Nat.reduceEqDiff, ↓reduceIte] <;> exact rfl) (by simp only [ev_tmp, ev_const, ev_func, ofConst_int, ofConst_bool, ofConst_str, ofConst_nil, upd_apply, Nat.reduceEqDiff, ↓reduceIte] <;> exact rfl) (Sub.refl _) ⟨rfl, _, hg.pop⟩
   ·skip
    have h3' := h3; (try simp only [decide_eq_true_eq, decide_eq_false_iff_not, Bool.not_eq_true', Bool.not_false, Bool.not_true, Bool.not_eq_false'] at h3')
    refine w_skip ?_
    refine k_blk_normal ?_
    refine k_seq_normal ?_
    refine w_seq ?_
    refine w_region ?_
    refine l_cons rfl (p_move ?_)
    refine l_cons rfl (p_call en_111 ((state_nil (hbf.push _) (by omega)).mono ?_))
    rintro _ es1 ⟨rfl, F1, hg1⟩
    refine l_cons rfl (p_move ?_)
    refine l_cons rfl (p_call en_111 ((state_nil hg1.bf (by rw [wt_append, wt_st0]; omega)).mono ?_))
    rintro _ es2 ⟨rfl, F2, hg2⟩
    rw [show ((ns ++ [st0]).length : Int) = ((ns.length + 1 : Nat) : Int) by simp]
    rw [show ns ++ [st0] ++ [st0] = ns ++ [st0, st0] by simp] at hg2
    have hg := hg1.trans hg2
    have hwt2 : wt (ns ++ [st0, st0]) = wt ns + 2 := by rw [wt_append, wt_st00]
    obtain ⟨hbox, _⟩ := BG.top hbf hg
    refine l_cons rfl (p_assign ?_)
    refine l_cons rfl (p_assign ?_)
    refine l_nil ?_
    refine k_seq_normal ?_
    refine w_seq ?_
    refine w_seq ?_
    refine w_region ?_
    refine l_cons rfl (p_fap fa_29_0 ?_)
    refine l_cons rfl (p_loadp ty_3 ?_)
    refine l_nil ?_
    refine k_seq_normal ?_
    refine w_block ?_
    refine w_seq ?_
    refine w_block ?_
    refine w_seq ?_
    refine w_block ?_
    refine w_seq ?_
    refine w_seq ?_
    refine w_seq ?_
    refine w_region ?_
    refine l_cons rfl (p_cmp ?_)
    refine l_cons rfl (p_assign ?_)
    refine l_nil ?_
    refine k_seq_normal ?_
    refine w_b (fun h4 => ?_) (fun h4 => ?_)
    ·skip
     have h4' := h4; (try simp only [decide_eq_true_eq, decide_eq_false_iff_not, Bool.not_eq_true', Bool.not_false, Bool.not_true, Bool.not_eq_false'] at h4')
     refine w_exit ?_
     refine k_seq_exit ?_
     refine k_seq_exit ?_
     refine k_blk_here ?_
     refine k_seq_normal ?_
     refine w_seq ?_
     have hpos : 0 < r.args.length := List.length_pos_iff.2 (hft.1.2.2 (by omega))
     have hf0 := (Rx.fitL_iff _).1 hft.2 (r.args[0]'hpos) (List.getElem_mem _)
     have hn0 := r.nodes_arg hpos
     have hn1 := (r.args[0]'hpos).nodes_pos
     refine w_region ?_
     refine l_cons rfl (p_move ?_)
     refine l_cons rfl (p_fap fa_29_2 ?_)
     refine l_cons rfl (p_loadp ty_27 ?_)
     refine l_cons rfl (p_ixl sl_27 (a := .fptr 6 (r.args.map Rx.cells) 0 0) ?_ (h1 := by simp only [List.length_map]; omega))
     refine l_cons rfl (p_loadf ty_29 (a := .agg (r.args[0]'hpos).cells) ?_ (hr := rxrow_at (l := r.args) (k := 0) hpos) (hl := Nat.le_refl 6) (ha := rfl))
     refine l_cons rfl (p_call en_72 ((ih (r.args[0]'hpos) _ ib sb _ (ns ++ [st0, st0]) (by omega) hf0 hg.bf (by omega)).mono ?_))
     rintro _ es3 ⟨rfl, F3, hg3⟩
     replace hg := hg.trans hg3
     have hbk := built_part (r.args[0]'hpos) (ns ++ [st0, st0]) hf0
     have hb1 := hbk.len
     simp only [List.length_append, List.length_cons, List.length_nil] at hb1
     have hb2 := hbk.f
     have hb3 := hbk.t
     have hb4 := hbk.wt
     refine l_cons rfl (p_move ?_)
     refine l_cons rfl (p_extract ?_ (hl := Nat.le_of_ble_eq_true rfl))
     refine l_cons rfl (p_extract ?_ (hl := Nat.le_of_ble_eq_true rfl))
     refine l_cons rfl (p_assign ?_)
     refine l_cons rfl (p_assign ?_)
     refine l_nil ?_
     refine k_seq_normal ?_
     refine w_seq ?_
     refine w_region ?_
     refine l_cons rfl (p_move ?_)
     refine l_cons rfl (p_move ?_)
     refine l_cons rfl (p_move ?_)
     refine l_cons rfl (p_call en_114 ((free_gen ns.length (bPart (r.args[0]'hpos) (ns ++ [st0, st0])).2.1 hg.bf (by omega) (by omega)).mono ?_))
     rintro _ es4 ⟨rfl, F4, hg4⟩
     replace hg := hg.trans hg4
     have hw4 := wt_free (bPart (r.args[0]'hpos) (ns ++ [st0, st0])).1 ns.length (bPart (r.args[0]'hpos) (ns ++ [st0, st0])).2.1
     refine l_nil ?_
     refine k_seq_normal ?_
     refine w_region ?_
     refine l_cons rfl (p_move ?_)
     refine l_cons rfl (p_move ?_)
     refine l_cons rfl (p_move ?_)
     refine l_cons rfl (p_call en_114 ((free_gen (bPart (r.args[0]'hpos) (ns ++ [st0, st0])).2.2 ns.length hg.bf (by rw [bFree_len]; omega) (by omega)).mono ?_))
     rintro _ es5 ⟨rfl, F5, hg5⟩
     replace hg := hg.trans hg5
     have hw5 := wt_free (bFree (bPart (r.args[0]'hpos) (ns ++ [st0, st0])).1 ns.length (bPart (r.args[0]'hpos) (ns ++ [st0, st0])).2.1) (bPart (r.args[0]'hpos) (ns ++ [st0, st0])).2.2 ns.length
     refine l_nil ?_
     refine k_blk_normal ?_
     refine k_seq_normal ?_
     refine w_seq ?_
     refine w_region ?_
     refine l_cons rfl (p_move ?_)
     refine l_cons rfl (p_move ?_)
     refine l_cons rfl (p_move ?_)
     refine l_cons rfl (p_call en_114 ((free_gen ns.length (ns.length + 1) hg.bf (by first | (simp only [bFree_len]; omega) | (simp; done)) (by omega)).mono ?_))
     rintro _ es6 ⟨rfl, F6, hg6⟩
     replace hg := hg.trans hg6
     refine l_nil ?_
     refine k_seq_normal ?_
     refine w_exit ?_
     refine k_blk_here ?_
     refine k_seq_normal ?_
     refine w_seq ?_
     refine w_region ?_
     refine l_cons rfl (p_move ?_)
     refine l_cons rfl (p_move ?_)
     refine l_cons rfl (p_assign ?_)
     refine l_cons rfl (p_assign ?_)
     refine l_nil ?_
     refine k_seq_normal ?_
     refine w_ret ?_
     rw [bPart_eq r ns, if_neg (by omega), if_neg (by omega), if_neg (by omega)]
     first
     | (rw [if_pos (by omega), bStar_eq hpos]; exact ret2 rfl (by simp only [ev_tmp, ev_const, ev_func, ofConst_int, ofConst_bool, ofConst_str, ofConst_nil, upd_apply, Nat.reduceEqDiff, ↓reduceIte] <;> exact rfl) (by simp only [ev_tmp, ev_const, ev_func, ofConst_int, ofConst_bool, ofConst_str, ofConst_nil, upd_apply, Nat.reduceEqDiff, ↓reduceIte] <;> exact rfl) (Sub.refl _) ⟨rfl, _, hg.pop⟩)
     | (rw [if_neg (by omega), if_pos (by omega)]; exact ret2 rfl (by simp only [ev_tmp, ev_const, ev_func, ofConst_int, ofConst_bool, ofConst_str, ofConst_nil, upd_apply, Nat.reduceEqDiff, ↓reduceIte] <;> exact rfl) (by simp only [ev_tmp, ev_const, ev_func, ofConst_int, ofConst_bool, ofConst_str, ofConst_nil, upd_apply, Nat.reduceEqDiff, ↓reduceIte] <;> exact rfl) (Sub.refl _) ⟨rfl, _, hg.pop⟩)
     | (rw [if_neg (by omega), if_neg (by omega)]; exact ret2 rfl (by simp only [ev_tmp, ev_const, ev_func, ofConst_int, ofConst_bool, ofConst_str, ofConst_nil, upd_apply, Nat.reduceEqDiff, ↓reduceIte] <;> exact rfl) (by simp only [ev_tmp, ev_const, ev_func, ofConst_int, ofConst_bool, ofConst_str, ofConst_nil, upd_apply, Nat.reduceEqDiff, ↓reduceIte] <;> exact rfl) (Sub.refl _) ⟨rfl, _, hg.pop⟩)
    ·skip
     have h4' := h4; (try simp only [decide_eq_true_eq, decide_eq_false_iff_not, Bool.not_eq_true', Bool.not_false, Bool.not_true, Bool.not_eq_false'] at h4')
     refine w_skip ?_
     refine k_seq_normal ?_
     refine w_seq ?_
     refine w_region ?_
     refine l_cons rfl (p_cmp ?_)
     refine l_cons rfl (p_assign ?_)
     refine l_nil ?_
     refine k_seq_normal ?_
     refine w_b (fun h5 => ?_) (fun h5 => ?_)
     ·skip
      have h5' := h5; (try simp only [decide_eq_true_eq, decide_eq_false_iff_not, Bool.not_eq_true', Bool.not_false, Bool.not_true, Bool.not_eq_false'] at h5')
      refine w_exit ?_
      refine k_seq_exit ?_
      refine k_blk_there (by decide) ?_
      refine k_seq_exit ?_
      refine k_blk_here ?_
      refine k_seq_normal ?_
      refine w_seq ?_
      refine w_region ?_
      refine l_cons rfl (p_move ?_)
      refine l_cons rfl (p_move ?_)
      refine l_cons rfl (p_move ?_)
      refine l_cons rfl (p_call en_114 ((free_gen ns.length (ns.length + 1) hg.bf (by first | (simp only [bFree_len]; omega) | (simp; done)) (by omega)).mono ?_))
      rintro _ es6 ⟨rfl, F6, hg6⟩
      replace hg := hg.trans hg6
      refine l_nil ?_
      refine k_seq_normal ?_
      refine w_exit ?_
      refine k_blk_here ?_
      refine k_seq_normal ?_
      refine w_seq ?_
      refine w_region ?_
      refine l_cons rfl (p_move ?_)
      refine l_cons rfl (p_move ?_)
      refine l_cons rfl (p_assign ?_)
      refine l_cons rfl (p_assign ?_)
      refine l_nil ?_
      refine k_seq_normal ?_
      refine w_ret ?_
      rw [bPart_eq r ns, if_neg (by omega), if_neg (by omega), if_neg (by omega)]
      first
      | (rw [if_pos (by omega), bStar_eq hpos]; exact ret2 rfl (by simp only [ev_tmp, ev_const, ev_func, ofConst_int, ofConst_bool, ofConst_str, ofConst_nil, upd_apply, Nat.reduceEqDiff, ↓reduceIte] <;> exact rfl) (by simp only [ev_tmp, ev_const, ev_func, ofConst_int, ofConst_bool, ofConst_str, ofConst_nil, upd_apply, Nat.reduceEqDiff, ↓reduceIte] <;> exact rfl) (Sub.refl _) ⟨rfl, _, hg.pop⟩)
      | (rw [if_neg (by omega), if_pos (by omega)]; exact ret2 rfl (by simp only [ev_tmp, ev_const, ev_func, ofConst_int, ofConst_bool, ofConst_str, ofConst_nil, upd_apply, Nat.reduceEqDiff, ↓reduceIte] <;> exact rfl) (by simp only [ev_tmp, ev_const, ev_func, ofConst_int, ofConst_bool, ofConst_str, ofConst_nil, upd_apply, Nat.reduceEqDiff, ↓reduceIte] <;> exact rfl) (Sub.refl _) ⟨rfl, _, hg.pop⟩)
      | (rw [if_neg (by omega), if_neg (by omega)]; exact ret2 rfl (by simp only [ev_tmp, ev_const, ev_func, ofConst_int, ofConst_bool, ofConst_str, ofConst_nil, upd_apply, Nat.reduceEqDiff, ↓reduceIte] <;> exact rfl) (by simp only [ev_tmp, ev_const, ev_func, ofConst_int, ofConst_bool, ofConst_str, ofConst_nil, upd_apply, Nat.reduceEqDiff, ↓reduceIte] <;> exact rfl) (Sub.refl _) ⟨rfl, _, hg.pop⟩)
     ·skip
      have h5' := h5; (try simp only [decide_eq_true_eq, decide_eq_false_iff_not, Bool.not_eq_true', Bool.not_false, Bool.not_true, Bool.not_eq_false'] at h5')
      refine w_skip ?_
      refine k_seq_normal ?_
      refine w_exit ?_
      refine k_blk_there (by decide) ?_
      refine k_seq_exit ?_
      refine k_blk_there (by decide) ?_
      refine k_seq_exit ?_
      refine k_blk_here ?_
      refine k_seq_normal ?_
      refine w_seq ?_
      refine w_region ?_
      refine l_cons rfl (p_move ?_)
      refine l_cons rfl (p_move ?_)
      refine l_cons rfl (p_assign ?_)
      refine l_cons rfl (p_assign ?_)
      refine l_nil ?_
      refine k_seq_normal ?_
      refine w_ret ?_
      rw [bPart_eq r ns, if_neg (by omega), if_neg (by omega), if_neg (by omega)]
      first
      | (rw [if_pos (by omega), bStar_eq hpos]; exact ret2 rfl (by simp only [ev_tmp, ev_const, ev_func, ofConst_int, ofConst_bool, ofConst_str, ofConst_nil, upd_apply, Nat.reduceEqDiff, ↓reduceIte] <;> exact rfl) (by simp only [ev_tmp, ev_const, ev_func, ofConst_int, ofConst_bool, ofConst_str, ofConst_nil, upd_apply, Nat.reduceEqDiff, ↓reduceIte] <;> exact rfl) (Sub.refl _) ⟨rfl, _, hg.pop⟩)
      | (rw [if_neg (by omega), if_pos (by omega)]; exact ret2 rfl (by simp only [ev_tmp, ev_const, ev_func, ofConst_int, ofConst_bool, ofConst_str, ofConst_nil, upd_apply, Nat.reduceEqDiff, ↓reduceIte] <;> exact rfl) (by simp only [ev_tmp, ev_const, ev_func, ofConst_int, ofConst_bool, ofConst_str, ofConst_nil, upd_apply, Nat.reduceEqDiff, ↓reduceIte] <;> exact rfl) (Sub.refl _) ⟨rfl, _, hg.pop⟩)
      | (rw [if_neg (by omega), if_neg (by omega)]; exact ret2 rfl (by simp only [ev_tmp, ev_const, ev_func, ofConst_int, ofConst_bool, ofConst_str, ofConst_nil, upd_apply, Nat.reduceEqDiff, ↓reduceIte] <;> exact rfl) (by simp only [ev_tmp, ev_const, ev_func, ofConst_int, ofConst_bool, ofConst_str, ofConst_nil, upd_apply, Nat.reduceEqDiff, ↓reduceIte] <;> exact rfl) (Sub.refl _) ⟨rfl, _, hg.pop⟩)
end Go.Proofs.YtfdgbghlanbddaaDoor.Av
set_option linter.unusedVariables false
set_option linter.unusedSimpArgs false
set_option maxRecDepth 8000
namespace Go.Proofs.YtfdgbghlanbddaaDoor.Av
open Go.RowKit Go.Proofs
/-- The machine of an expression, if it may be. -/
def buildN (r : Rx) : Nf := if mayR r = 0 then ⟨(bPart r []).1, ((bPart r []).2.1 : Int), ((bPart r []).2.2 : Int)⟩ else ⟨[], 0, 0⟩
theorem buildN_no (r : Rx) : mayR r = 0 ∨ ((buildN r).st.length = 0 ∧ (buildN r).start = 0 ∧ (buildN r).stop = 0) := by
 by_cases h : mayR r = 0
 ·exact .inl h
 ·unfold buildN
  rw [if_neg h]
  exact .inr ⟨rfl, rfl, rfl⟩
theorem may_zero {r : Rx} (h : mayR r = 0) : r.nodes ≤ 400 ∧ r.plain = true := by
 unfold mayR at h
 split at h
 ·omega
 ·split at h
  ·omega
  ·split at h
   ·rename_i h3; exact ⟨by omega, h3⟩
   ·omega
theorem bf_start {T : List Ent} {sA sb : Nat} : BF (.row sA 75 6 [] :: .row sb 94 1 [[.own (T.length + 1) sA]] :: T) T.length sb [T.length, T.length + 1] [] :=
 ⟨T.length + 1, sA, [], ⟨at_miss _ (at_hit _ _), at_hit _ (.row sb 94 1 [[.own (T.length + 1) sA]] :: T), rfl, fun k h => by simp at h, by simp [ids]⟩, rfl⟩
theorem build_sub {a b c d : Ent} {es es1 : List Ent} {ib sb : Nat} {F' : List Nat} {n : List St} (hg : BG (a :: b :: c :: d :: es) es1 ib sb [es.length + 2, es.length + 3] F' n) (X : Ent) : Sub es (setAt (killAll F' es1) (es.length + 1) X) := by
 refine sub_of fun id hid => ?_
 obtain ⟨a1, a2⟩ := hg.keep id (by simp; omega) (by simp; omega)
 rw [at_setAt_ne _ (by omega), killAll_at a2, a1, at_push _ (by simp; omega), at_push _ (by simp; omega), at_push _ (by simp; omega), at_push _ hid]
theorem build_gen {w0 : World} (hT : Tab w0) {es : List Ent} (r : Rx) (hn : r.nodes ≤ 1000000) (ho : r.ok) : ACalls Tryd.prog w0 27 [.agg r.cells] es fun v es' => v = .tup [(buildN r).av, .int .i64 (mayR r)] ∧ es' = es := by
 refine calls1 (N := 29) Tryd.func27 rfl rfl (by decide) ?_
 refine w_seq ?_
 refine w_region ?_
 refine l_cons rfl (p_box fun s1 => ?_)
 refine l_cons rfl (p_alloc ze_36 fun s2 => ?_)
 refine l_cons rfl (p_assign ?_)
 refine l_nil ?_
 refine k_seq_normal ?_
 refine w_seq ?_
 refine w_seq ?_
 refine w_region ?_
 refine l_cons rfl (p_loadp ty_29 ?_)
 refine l_cons rfl (p_callr en_71 (rxMay hT r (by omega) ho) ?_)
 refine l_cons rfl (p_assign ?_)
 refine l_nil ?_
 refine k_seq_normal ?_
 refine w_seq ?_
 refine w_region ?_
 refine l_cons rfl (p_move ?_)
 refine l_cons rfl (p_cmp ?_)
 refine l_nil ?_
 refine k_seq_normal ?_
 refine w_b (fun h1 => ?_) (fun h1 => ?_)
 ·skip
  have h1' := h1; (try simp only [decide_eq_true_eq, decide_eq_false_iff_not, Bool.not_eq_true', Bool.not_false, Bool.not_true, Bool.not_eq_false'] at h1')
  refine w_seq ?_
  refine w_region ?_
  refine l_cons rfl (p_build ze_36 pl_36 ?_)
  refine l_retell 12 (b := .agg [.list 6 [], .int .i64 0, .int .i64 0]) (fun c m v h => rep_aggNil 6 (l := [.nil, .int .i64 0, .int .i64 0]) h) ?_
  refine l_cons rfl (p_move ?_)
  refine l_cons rfl (p_store ty_36 ?_)
  refine l_cons rfl (p_assign ?_)
  refine l_nil ?_
  refine k_seq_normal ?_
  refine w_ret ?_
  refine k_seq_ret ?_
  rw [show buildN r = ⟨[], 0, 0⟩ from if_neg (by simpa using h1')]
  exact retct rfl ty_36 (sub2 _ _ _) ⟨rfl, rfl⟩
 ·skip
  have h1' := h1; (try simp only [decide_eq_true_eq, decide_eq_false_iff_not, Bool.not_eq_true', Bool.not_false, Bool.not_true, Bool.not_eq_false'] at h1')
  have hm : mayR r = 0 := by simpa using h1'
  refine w_skip ?_
  refine k_seq_normal ?_
  refine w_seq ?_
  refine w_region ?_
  refine l_cons rfl (p_build ze_94 pl_94 ?_)
  refine l_cons rfl (p_box fun s15 => ?_)
  refine l_cons rfl (p_assign ?_)
  refine l_nil ?_
  refine k_seq_normal ?_
  refine w_seq ?_
  refine w_adoptVar 75 6 fun sA => ?_
  refine w_region ?_
  refine l_cons rfl (p_move ?_)
  refine l_cons rfl (p_loadp ty_29 ?_)
  refine l_cons rfl (p_call en_72 ((part_gen 400 r _ (es.length + 2) s15 [es.length + 2, es.length + 3] [] (may_zero hm).1 (plain_fit r (may_zero hm).2) bf_start (by have := (may_zero hm).1; simp only [wt, List.length_nil, List.map_nil, List.sum_nil]; omega)).mono ?_))
  rintro _ es1 ⟨rfl, F1, hg⟩
  obtain ⟨iS, sS, ms, hbi, rfl⟩ := hg.bf
  have hib := hbi.b
  have hiS := hbi.s
  obtain ⟨hb2, hn2⟩ := hg.keep (es.length + 1) (by simp) (by simp)
  have hbox2 : at_ es1 (es.length + 1) = some (.row s2 36 3 [[.nil, .int .i64 0, .int .i64 0]]) := hb2.trans (at_miss _ (at_miss _ (at_hit _ _)))
  refine l_cons rfl (p_move ?_)
  refine l_cons rfl (p_extract ?_ (hl := Nat.le_of_ble_eq_true rfl))
  refine l_cons rfl (p_extract ?_ (hl := Nat.le_of_ble_eq_true rfl))
  refine l_cons rfl (p_assign ?_)
  refine l_cons rfl (p_assign ?_)
  refine l_nil ?_
  refine k_seq_normal ?_
  refine w_seq ?_
  refine w_region ?_
  refine l_cons rfl (p_move ?_)
  first | refine l_cons rfl (p_ncp ?_) | refine l_cons rfl (p_ncf ?_)
  refine l_cons rfl (p_fap fa_94_0 ?_)
  refine l_cons rfl (p_loadp ty_34 ?_)
  refine l_freezeBI 25 hbi ?_
  have hbox3 := (killAll_at hn2).trans hbox2
  refine l_cons rfl (p_move ?_)
  refine l_cons rfl (p_move ?_)
  refine l_cons rfl (p_build ze_36 pl_36 ?_)
  refine l_cons rfl (p_store ty_36 ?_)
  refine l_cons rfl (p_assign ?_)
  refine l_nil ?_
  refine k_seq_normal ?_
  refine w_ret ?_
  rw [show buildN r = ⟨(bPart r []).1, ((bPart r []).2.1 : Int), ((bPart r []).2.2 : Int)⟩ from if_pos hm, hm]
  exact retct (he := loc_base (at_setAt_same _ hbox3)) rfl ty_36 (build_sub hg _) ⟨rfl, rfl⟩
end Go.Proofs.YtfdgbghlanbddaaDoor.Av
set_option linter.unusedVariables false
set_option linter.unusedSimpArgs false
namespace Go.Proofs.YtfdgbghlanbddaaDoor.Av
/-! ### expressions out of numbers -/
theorem mem_filt {α : Type} {p : α → Bool} {l : List α} {x : α} (h : x ∈ l.filter p) : x ∈ l := (List.mem_filter.1 h).1
def starN : Nat → Rx → Rx
 | 0, r => r
 | n + 1, r => if r.kind = 6 then r else if r.kind = 1 ∨ r.kind = 2 then emptyR else if r.kind = 5 ∧ (catOuts r.args).length < r.args.length then starN n (altR (catOuts r.args)) else .mk 6 noSet [r]
def starR (r : Rx) : Rx := starN 2000 r
/-- The next number, and what is left. -/
def num (m : Int) (q : List Int) : Int := (q.headD 0) % m
def rangeW (a b : Int) : W4 := ofW (((List.range 256).filter fun i : Nat => decide (a ≤ (i : Int)) && decide ((i : Int) ≤ b)).map Int.ofNat)
def notW (s : W4) : W4 := ofW (((List.range 256).filter fun i => !(s.has i)).map Int.ofNat)
def pSet (q : List Int) : W4 × List Int :=
 if num 8 q = 0 then (rangeW 97 100, q.tail)
 else if num 8 q = 1 then (rangeW (num 256 q.tail) (num 256 q.tail.tail), q.tail.tail.tail)
 else if num 8 q = 2 then (notW (ofW [97 + num 4 q.tail]), q.tail.tail)
 else if num 8 q = 3 then (ofW [97 + num 4 q.tail, 97 + num 4 q.tail.tail, num 256 q.tail.tail.tail], q.tail.tail.tail.tail)
 else if num 8 q = 4 then (rangeW 0 255, q.tail)
 else (ofW [97 + num 4 q.tail], q.tail.tail)
def pLeaf (k : Int) (q : List Int) : Rx × List Int :=
 if q = [] ∨ 0 < k then (bytesR (pSet q).1, (pSet q).2) else (if num 3 q = 0 then noneR else emptyR, q.tail)
def pRx : Nat → List Int → Rx × List Int
 | 0, q => pLeaf (num 9 q) q.tail
 | f + 1, q =>
  if q.tail = [] ∨ num 9 q < 3 then pLeaf (num 9 q) q.tail
  else if num 9 q = 3 ∨ num 9 q = 4 ∨ num 9 q = 5 then (catR [(pRx f q.tail).1, (pRx f (pRx f q.tail).2).1], (pRx f (pRx f q.tail).2).2)
  else if num 9 q = 6 ∨ num 9 q = 7 then (altR [(pRx f q.tail).1, (pRx f (pRx f q.tail).2).1], (pRx f (pRx f q.tail).2).2)
  else (starR (pRx f q.tail).1, (pRx f q.tail).2)
def pByte (q : List Int) : Int × List Int := if num 8 q = 0 then (num 256 q.tail, q.tail.tail) else (97 + num 4 q.tail, q.tail.tail)
def pWordGo : Nat → List Int → List Int
 | 0, _ => []
 | n + 1, q => (pByte q).1 :: pWordGo n (pByte q).2
def pWordQ : Nat → List Int → List Int
 | 0, q => q
 | n + 1, q => pWordQ n (pByte q).2
def pWord (most : Nat) (q : List Int) : List Int := pWordGo (num (most + 1) q).toNat q.tail
def bytesOk (l : List Int) : Prop := ∀ b ∈ l, 0 ≤ b ∧ b < 256
theorem num_range {q : List Int} {m : Int} (hm : 0 < m) : 0 ≤ num m q ∧ num m q < m := ⟨Int.emod_nonneg _ (by omega), Int.emod_lt_of_pos _ hm⟩
theorem bytesOk.tail {q : List Int} (h : bytesOk q) : bytesOk q.tail := fun b hb => h b (List.mem_of_mem_tail hb)
theorem ok_mkset {s : W4} (h : s.ok) : (Rx.mk 3 s []).ok := by simp [Rx.ok, Rx.oks, h]
theorem ok_none : noneR.ok := by simp [noneR, Rx.ok, Rx.oks, noSet_ok]
theorem ok_empty : emptyR.ok := by simp [emptyR, Rx.ok, Rx.oks, noSet_ok]
theorem ok_mk {k : Int} (hk : -9223372036854775808 ≤ k ∧ k < 9223372036854775808) {l : List Rx} (h : ∀ x ∈ l, x.ok) : (Rx.mk k noSet l).ok := by
 simp only [Rx.ok, Rx.oks_iff]
 exact ⟨hk, noSet_ok, h⟩
theorem catOf_ok {l : List Rx} (h : ∀ x ∈ l, x.ok) : (catOf l).ok := by
 match l, h with
 | [], _ => exact ok_empty
 | [x], h => exact h x (by simp)
 | x :: y :: t, h => exact ok_mk (by omega) h
theorem altOf_ok {l : List Rx} (h : ∀ x ∈ l, x.ok) : (altOf l).ok := by
 match l, h with
 | [], _ => exact ok_none
 | [x], h => exact h x (by simp)
 | x :: y :: t, h => exact ok_mk (by omega) h
theorem catR_ok {l : List Rx} (h : ∀ x ∈ l, x.ok) : (catR l).ok := by
 unfold catR
 split
 ·exact ok_none
 ·exact catOf_ok fun x hx => flat_ok h x (mem_filt hx)
theorem altFin_ok {o : List Rx} {s : W4} (h : ∀ x ∈ o, x.ok) (hs : s.ok) : ∀ x ∈ altFin o s, x.ok := by
 unfold altFin
 split
 ·exact h
 ·exact insR_ok h (ok_mkset hs)
theorem altR_ok {l : List Rx} (h : ∀ x ∈ l, x.ok) : (altR l).ok := by
 obtain ⟨h1, h2, h3⟩ := altOuts_inv (flatR 5 l) (flat_ok h) (flatR 5 l).length (Nat.le_refl _)
 rw [List.take_length] at h1 h3
 exact altOf_ok (altFin_ok h1 h3)
theorem catOf_nodes (l : List Rx) : (catOf l).nodes ≤ 1 + Rx.nodesL l := by
 match l with
 | [] => simp [catOf, emptyR, Rx.nodes, Rx.nodesL]
 | [x] => simp [catOf, Rx.nodesL]
 | x :: y :: t => simp only [catOf, Rx.nodes]; omega
theorem altOf_nodes (l : List Rx) : (altOf l).nodes ≤ 1 + Rx.nodesL l := by
 match l with
 | [] => simp [altOf, noneR, Rx.nodes, Rx.nodesL]
 | [x] => simp [altOf, Rx.nodesL]
 | x :: y :: t => simp only [altOf, Rx.nodes]; omega
theorem catR_nodes (l : List Rx) : (catR l).nodes ≤ 1 + Rx.nodesL l := by
 unfold catR
 split
 ·simp [noneR, Rx.nodes, Rx.nodesL]
 ·have h1 := catOf_nodes (catOuts (flatR 4 l))
  have h2 := catOuts_nodes (flatR 4 l)
  have h3 := flat_nodes 4 l
  unfold catOuts at h1 h2
  omega
/-- The sets that are laid together were there. -/
theorem altAll_nodes : ∀ (l : List Rx) (o : List Rx) (s : W4), Rx.nodesL (altOuts o l) + (if altSet s l = noSet then 0 else 1) ≤ Rx.nodesL o + (if s = noSet then 0 else 1) + Rx.nodesL l
 | [], o, s => by
  simp [altOuts, altSet, Rx.nodesL]
  exact Nat.le_refl _
 | r :: t, o, s => by
  have e1 : altOuts o (r :: t) = altOuts (if r.kind = 1 ∨ r.kind = 3 then o else insR o r) t := rfl
  have e2 : altSet s (r :: t) = altSet (if r.kind = 3 then s.or r.set else s) t := rfl
  have ih := altAll_nodes t (if r.kind = 1 ∨ r.kind = 3 then o else insR o r) (if r.kind = 3 then s.or r.set else s)
  have h1 := insR_nodes o r
  have h2 := r.nodes_pos
  rw [e1, e2]
  simp only [Rx.nodesL]
  by_cases h3 : r.kind = 3
  ·rw [if_pos (.inr h3), if_pos h3] at ih ⊢
   have : (if s.or r.set = noSet then 0 else 1) ≤ 1 := by split <;> omega
   omega
  ·rw [if_neg h3] at ih ⊢
   by_cases h4 : r.kind = 1 ∨ r.kind = 3
   ·rw [if_pos h4] at ih ⊢; omega
   ·rw [if_neg h4] at ih ⊢; omega
theorem altR_nodes (l : List Rx) : (altR l).nodes ≤ 1 + Rx.nodesL l := by
 unfold altR
 have h1 := altOf_nodes (altFin (altOuts [] (flatR 5 l)) (altSet noSet (flatR 5 l)))
 have h2 := altAll_nodes (flatR 5 l) [] noSet
 have h3 := flat_nodes 5 l
 simp only [if_true, Rx.nodesL] at h2
 unfold altFin at h1 ⊢
 split at h1
 ·rename_i h
  rw [if_pos h] at h2 ⊢
  omega
 ·rename_i h
  rw [if_neg h] at h2 ⊢
  have h4 := insR_nodes (altOuts [] (flatR 5 l)) (.mk 3 (altSet noSet (flatR 5 l)) [])
  simp only [Rx.nodes, Rx.nodesL] at h4
  omega
theorem catOuts_mem {l : List Rx} {x : Rx} (h : x ∈ catOuts l) : x ∈ l := mem_filt h
theorem catOuts_less : ∀ {l : List Rx}, (catOuts l).length < l.length → Rx.nodesL (catOuts l) < Rx.nodesL l
 | [], h => by simp [catOuts] at h
 | a :: t, h => by
  unfold catOuts at h ⊢
  rw [List.filter_cons] at h ⊢
  have ha := a.nodes_pos
  have hle := catOuts_nodes t
  unfold catOuts at hle
  split
  ·rename_i hk
   rw [if_pos hk] at h
   have := catOuts_less (l := t) (by unfold catOuts; simpa using h)
   unfold catOuts at this
   simp only [Rx.nodesL]
   omega
  ·simp only [Rx.nodesL]
   omega
theorem starN_ok : ∀ (n : Nat) {r : Rx}, r.ok → (starN n r).ok
 | 0, r, h => h
 | n + 1, r, h => by
  simp only [starN]
  split
  ·exact h
  ·split
   ·exact ok_empty
   ·split
    ·exact starN_ok n (altR_ok fun x hx => h.args x (catOuts_mem hx))
    ·exact ok_mk (by omega) (by simpa using h)
theorem starN_nodes : ∀ (n : Nat) (r : Rx), (starN n r).nodes ≤ r.nodes + 1
 | 0, r => by simp [starN]
 | n + 1, r => by
  simp only [starN]
  split
  ·omega
  ·split
   ·simp [emptyR, Rx.nodes, Rx.nodesL]
   ·split
    ·rename_i h
     have h1 := starN_nodes n (altR (catOuts r.args))
     have h2 := altR_nodes (catOuts r.args)
     have h3 := catOuts_less h.2
     have h4 := r.nodes_eq
     omega
    ·simp [Rx.nodes, Rx.nodesL]; omega
theorem starR_ok {r : Rx} (h : r.ok) : (starR r).ok := starN_ok 2000 h
theorem starR_nodes (r : Rx) : (starR r).nodes ≤ r.nodes + 1 := starN_nodes 2000 r
theorem filt_ok (p : Nat → Bool) : ∀ b ∈ ((List.range 256).filter p).map Int.ofNat, 0 ≤ b ∧ b < 256 := by
 intro b hb
 obtain ⟨i, hi, rfl⟩ := List.mem_map.1 hb
 have := List.mem_range.1 (mem_filt hi)
 exact ⟨Int.natCast_nonneg _, by show (i : Int) < 256; omega⟩
theorem rangeW_ok (a b : Int) : (rangeW a b).ok := ofW_ok (filt_ok _)
theorem notW_ok (s : W4) : (notW s).ok := ofW_ok (filt_ok _)
theorem ofW_one {b : Int} (h0 : 0 ≤ b) (h1 : b < 256) : (ofW [b]).ok := ofW_ok fun x hx => by
 simp only [List.mem_cons, List.not_mem_nil, or_false] at hx
 omega
theorem ofW_three {a b c : Int} (h0 : 0 ≤ a ∧ a < 256) (h1 : 0 ≤ b ∧ b < 256) (h2 : 0 ≤ c ∧ c < 256) : (ofW [a, b, c]).ok := ofW_ok fun x hx => by
 simp only [List.mem_cons, List.not_mem_nil, or_false] at hx
 omega
theorem pSet_ok {q : List Int} (hq : bytesOk q) : (pSet q).1.ok ∧ bytesOk (pSet q).2 := by
 have n4 : ∀ q : List Int, 0 ≤ num 4 q ∧ num 4 q < 4 := fun q => num_range (by omega)
 have n256 : ∀ q : List Int, 0 ≤ num 256 q ∧ num 256 q < 256 := fun q => num_range (by omega)
 have h1 := n4 q.tail
 have h2 := n4 q.tail.tail
 have h3 := n256 q.tail.tail.tail
 unfold pSet
 split
 ·exact And.intro (rangeW_ok 97 100) hq.tail
 ·split
  ·exact And.intro (rangeW_ok (num 256 q.tail) (num 256 q.tail.tail)) hq.tail.tail.tail
  ·split
   ·exact And.intro (notW_ok (ofW [97 + num 4 q.tail])) hq.tail.tail
   ·split
    ·exact And.intro (ofW_three (a := 97 + num 4 q.tail) (b := 97 + num 4 q.tail.tail) (c := num 256 q.tail.tail.tail) (by omega) (by omega) h3) hq.tail.tail.tail.tail
    ·split
     ·dsimp only
      have h9 := rangeW_ok 0 255
      generalize rangeW 0 255 = z at h9 ⊢
      exact ⟨h9, hq.tail⟩
     ·exact And.intro (ofW_one (b := 97 + num 4 q.tail) (by omega) (by omega)) hq.tail.tail
theorem bytesR_nodes (s : W4) : (bytesR s).nodes = 1 := by
 unfold bytesR
 split <;> simp [noneR, Rx.nodes, Rx.nodesL]
theorem pLeaf_ok {k : Int} {q : List Int} (hq : bytesOk q) : (pLeaf k q).1.ok ∧ bytesOk (pLeaf k q).2 ∧ (pLeaf k q).1.nodes = 1 := by
 obtain ⟨h1, h2⟩ := pSet_ok hq
 unfold pLeaf
 split
 ·exact ⟨bytesR_ok h1, h2, bytesR_nodes _⟩
 ·refine ⟨?_, hq.tail, ?_⟩
  ·simp only; split
   ·exact ok_none
   ·exact ok_empty
  ·simp only; split <;> simp [noneR, emptyR, Rx.nodes, Rx.nodesL]
theorem pRx_ok : ∀ (f : Nat) {q : List Int}, bytesOk q → (pRx f q).1.ok ∧ bytesOk (pRx f q).2 ∧ (pRx f q).1.nodes + 1 ≤ 2 ^ (f + 1)
 | 0, q, hq => by
  obtain ⟨h1, h2, h3⟩ := pLeaf_ok (k := num 9 q) hq.tail
  simp only [pRx]
  exact ⟨h1, h2, by omega⟩
 | f + 1, q, hq => by
  obtain ⟨h1, h2, h3⟩ := pLeaf_ok (k := num 9 q) hq.tail
  obtain ⟨a1, a2, a3⟩ := pRx_ok f hq.tail
  obtain ⟨b1, b2, b3⟩ := pRx_ok f a2
  have e : 2 ^ (f + 1 + 1) = 2 * 2 ^ (f + 1) := by rw [Nat.pow_succ]; omega
  have hp : 2 ≤ 2 ^ (f + 1) := by rw [Nat.pow_succ]; have := Nat.pos_of_ne_zero (show 2 ^ f ≠ 0 by simp); omega
  have hl : ∀ x ∈ [(pRx f q.tail).1, (pRx f (pRx f q.tail).2).1], x.ok := by
   intro x hx
   simp only [List.mem_cons, List.not_mem_nil, or_false] at hx
   rcases hx with rfl | rfl
   ·exact a1
   ·exact b1
  simp only [pRx]
  split
  ·exact ⟨h1, h2, by omega⟩
  ·split
   ·refine ⟨catR_ok hl, b2, ?_⟩
    have := catR_nodes [(pRx f q.tail).1, (pRx f (pRx f q.tail).2).1]
    simp only [Rx.nodesL] at this
    simp only
    omega
   ·split
    ·refine ⟨altR_ok hl, b2, ?_⟩
     have := altR_nodes [(pRx f q.tail).1, (pRx f (pRx f q.tail).2).1]
     simp only [Rx.nodesL] at this
     simp only
     omega
    ·dsimp only
     have h8 := starR_ok a1
     have h9 := starR_nodes (pRx f q.tail).1
     generalize starR (pRx f q.tail).1 = z at h8 h9 ⊢
     exact ⟨h8, a2, by omega⟩
end Go.Proofs.YtfdgbghlanbddaaDoor.Av
set_option linter.unusedVariables false
set_option linter.unusedSimpArgs false
set_option maxRecDepth 8000
namespace Go.Proofs.YtfdgbghlanbddaaDoor.Av
open Go.RowKit Go.Proofs
def boolT (p : Nat → Bool) : List AV := (List.range 256).map fun i => .bool (p i)
theorem boolT_len (p : Nat → Bool) : (boolT p).length = 256 := by simp [boolT]
theorem boolT_load {p : Nat → Bool} {k : Nat} (hk : k < 256) : loadAV false 1 (boolT p) k = .bool (p k) := by
 simp [loadAV, boolT, List.getD, hk]
theorem boolT_all (p : Nat → Bool) : loadAV true 256 (boolT p) 0 = .agg (boolT p) := by
 simp only [loadAV, if_true, List.drop_zero]
 rw [List.take_of_length_le (by rw [boolT_len]; exact Nat.le_refl _)]
theorem boolT_none {p : Nat → Bool} (h : ∀ i, i < 256 → p i = false) : boolT p = List.replicate 256 (.bool false) := by
 unfold boolT
 refine List.ext_getElem (by simp) fun i h1 h2 => ?_
 simp only [List.getElem_map, List.getElem_range, List.getElem_replicate]
 rw [h i (by simpa using h1)]
theorem boolT_congr {p q : Nat → Bool} (h : ∀ i, i < 256 → p i = q i) : boolT p = boolT q := by
 unfold boolT
 refine List.map_congr_left fun i hi => ?_
 rw [h i (List.mem_range.1 hi)]
theorem boolT_store {p : Nat → Bool} {k : Nat} {v : Bool} (hk : k < 256) : (boolT p).take k ++ [.bool v] ++ (boolT p).drop (k + 1) = boolT (fun i => if i = k then v else p i) := by
 have e : (boolT p).take k ++ [AV.bool v] ++ (boolT p).drop (k + 1) = (boolT p).set k (.bool v) := by
  rw [List.set_eq_take_append_cons_drop, if_pos (by rw [boolT_len]; exact hk)]
  simp
 rw [e]
 refine List.ext_getElem (by simp [boolT]) fun i h1 h2 => ?_
 simp only [boolT, List.getElem_set, List.getElem_map, List.getElem_range]
 by_cases hi : k = i
 ·subst hi; simp
 ·rw [if_neg hi, if_neg (Ne.symm hi)]
theorem filt_len (p : Nat → Bool) (k : Nat) : (((List.range k).filter p).map Int.ofNat).length ≤ k := by
 rw [List.length_map]
 have := List.length_filter_le p (List.range k)
 simpa using this
theorem filt_yes {p : Nat → Bool} {k : Nat} (h : p k = true) : ((List.range (k + 1)).filter p).map Int.ofNat = ((List.range k).filter p).map Int.ofNat ++ [(k : Int)] := by
 rw [List.range_succ, List.filter_append, List.map_append, List.filter_cons_of_pos (by simpa using h)]
 rfl
theorem filt_no {p : Nat → Bool} {k : Nat} (h : p k = false) : ((List.range (k + 1)).filter p).map Int.ofNat = ((List.range k).filter p).map Int.ofNat := by
 rw [List.range_succ, List.filter_append, List.map_append, List.filter_cons_of_neg (by simp [h])]
 simp
theorem range_step {a k : Int} {i : Nat} (h0 : a ≤ k) (h1 : 0 ≤ k) : (if i = k.toNat then true else (decide (a ≤ (i : Int)) && decide ((i : Int) < k))) = (decide (a ≤ (i : Int)) && decide ((i : Int) < k + 1)) := by
 by_cases h : i = k.toNat
 ·rw [if_pos h]
  have e1 : decide (a ≤ (i : Int)) = true := decide_eq_true (by omega)
  have e2 : decide ((i : Int) < k + 1) = true := decide_eq_true (by omega)
  rw [e1, e2]; rfl
 ·rw [if_neg h]
  congr 1
  rw [decide_eq_decide]
  omega
theorem not_step {s : W4} {k i : Nat} : (if i = k then !(s.has k) else (decide (i < k) && !(s.has i))) = (decide (i < k + 1) && !(s.has i)) := by
 by_cases h : i = k
 ·subst h; simp
 ·rw [if_neg h]
  congr 1
  rw [decide_eq_decide]
  omega
theorem rangeW_of {a b k : Int} (h : (k = b + 1 ∨ (b < a ∧ k = a))) : rangeW a b = ofW (((List.range 256).filter fun i : Nat => decide (a ≤ (i : Int)) && decide ((i : Int) < k)).map Int.ofNat) := by
 unfold rangeW
 congr 2
 refine List.filter_congr fun i _ => ?_
 rw [Bool.eq_iff_iff]
 simp only [Bool.and_eq_true, decide_eq_true_eq]
 omega
theorem notW_of (s : W4) : notW s = ofW (((List.range 256).filter fun i : Nat => decide (i < 256) && !(s.has i)).map Int.ofNat) := by
 have e : (List.range 256).filter (fun i : Nat => decide (i < 256) && !(s.has i)) = (List.range 256).filter fun i => !(s.has i) := by
  refine List.filter_congr fun i hi => ?_
  rw [show decide (i < 256) = true from decide_eq_true (List.mem_range.1 hi)]
  rfl
 unfold notW
 rw [e]
theorem star_6 {n : Nat} {r : Rx} (h : r.kind = 6) : starN (n + 1) r = r := by rw [starN, if_pos h]
theorem star_12 {n : Nat} {r : Rx} (h : r.kind = 1 ∨ r.kind = 2) : starN (n + 1) r = emptyR := by rw [starN, if_neg (by omega), if_pos h]
theorem star_alt {n : Nat} {r : Rx} (h : r.kind = 5) (hl : (catOuts r.args).length < r.args.length) : starN (n + 1) r = starN n (altR (catOuts r.args)) := by rw [starN, if_neg (by omega), if_neg (by omega), if_pos ⟨h, hl⟩]
theorem star_else {n : Nat} {r : Rx} (h : ¬ r.kind = 6 ∧ ¬ r.kind = 1 ∧ ¬ r.kind = 2) (hl : ¬ (r.kind = 5 ∧ (catOuts r.args).length < r.args.length)) : starN (n + 1) r = .mk 6 noSet [r] := by rw [starN, if_neg (by omega), if_neg (by omega), if_neg hl]
theorem refWhere {w0 : World} {es : List Ent} (p : Nat → Bool) : ACalls Tryd.prog w0 158 [.agg (boolT p)] es fun v es' => v = .agg (ofW (((List.range 256).filter p).map Int.ofNat)).row ∧ es' = es := by
 refine calls1 (N := 19) Tryd.func158 rfl rfl (by decide) ?_
 refine w_seq ?_
 refine w_region ?_
 refine l_cons rfl (p_box fun s1 => ?_)
 refine l_cons rfl (p_alloc ze_26 fun s2 => ?_)
 refine l_nil ?_
 refine k_seq_normal ?_
 refine w_seq ?_
 refine w_region ?_
 refine l_cons rfl (p_assign ?_)
 refine l_nil ?_
 refine k_seq_normal ?_
 refine w_seq ?_
 refine w_seq ?_
 refine w_adopt 3 5 1 rfl fun s3 => ?_
 simp only [upd_upd]
 refine w_region ?_
 refine l_cons rfl (p_assign ?_)
 refine l_nil ?_
 refine k_seq_normal ?_
 refine w_block ?_
 refine w_loop (fun m f es' => ∃ k s3, m = 256 - k ∧ k ≤ 256 ∧ es' = .row s3 5 1 ((((List.range k).filter p).map Int.ofNat).map fun n => [.int .u8 n]) :: .row s2 26 4 [[.int .u64 0, .int .u64 0, .int .u64 0, .int .u64 0]] :: .row s1 153 (boolT p).length [boolT p] :: es ∧ Knows f [(1, .ptr es.length s1 0 0), (2, .ptr (es.length + 1) s2 0 0), (3, .own (es.length + 2) s3), (4, .int .i64 k)]) (256) (⟨0, s3, rfl, Nat.zero_le _, rfl, by simp only [Knows, put, upd_apply, Nat.reduceEqDiff, ↓reduceIte, and_true, true_and, eq_self] <;> and_intros <;> rfl⟩) ?_
 rintro m f es' ⟨k, s3, rfl, hk1, rfl, hk⟩
 refine w_pins _ (Sub.refl _) (hk) ?_
 simp only [pins]
 refine w_seq ?_
 refine w_seq ?_
 refine w_region ?_
 refine l_cons rfl (p_move ?_)
 refine l_cons rfl (p_cmp ?_)
 refine l_nil ?_
 refine k_seq_normal ?_
 refine w_b (fun h1 => ?_) (fun h1 => ?_)
 ·skip
  have h1' := h1; (try simp only [decide_eq_true_eq, decide_eq_false_iff_not, Bool.not_eq_true', Bool.not_false, Bool.not_true, Bool.not_eq_false'] at h1')
  refine w_skip ?_
  refine k_seq_normal ?_
  refine w_seq ?_
  refine w_block ?_
  refine w_seq ?_
  refine w_region ?_
  refine l_cons rfl (p_move ?_)
  refine l_cons rfl (p_ixa ar_153 (a := .ptr es.length s1 0 k) ?_ (h0 := by omega) (h1 := by omega) (ho := by simp))
  refine l_cons rfl (p_loadp ty_4 (a := .bool (p k)) ?_ (hl := by simp only [boolT_len]; omega) (ha := boolT_load (by omega)))
  refine l_nil ?_
  refine k_seq_normal ?_
  refine w_b (fun h2 => ?_) (fun h2 => ?_)
  ·skip
   have h2' := h2; (try simp only [decide_eq_true_eq, decide_eq_false_iff_not, Bool.not_eq_true', Bool.not_false, Bool.not_true, Bool.not_eq_false'] at h2')
   have hfl := filt_len p k
   rw [List.length_map] at hfl
   refine w_region ?_
   refine l_cons rfl (p_move ?_)
   refine l_cons rfl (p_move ?_)
   refine l_cons rfl (p_conv in_3 in_5 ?_ (hb := wrap8 (n := (k : Int)) (by omega) (by omega)))
   refine l_cons rfl (p_buildList sl_22 ze_5 ?_)
   refine l_cons rfl (p_append sl_22 by_5 ze_5 (fun s16 => ?_) (hb := by simp only [List.length_map, List.length_take, List.length_drop, List.length_append, List.length_cons, List.length_nil, most]; omega))
   refine l_cons rfl (p_assign ?_)
   refine l_nil ?_
   refine k_blk_normal ?_
   refine k_seq_normal ?_
   refine w_region ?_
   refine l_cons rfl (p_move ?_)
   refine l_cons rfl (p_arith ?_)
   refine l_cons rfl (p_assign ?_)
   refine l_nil ?_
   refine k_seq_normal ?_
   first
   | exact ⟨256 - (k + 1), by omega, k + 1, s16, rfl, by omega, by rw [filt_yes h2', List.map_append] <;> rfl, by simp only [Knows, put, upd_apply, Nat.reduceEqDiff, ↓reduceIte, and_true, true_and, eq_self] <;> and_intros <;> rfl⟩
   | exact ⟨256 - (k + 1), by omega, k + 1, s3, rfl, by omega, by rw [filt_no h2'] <;> rfl, by simp only [Knows, put, upd_apply, Nat.reduceEqDiff, ↓reduceIte, and_true, true_and, eq_self] <;> and_intros <;> rfl⟩
  ·skip
   have h2' := h2; (try simp only [decide_eq_true_eq, decide_eq_false_iff_not, Bool.not_eq_true', Bool.not_false, Bool.not_true, Bool.not_eq_false'] at h2')
   refine w_skip ?_
   refine k_blk_normal ?_
   refine k_seq_normal ?_
   refine w_region ?_
   refine l_cons rfl (p_move ?_)
   refine l_cons rfl (p_arith ?_)
   refine l_cons rfl (p_assign ?_)
   refine l_nil ?_
   refine k_seq_normal ?_
   first
   | exact ⟨256 - (k + 1), by omega, k + 1, s16, rfl, by omega, by rw [filt_yes h2', List.map_append] <;> rfl, by simp only [Knows, put, upd_apply, Nat.reduceEqDiff, ↓reduceIte, and_true, true_and, eq_self] <;> and_intros <;> rfl⟩
   | exact ⟨256 - (k + 1), by omega, k + 1, s3, rfl, by omega, by rw [filt_no h2'] <;> rfl, by simp only [Knows, put, upd_apply, Nat.reduceEqDiff, ↓reduceIte, and_true, true_and, eq_self] <;> and_intros <;> rfl⟩
 ·skip
  have h1' := h1; (try simp only [decide_eq_true_eq, decide_eq_false_iff_not, Bool.not_eq_true', Bool.not_false, Bool.not_true, Bool.not_eq_false'] at h1')
  refine w_exit ?_
  refine k_seq_exit ?_
  refine k_seq_exit ?_
  refine k_blk_here ?_
  refine k_seq_normal ?_
  refine w_seq ?_
  refine w_freezeTop 3 ?_ (hclean := cleans_u8 _)
  obtain rfl : k = 256 := by omega
  refine w_region ?_
  refine l_cons rfl (p_move ?_)
  refine l_cons rfl (p_callr en_68 (refOf _ (filt_ok p)) ?_)
  refine l_cons rfl (p_store ty_26 ?_)
  refine l_nil ?_
  refine k_seq_normal ?_
  refine w_ret ?_
  exact retc rfl ty_26 (by first | exact Sub.refl _ | exact sub1 _ _ | exact sub2 _ _ _ | exact sub3 _ _ _ _ | exact sub4 _ _ _ _ _ | exact sub5 _ _ _ _ _ _) ⟨rfl, rfl⟩
theorem refRange {w0 : World} {es : List Ent} (a b : Int) (ha : 0 ≤ a ∧ a < 256) (hb : 0 ≤ b ∧ b < 256) : ACalls Tryd.prog w0 143 [.int .u8 a, .int .u8 b] es fun v es' => v = .agg (rangeW a b).row ∧ es' = es := by
 refine calls2 (N := 19) Tryd.func143 rfl rfl (by decide) ?_
 refine w_seq ?_
 refine w_region ?_
 refine l_cons rfl (p_alloc ze_26 fun s4 => ?_)
 refine l_nil ?_
 refine k_seq_normal ?_
 refine w_seq ?_
 refine w_region ?_
 refine l_cons rfl (p_alloc ze_153 fun s5 => ?_)
 refine l_nil ?_
 refine k_seq_normal ?_
 refine w_seq ?_
 refine w_seq ?_
 refine w_region ?_
 refine l_cons rfl (p_move ?_)
 refine l_cons rfl (p_conv in_5 in_3 ?_ (hb := wrap_i64 (n := a) (by omega) (by omega)))
 refine l_cons rfl (p_assign ?_)
 refine l_nil ?_
 refine k_seq_normal ?_
 refine w_block ?_
 refine w_loop (fun m f es' => ∃ k : Int, m = (b + 1 - k).toNat ∧ a ≤ k ∧ k ≤ 256 ∧ (k ≤ b + 1 ∨ k = a) ∧ es' = .row s5 153 256 [boolT (fun i : Nat => decide (a ≤ (i : Int)) && decide ((i : Int) < k))] :: .row s4 26 4 [[.int .u64 0, .int .u64 0, .int .u64 0, .int .u64 0]] :: es ∧ Knows f [(1, .int .u8 b), (4, .ptr es.length s4 0 0), (5, .ptr (es.length + 1) s5 0 0), (6, .int .i64 k)]) (_) (⟨a, rfl, by omega, by omega, .inr rfl, by rw [boolT_none (p := fun i : Nat => decide (a ≤ (i : Int)) && decide ((i : Int) < a)) (fun i _ => by by_cases h : a ≤ (i : Int) <;> simp <;> omega)] <;> rfl, by simp only [Knows, put, upd_apply, Nat.reduceEqDiff, ↓reduceIte, and_true, true_and, eq_self] <;> and_intros <;> rfl⟩) ?_
 rintro m f es' ⟨k, rfl, hk1, hk2, hk3, rfl, hk⟩
 refine w_pins _ (Sub.refl _) (hk) ?_
 simp only [pins]
 refine w_seq ?_
 refine w_seq ?_
 refine w_region ?_
 refine l_cons rfl (p_move ?_)
 refine l_cons rfl (p_move ?_)
 refine l_cons rfl (p_conv in_5 in_3 ?_ (hb := wrap_i64 (n := b) (by omega) (by omega)))
 refine l_cons rfl (p_cmp ?_)
 refine l_nil ?_
 refine k_seq_normal ?_
 refine w_b (fun h1 => ?_) (fun h1 => ?_)
 ·skip
  have h1' := h1; (try simp only [decide_eq_true_eq, decide_eq_false_iff_not, Bool.not_eq_true', Bool.not_false, Bool.not_true, Bool.not_eq_false'] at h1')
  refine w_skip ?_
  refine k_seq_normal ?_
  refine w_seq ?_
  refine w_block ?_
  refine w_region ?_
  refine l_cons rfl (p_move ?_)
  refine l_cons rfl (p_ixa ar_153 (a := .ptr (es.length + 1) s5 0 k.toNat) ?_ (h0 := by omega) (h1 := by omega) (ho := by simp))
  refine l_cons rfl (p_store ty_4 (r' := boolT (fun i => if i = k.toNat then true else (fun i : Nat => decide (a ≤ (i : Int)) && decide ((i : Int) < k)) i)) ?_ (hl := by simp only [boolT_len]; omega) (hr' := boolT_store (by omega)))
  refine l_nil ?_
  refine k_blk_normal ?_
  refine k_seq_normal ?_
  refine w_region ?_
  refine l_cons rfl (p_move ?_)
  refine l_cons rfl (p_arith ?_)
  refine l_cons rfl (p_assign ?_)
  refine l_nil ?_
  refine k_seq_normal ?_
  exact ⟨(b + 1 - (k + 1)).toNat, by omega, k + 1, rfl, by omega, by omega, .inl (by omega), by rw [boolT_congr (p := fun i => if i = k.toNat then true else (decide (a ≤ (i : Int)) && decide ((i : Int) < k))) (q := fun i : Nat => decide (a ≤ (i : Int)) && decide ((i : Int) < k + 1)) (fun i _ => range_step (by omega) (by omega))] <;> rfl, by simp only [Knows, put, upd_apply, Nat.reduceEqDiff, ↓reduceIte, and_true, true_and, eq_self] <;> and_intros <;> rfl⟩
 ·skip
  have h1' := h1; (try simp only [decide_eq_true_eq, decide_eq_false_iff_not, Bool.not_eq_true', Bool.not_false, Bool.not_true, Bool.not_eq_false'] at h1')
  refine w_exit ?_
  refine k_seq_exit ?_
  refine k_seq_exit ?_
  refine k_blk_here ?_
  refine k_seq_normal ?_
  refine w_seq ?_
  refine w_region ?_
  refine l_cons rfl (p_loadp ty_153 (a := .agg (boolT (fun i : Nat => decide (a ≤ (i : Int)) && decide ((i : Int) < k)))) ?_ (hl := by simp only [boolT_len]; omega) (ha := boolT_all _))
  refine l_cons rfl (p_callr en_158 (refWhere (fun i : Nat => decide (a ≤ (i : Int)) && decide ((i : Int) < k))) ?_)
  refine l_cons rfl (p_store ty_26 ?_)
  refine l_nil ?_
  refine k_seq_normal ?_
  refine w_ret ?_
  rw [rangeW_of (a := a) (b := b) (k := k) (by omega)]
  exact retc rfl ty_26 (by first | exact Sub.refl _ | exact sub1 _ _ | exact sub2 _ _ _ | exact sub3 _ _ _ _ | exact sub4 _ _ _ _ _ | exact sub5 _ _ _ _ _ _) ⟨rfl, rfl⟩
theorem refNot {w0 : World} {es : List Ent} (s : W4) (hs : s.ok) : ACalls Tryd.prog w0 144 [.agg s.row] es fun v es' => v = .agg (notW s).row ∧ es' = es := by
 unfold W4.row
 refine calls1 (N := 18) Tryd.func144 rfl rfl (by decide) ?_
 refine w_seq ?_
 refine w_region ?_
 refine l_cons rfl (p_box fun s1 => ?_)
 refine l_cons rfl (p_alloc ze_26 fun s2 => ?_)
 refine l_nil ?_
 refine k_seq_normal ?_
 refine w_seq ?_
 refine w_region ?_
 refine l_cons rfl (p_alloc ze_153 fun s3 => ?_)
 refine l_nil ?_
 refine k_seq_normal ?_
 refine w_seq ?_
 refine w_seq ?_
 refine w_region ?_
 refine l_cons rfl (p_assign ?_)
 refine l_nil ?_
 refine k_seq_normal ?_
 refine w_block ?_
 refine w_loop (fun m f es' => ∃ k, m = 256 - k ∧ k ≤ 256 ∧ es' = .row s3 153 256 [boolT (fun i : Nat => decide (i < k) && !(s.has i))] :: .row s2 26 4 [[.int .u64 0, .int .u64 0, .int .u64 0, .int .u64 0]] :: .row s1 26 4 [[.int .u64 s.w0, .int .u64 s.w1, .int .u64 s.w2, .int .u64 s.w3]] :: es ∧ Knows f [(1, .ptr es.length s1 0 0), (2, .ptr (es.length + 1) s2 0 0), (3, .ptr (es.length + 2) s3 0 0), (4, .int .i64 k)]) (256) (⟨0, rfl, by omega, by rw [boolT_none (p := fun i : Nat => decide (i < 0) && !(s.has i)) (fun i _ => by simp)] <;> rfl, by simp only [Knows, put, upd_apply, Nat.reduceEqDiff, ↓reduceIte, and_true, true_and, eq_self] <;> and_intros <;> rfl⟩) ?_
 rintro m f es' ⟨k, rfl, hk1, rfl, hk⟩
 refine w_pins _ (Sub.refl _) (hk) ?_
 simp only [pins]
 refine w_seq ?_
 refine w_seq ?_
 refine w_region ?_
 refine l_cons rfl (p_move ?_)
 refine l_cons rfl (p_cmp ?_)
 refine l_nil ?_
 refine k_seq_normal ?_
 refine w_b (fun h1 => ?_) (fun h1 => ?_)
 ·skip
  have h1' := h1; (try simp only [decide_eq_true_eq, decide_eq_false_iff_not, Bool.not_eq_true', Bool.not_false, Bool.not_true, Bool.not_eq_false'] at h1')
  refine w_skip ?_
  refine k_seq_normal ?_
  refine w_seq ?_
  refine w_block ?_
  refine w_region ?_
  refine l_cons rfl (p_move ?_)
  refine l_cons rfl (p_loadp ty_26 ?_)
  refine l_cons rfl (p_move ?_)
  refine l_cons rfl (p_conv in_3 in_5 ?_ (hb := wrap8 (n := (k : Int)) (by omega) (by omega)))
  refine l_cons rfl (p_callr en_55 (ref1Has s.w0 s.w1 s.w2 s.w3 (k : Int) (by omega) (by omega) hs.1 hs.2.1 hs.2.2.1 hs.2.2.2.1) ?_)
  refine l_cons rfl (p_not ?_)
  refine l_cons rfl (p_ixa ar_153 (a := .ptr (es.length + 2) s3 0 k) ?_ (h0 := by omega) (h1 := by omega) (ho := by simp))
  refine l_cons rfl (p_store ty_4 (r' := boolT (fun i => if i = k then !(s.has k) else (fun i : Nat => decide (i < k) && !(s.has i)) i)) ?_ (hl := by simp only [boolT_len]; omega) (hr' := boolT_store (by omega)))
  refine l_nil ?_
  refine k_blk_normal ?_
  refine k_seq_normal ?_
  refine w_region ?_
  refine l_cons rfl (p_move ?_)
  refine l_cons rfl (p_arith ?_)
  refine l_cons rfl (p_assign ?_)
  refine l_nil ?_
  refine k_seq_normal ?_
  exact ⟨256 - (k + 1), by omega, k + 1, rfl, by omega, by rw [boolT_congr (p := fun i => if i = k then !(s.has k) else (decide (i < k) && !(s.has i))) (q := fun i : Nat => decide (i < k + 1) && !(s.has i)) (fun i _ => not_step)] <;> rfl, by simp only [Knows, put, upd_apply, Nat.reduceEqDiff, ↓reduceIte, and_true, true_and, eq_self] <;> and_intros <;> rfl⟩
 ·skip
  have h1' := h1; (try simp only [decide_eq_true_eq, decide_eq_false_iff_not, Bool.not_eq_true', Bool.not_false, Bool.not_true, Bool.not_eq_false'] at h1')
  refine w_exit ?_
  refine k_seq_exit ?_
  refine k_seq_exit ?_
  refine k_blk_here ?_
  refine k_seq_normal ?_
  refine w_seq ?_
  obtain rfl : k = 256 := by omega
  refine w_region ?_
  refine l_cons rfl (p_loadp ty_153 (a := .agg (boolT (fun i : Nat => decide (i < 256) && !(s.has i)))) ?_ (hl := by simp only [boolT_len]; omega) (ha := boolT_all _))
  refine l_cons rfl (p_callr en_158 (refWhere (fun i : Nat => decide (i < 256) && !(s.has i))) ?_)
  refine l_cons rfl (p_store ty_26 ?_)
  refine l_nil ?_
  refine k_seq_normal ?_
  refine w_ret ?_
  rw [notW_of s]
  exact retc rfl ty_26 (by first | exact Sub.refl _ | exact sub1 _ _ | exact sub2 _ _ _ | exact sub3 _ _ _ _ | exact sub4 _ _ _ _ _ | exact sub5 _ _ _ _ _ _) ⟨rfl, rfl⟩
theorem refStarN {w0 : World} : ∀ (n : Nat) (r : Rx) (es : List Ent), r.nodes ≤ n + 1 → n ≤ 1000000 → r.ok → ACalls Tryd.prog w0 41 [.agg r.cells] es fun v es' => v = .agg (starN (n + 1) r).cells ∧ es' = es := by
 intro n
 induction n using Nat.strongRecOn with
 | _ n ih => ?_
 intro r es hB hB2 ho
 rw [Rx.cells_eq r]
 have hne := r.nodes_eq
 have hal := Rx.len_le r.args
 refine calls1 (N := 52) Tryd.func41 rfl rfl (by decide) ?_
 refine w_seq ?_
 refine w_region ?_
 refine l_cons rfl (p_box fun s1 => ?_)
 refine l_cons rfl (p_alloc ze_29 fun s2 => ?_)
 refine l_nil ?_
 refine k_seq_normal ?_
 refine w_seq ?_
 refine w_seq ?_
 refine w_region ?_
 refine l_cons rfl (p_fap fa_29_0 ?_)
 refine l_cons rfl (p_loadp ty_3 ?_)
 refine l_nil ?_
 refine k_seq_normal ?_
 refine w_block ?_
 refine w_seq ?_
 refine w_region ?_
 refine l_cons rfl (p_cmp ?_)
 refine l_cons rfl (p_assign ?_)
 refine l_nil ?_
 refine k_seq_normal ?_
 refine w_b (fun h1 => ?_) (fun h1 => ?_)
 ·skip
  have h1' := h1; (try simp only [decide_eq_true_eq, decide_eq_false_iff_not, Bool.not_eq_true', Bool.not_false, Bool.not_true, Bool.not_eq_false'] at h1')
  refine w_seq ?_
  refine w_region ?_
  refine l_cons rfl (p_loadp ty_29 ?_)
  refine l_cons rfl (p_callr en_63 (cells1 (refCopy _ r _ (Nat.le_refl _) (by omega))) ?_)
  refine l_cons rfl (p_store ty_29 ?_)
  refine l_nil ?_
  refine k_seq_normal ?_
  refine w_ret ?_
  refine k_blk_ret ?_
  refine k_seq_ret ?_
  rw [star_6 (by omega)]
  exact retc rfl ty_29 (by first | exact Sub.refl _ | exact sub1 _ _ | exact sub2 _ _ _ | exact sub3 _ _ _ _ | exact sub4 _ _ _ _ _ | exact sub5 _ _ _ _ _ _) ⟨rfl, rfl⟩
 ·skip
  have h1' := h1; (try simp only [decide_eq_true_eq, decide_eq_false_iff_not, Bool.not_eq_true', Bool.not_false, Bool.not_true, Bool.not_eq_false'] at h1')
  refine w_seq ?_
  refine w_seq ?_
  refine w_region ?_
  refine l_cons rfl (p_cmp ?_)
  refine l_cons rfl (p_assign ?_)
  refine l_nil ?_
  refine k_seq_normal ?_
  refine w_b (fun h2 => ?_) (fun h2 => ?_)
  ·skip
   have h2' := h2; (try simp only [decide_eq_true_eq, decide_eq_false_iff_not, Bool.not_eq_true', Bool.not_false, Bool.not_true, Bool.not_eq_false'] at h2')
   refine w_skip ?_
   refine k_seq_normal ?_
   refine w_t h2 ?_
   refine w_seq ?_
   refine w_region ?_
   refine l_cons rfl (p_callr en_85 (refEmpty) ?_)
   refine l_cons rfl (p_store ty_29 ?_)
   refine l_nil ?_
   refine k_seq_normal ?_
   refine w_ret ?_
   refine k_blk_ret ?_
   refine k_seq_ret ?_
   rw [star_12 (by omega)]
   exact retc rfl ty_29 (by first | exact Sub.refl _ | exact sub1 _ _ | exact sub2 _ _ _ | exact sub3 _ _ _ _ | exact sub4 _ _ _ _ _ | exact sub5 _ _ _ _ _ _) ⟨rfl, rfl⟩
  ·skip
   have h2' := h2; (try simp only [decide_eq_true_eq, decide_eq_false_iff_not, Bool.not_eq_true', Bool.not_false, Bool.not_true, Bool.not_eq_false'] at h2')
   refine w_region ?_
   refine l_cons rfl (p_cmp ?_)
   refine l_cons rfl (p_assign ?_)
   refine l_nil ?_
   refine k_seq_normal ?_
   refine w_b (fun h3 => ?_) (fun h3 => ?_)
   ·skip
    have h3' := h3; (try simp only [decide_eq_true_eq, decide_eq_false_iff_not, Bool.not_eq_true', Bool.not_false, Bool.not_true, Bool.not_eq_false'] at h3')
    refine w_seq ?_
    refine w_region ?_
    refine l_cons rfl (p_callr en_85 (refEmpty) ?_)
    refine l_cons rfl (p_store ty_29 ?_)
    refine l_nil ?_
    refine k_seq_normal ?_
    refine w_ret ?_
    refine k_blk_ret ?_
    refine k_seq_ret ?_
    rw [star_12 (by omega)]
    exact retc rfl ty_29 (by first | exact Sub.refl _ | exact sub1 _ _ | exact sub2 _ _ _ | exact sub3 _ _ _ _ | exact sub4 _ _ _ _ _ | exact sub5 _ _ _ _ _ _) ⟨rfl, rfl⟩
   ·skip
    have h3' := h3; (try simp only [decide_eq_true_eq, decide_eq_false_iff_not, Bool.not_eq_true', Bool.not_false, Bool.not_true, Bool.not_eq_false'] at h3')
    refine w_seq ?_
    refine w_region ?_
    refine l_cons rfl (p_cmp ?_)
    refine l_cons rfl (p_assign ?_)
    refine l_nil ?_
    refine k_seq_normal ?_
    refine w_b (fun h4 => ?_) (fun h4 => ?_)
    ·skip
     have h4' := h4; (try simp only [decide_eq_true_eq, decide_eq_false_iff_not, Bool.not_eq_true', Bool.not_false, Bool.not_true, Bool.not_eq_false'] at h4')
     refine w_seq ?_
     refine w_region ?_
     refine l_cons rfl (p_assign ?_)
     refine l_nil ?_
     refine k_seq_normal ?_
     refine w_seq ?_
     refine w_seq ?_
     refine w_adopt 3 29 6 rfl fun s3 => ?_
     simp only [upd_upd]
     refine w_region ?_
     refine l_cons rfl (p_assign ?_)
     refine l_nil ?_
     refine k_seq_normal ?_
     refine w_block ?_
     refine w_loop (fun m f es' => ∃ k s3, m = r.args.length - k ∧ k ≤ r.args.length ∧ es' = .row s3 29 6 ((catOuts (r.args.take k)).map Rx.cells) :: .row s2 29 6 [[.int .i64 0, .int .u64 0, .int .u64 0, .int .u64 0, .int .u64 0, .nil]] :: .row s1 29 6 [[.int .i64 r.kind, .int .u64 r.set.w0, .int .u64 r.set.w1, .int .u64 r.set.w2, .int .u64 r.set.w3, .list 6 (r.args.map Rx.cells)]] :: es ∧ Knows f [(1, .ptr es.length s1 0 0), (2, .ptr (es.length + 1) s2 0 0), (3, .own (es.length + 2) s3), (4, .int .i64 k)]) (r.args.length) (⟨0, s3, rfl, Nat.zero_le _, rfl, by simp only [Knows, put, upd_apply, Nat.reduceEqDiff, ↓reduceIte, and_true, true_and, eq_self] <;> and_intros <;> rfl⟩) ?_
     rintro m f es' ⟨k, s3, rfl, hk1, rfl, hk⟩
     refine w_pins _ (Sub.refl _) (hk) ?_
     simp only [pins]
     refine w_seq ?_
     refine w_seq ?_
     refine w_region ?_
     refine l_cons rfl (p_move ?_)
     refine l_cons rfl (p_fap fa_29_2 ?_)
     refine l_cons rfl (p_loadp ty_27 ?_)
     first | refine l_cons rfl (p_lenl sl_27 ?_) | refine l_cons rfl (p_leno sl_27 ?_) | refine l_cons rfl (p_lenn sl_27 ?_)
     refine l_cons rfl (p_cmp ?_)
     refine l_nil ?_
     refine k_seq_normal ?_
     refine w_b (fun h5 => ?_) (fun h5 => ?_)
     ·skip
      have h5' := h5; (try simp only [decide_eq_true_eq, decide_eq_false_iff_not, Bool.not_eq_true', Bool.not_false, Bool.not_true, Bool.not_eq_false'] at h5')
      refine w_skip ?_
      refine k_seq_normal ?_
      refine w_seq ?_
      refine w_block ?_
      refine w_seq ?_
      refine w_region ?_
      refine l_cons rfl (p_fap fa_29_2 ?_)
      refine l_cons rfl (p_loadp ty_27 ?_)
      refine l_cons rfl (p_move ?_)
      first | refine l_cons rfl (p_ixl sl_27 ?_) | refine l_cons rfl (p_ixo sl_27 ?_)
      first | refine l_cons rfl (p_fap fa_29_0 ?_) | refine l_cons rfl (p_faf fa_29_0 ?_)
      first | refine l_cons rfl (p_loadf ty_3 ?_) | refine l_cons rfl (p_loadp ty_3 ?_)
      refine l_cons rfl (p_cmp ?_)
      refine l_nil ?_
      refine k_seq_normal ?_
      refine w_b (fun h6 => ?_) (fun h6 => ?_)
      ·skip
       have h6' := h6; (try simp only [decide_eq_true_eq, decide_eq_false_iff_not, Bool.not_eq_true', Bool.not_false, Bool.not_true, Bool.not_eq_false'] at h6')
       have hcl := catOuts_nodes (r.args.take k)
       have hcl2 := Rx.len_le (catOuts (r.args.take k))
       have hcl3 := Rx.nodesL_le r.args k
       refine w_region ?_
       refine l_cons rfl (p_move ?_)
       refine l_cons rfl (p_fap fa_29_2 ?_)
       refine l_cons rfl (p_loadp ty_27 ?_)
       refine l_cons rfl (p_move ?_)
       first | refine l_cons rfl (p_ixl sl_27 ?_) | refine l_cons rfl (p_ixo sl_27 ?_)
       first | refine l_cons rfl (p_loadf ty_29 ?_) | refine l_cons rfl (p_loadp ty_29 ?_)
       refine l_cons rfl (p_buildList sl_27 ze_29 ?_)
       refine l_cons rfl (p_append sl_27 by_29 ze_29 (fun s38 => ?_) (hb := by simp only [List.length_map, List.length_take, List.length_drop, List.length_append, List.length_cons, List.length_nil, most]; omega))
       refine l_cons rfl (p_assign ?_)
       refine l_nil ?_
       refine k_blk_normal ?_
       refine k_seq_normal ?_
       refine w_region ?_
       refine l_cons rfl (p_move ?_)
       refine l_cons rfl (p_arith ?_)
       refine l_cons rfl (p_assign ?_)
       refine l_nil ?_
       refine k_seq_normal ?_
       first
       | exact ⟨r.args.length - (k + 1), by omega, k + 1, s38, rfl, by omega, by rw [catOuts_succ _ (by omega), if_neg (by simp_all), List.map_append] <;> rfl, by simp only [Knows, put, upd_apply, Nat.reduceEqDiff, ↓reduceIte, and_true, true_and, eq_self] <;> and_intros <;> rfl⟩
       | exact ⟨r.args.length - (k + 1), by omega, k + 1, s3, rfl, by omega, by rw [catOuts_succ _ (by omega), if_pos (by simp_all), List.append_nil] <;> rfl, by simp only [Knows, put, upd_apply, Nat.reduceEqDiff, ↓reduceIte, and_true, true_and, eq_self] <;> and_intros <;> rfl⟩
      ·skip
       have h6' := h6; (try simp only [decide_eq_true_eq, decide_eq_false_iff_not, Bool.not_eq_true', Bool.not_false, Bool.not_true, Bool.not_eq_false'] at h6')
       refine w_skip ?_
       refine k_blk_normal ?_
       refine k_seq_normal ?_
       refine w_region ?_
       refine l_cons rfl (p_move ?_)
       refine l_cons rfl (p_arith ?_)
       refine l_cons rfl (p_assign ?_)
       refine l_nil ?_
       refine k_seq_normal ?_
       first
       | exact ⟨r.args.length - (k + 1), by omega, k + 1, s38, rfl, by omega, by rw [catOuts_succ _ (by omega), if_neg (by simp_all), List.map_append] <;> rfl, by simp only [Knows, put, upd_apply, Nat.reduceEqDiff, ↓reduceIte, and_true, true_and, eq_self] <;> and_intros <;> rfl⟩
       | exact ⟨r.args.length - (k + 1), by omega, k + 1, s3, rfl, by omega, by rw [catOuts_succ _ (by omega), if_pos (by simp_all), List.append_nil] <;> rfl, by simp only [Knows, put, upd_apply, Nat.reduceEqDiff, ↓reduceIte, and_true, true_and, eq_self] <;> and_intros <;> rfl⟩
     ·skip
      have h5' := h5; (try simp only [decide_eq_true_eq, decide_eq_false_iff_not, Bool.not_eq_true', Bool.not_false, Bool.not_true, Bool.not_eq_false'] at h5')
      refine w_exit ?_
      refine k_seq_exit ?_
      refine k_seq_exit ?_
      refine k_blk_here ?_
      refine k_seq_normal ?_
      refine w_seq ?_
      refine w_freezeTop 3 ?_ (hclean := cleans_rx _)
      obtain rfl : k = r.args.length := by omega
      rw [List.take_length]
      refine w_region ?_
      refine l_cons rfl (p_move ?_)
      refine l_cons rfl (p_lenl sl_27 ?_)
      refine l_cons rfl (p_fap fa_29_2 ?_)
      refine l_cons rfl (p_loadp ty_27 ?_)
      first | refine l_cons rfl (p_lenl sl_27 ?_) | refine l_cons rfl (p_leno sl_27 ?_) | refine l_cons rfl (p_lenn sl_27 ?_)
      refine l_cons rfl (p_cmp ?_)
      refine l_nil ?_
      refine k_seq_normal ?_
      refine w_b (fun h7 => ?_) (fun h7 => ?_)
      ·skip
       have h7' := h7; (try simp only [decide_eq_true_eq, decide_eq_false_iff_not, Bool.not_eq_true', Bool.not_false, Bool.not_true, Bool.not_eq_false'] at h7')
       refine w_seq ?_
       have hcs := catOuts_less (l := r.args) (by omega)
       obtain ⟨m, rfl⟩ : ∃ m, n = m + 1 := ⟨n - 1, by omega⟩
       refine w_region ?_
       refine l_cons rfl (p_move ?_)
       refine l_cons rfl (p_callr en_40 (refAlt (catOuts r.args) (fun x hx => ho.args x (catOuts_mem hx)) (by omega)) ?_)
       refine l_cons rfl (p_callr en_41 (ih m (by omega) (altR (catOuts r.args)) _ (by have := altR_nodes (catOuts r.args); omega) (by omega) (altR_ok fun x hx => ho.args x (catOuts_mem hx))) ?_)
       refine l_cons rfl (p_store ty_29 ?_)
       refine l_nil ?_
       refine k_seq_normal ?_
       refine w_ret ?_
       refine k_blk_ret ?_
       refine k_seq_ret ?_
       rw [star_alt (by omega) (by omega)]
       exact retc rfl ty_29 (by first | exact Sub.refl _ | exact sub1 _ _ | exact sub2 _ _ _ | exact sub3 _ _ _ _ | exact sub4 _ _ _ _ _ | exact sub5 _ _ _ _ _ _) ⟨rfl, rfl⟩
      ·skip
       have h7' := h7; (try simp only [decide_eq_true_eq, decide_eq_false_iff_not, Bool.not_eq_true', Bool.not_false, Bool.not_true, Bool.not_eq_false'] at h7')
       refine w_skip ?_
       refine k_blk_normal ?_
       refine k_seq_normal ?_
       refine w_seq ?_
       refine w_region ?_
       refine l_cons rfl (p_loadp ty_29 ?_)
       refine l_cons rfl (p_callr en_63 (cells1 (refCopy _ r _ (Nat.le_refl _) (by omega))) ?_)
       refine l_cons rfl (p_buildList sl_27 ze_29 ?_)
       refine l_cons rfl (p_build ze_29 pl_29 ?_)
       refine l_cons rfl (p_store ty_29 ?_)
       refine l_nil ?_
       refine k_seq_normal ?_
       refine w_ret ?_
       rw [star_else (by omega) (by omega), Rx.cells_eq]
       exact retc rfl ty_29 (by first | exact Sub.refl _ | exact sub1 _ _ | exact sub2 _ _ _ | exact sub3 _ _ _ _ | exact sub4 _ _ _ _ _ | exact sub5 _ _ _ _ _ _) ⟨rfl, rfl⟩
    ·skip
     have h4' := h4; (try simp only [decide_eq_true_eq, decide_eq_false_iff_not, Bool.not_eq_true', Bool.not_false, Bool.not_true, Bool.not_eq_false'] at h4')
     refine w_skip ?_
     refine k_blk_normal ?_
     refine k_seq_normal ?_
     refine w_seq ?_
     refine w_region ?_
     refine l_cons rfl (p_loadp ty_29 ?_)
     refine l_cons rfl (p_callr en_63 (cells1 (refCopy _ r _ (Nat.le_refl _) (by omega))) ?_)
     refine l_cons rfl (p_buildList sl_27 ze_29 ?_)
     refine l_cons rfl (p_build ze_29 pl_29 ?_)
     refine l_cons rfl (p_store ty_29 ?_)
     refine l_nil ?_
     refine k_seq_normal ?_
     refine w_ret ?_
     rw [star_else (by omega) (by omega), Rx.cells_eq]
     exact retc rfl ty_29 (by first | exact Sub.refl _ | exact sub1 _ _ | exact sub2 _ _ _ | exact sub3 _ _ _ _ | exact sub4 _ _ _ _ _ | exact sub5 _ _ _ _ _ _) ⟨rfl, rfl⟩
theorem refStarR {w0 : World} {es : List Ent} (r : Rx) (hn : r.nodes ≤ 2000) (ho : r.ok) : ACalls Tryd.prog w0 41 [.agg r.cells] es fun v es' => v = .agg (starR r).cells ∧ es' = es := refStarN 1999 r es hn (by omega) ho
end Go.Proofs.YtfdgbghlanbddaaDoor.Av
set_option linter.unusedVariables false
set_option linter.unusedSimpArgs false
set_option maxRecDepth 8000
namespace Go.Proofs.YtfdgbghlanbddaaDoor.Av
open Go.RowKit Go.Proofs
/-- The numbers that are left. -/
def PK (es : List Ent) (ip sp : Nat) (q : List Int) : Prop := ∃ (l : List Int) (n : Nat), n ≤ l.length ∧ q = l.drop n ∧ bytesOk l ∧ l.length ≤ 1000000 ∧ at_ es ip = some (.row sp 89 2 [[bytesAV l, .int .i64 (n : Int)]])
theorem PK.mk' {es : List Ent} {ip sp n : Nat} {l : List Int} (h1 : n ≤ l.length) (h2 : bytesOk l) (h3 : l.length ≤ 1000000) (h4 : at_ es ip = some (.row sp 89 2 [[bytesAV l, .int .i64 (n : Int)]])) : PK es ip sp (l.drop n) := ⟨l, n, h1, rfl, h2, h3, h4⟩
theorem PK.lt {es : List Ent} {ip sp : Nat} {q : List Int} (h : PK es ip sp q) : ip < es.length := by
 obtain ⟨_, _, _, _, _, _, h⟩ := h
 exact at_lt h
theorem PK.push {es : List Ent} {ip sp : Nat} {q : List Int} (x : Ent) (h : PK es ip sp q) : PK (x :: es) ip sp q := by
 obtain ⟨l, n, h1, h2, h3, h4, h5⟩ := h
 exact ⟨l, n, h1, h2, h3, h4, at_miss _ h5⟩
theorem PK.bytes {es : List Ent} {ip sp : Nat} {q : List Int} (h : PK es ip sp q) : bytesOk q := by
 obtain ⟨l, n, _, rfl, h3, _, _⟩ := h
 exact fun b hb => h3 b (List.mem_of_mem_drop hb)
/-- From es on to es': all else is al' it was. -/
def PG (es es' : List Ent) (ip sp : Nat) (q : List Int) : Prop := PK es' ip sp q ∧ (∀ id, id ≠ ip → id < es.length → at_ es' id = at_ es id) ∧ es.length ≤ es'.length
theorem PG.refl {es : List Ent} {ip sp : Nat} {q : List Int} (h : PK es ip sp q) : PG es es ip sp q := ⟨h, fun _ _ _ => rfl, Nat.le_refl _⟩
theorem PG.trans {a b c : List Ent} {ip sp : Nat} {q1 q2 : List Int} (h : PG a b ip sp q1) (k : PG b c ip sp q2) : PG a c ip sp q2 :=
 ⟨k.1, fun id h1 h2 => (k.2.1 id h1 (Nat.lt_of_lt_of_le h2 h.2.2)).trans (h.2.1 id h1 h2), Nat.le_trans h.2.2 k.2.2⟩
theorem PG.pop {x : Ent} {es es' : List Ent} {ip sp : Nat} {q : List Int} (h : PG (x :: es) es' ip sp q) (hl : ip < es.length) : PG es es' ip sp q :=
 ⟨h.1, fun id h1 h2 => (h.2.1 id h1 (by simp only [List.length_cons]; omega)).trans (at_push x h2), by have := h.2.2; simp only [List.length_cons] at this; omega⟩
theorem PG.top {x : Ent} {es es' : List Ent} {ip sp : Nat} {q : List Int} (h : PG (x :: es) es' ip sp q) (hl : ip < es.length) : at_ es' es.length = some x :=
 (h.2.1 es.length (by omega) (by simp)).trans (at_hit _ _)
theorem PG.put {es es' : List Ent} {ip sp : Nat} {q : List Int} (h : PG es es' ip sp q) {id : Nat} (hid : es.length ≤ id) (y : Ent) (hl : ip < es.length := by omega) : PG es (setAt es' id y) ip sp q := by
 obtain ⟨⟨l, n, h1, h2, h3, h4, h5⟩, h6, h7⟩ := h
 exact ⟨⟨l, n, h1, h2, h3, h4, by rw [at_setAt_ne _ (by omega)]; exact h5⟩, fun i hi1 hi2 => by rw [at_setAt_ne _ (by omega)]; exact h6 i hi1 hi2, by rw [setAt_len]; exact h7⟩
theorem PG.up {es es' : List Ent} {ip sp : Nat} {q : List Int} (x : Ent) (h : PG es es' ip sp q) : PG es (x :: es') ip sp q :=
 ⟨h.1.push x, fun id h1 h2 => (at_push x (Nat.lt_of_lt_of_le h2 h.2.2)).trans (h.2.1 id h1 h2), by have := h.2.2; simp only [List.length_cons]; omega⟩
theorem pg_next {es : List Ent} {ip sp n : Nat} {l : List Int} (h1 : n < l.length) (h2 : bytesOk l) (h3 : l.length ≤ 1000000) (h4 : at_ es ip = some (.row sp 89 2 [[bytesAV l, .int .i64 (n : Int)]])) :
  PG es (setAt es ip (.row sp 89 2 [[bytesAV l, .int .i64 ((n : Int) + 1)]])) ip sp (l.drop n).tail := by
 refine ⟨⟨l, n + 1, by omega, by rw [List.tail_drop], h2, h3, at_setAt_same _ h4⟩, fun id h _ => at_setAt_ne _ h, by rw [setAt_len]; exact Nat.le_refl _⟩
theorem num_end {l : List Int} {n : Nat} {m : Int} (h : l.length ≤ n) : num m (l.drop n) = 0 := by
 rw [List.drop_eq_nil_of_le h]
 simp [num]
theorem num_at {l : List Int} {n : Nat} {m : Int} (h : n < l.length) : num m (l.drop n) = l[n] % m := by
 rw [drop_cons h]
 rfl
theorem rem_pos {x m : Int} (h0 : 0 ≤ x) (hm : 0 < m) : arithI .rem .i64 x m = some (x % m) := by
 have : x.tmod m = x % m := Int.tmod_eq_emod_of_nonneg h0
 simp only [arithI, this]
 rw [if_neg (by omega)]
theorem row_u8 {l : List Int} {k : Nat} (h : k < l.length) : (l.map fun n => [AV.int .u8 n])[k]? = some [.int .u8 l[k]] := by simp [h]
theorem one_byte {b : Int} (h : 0 ≤ b ∧ b < 256) : ∀ x ∈ [b], 0 ≤ x ∧ x < 256 := fun x hx => by
 simp only [List.mem_cons, List.not_mem_nil, or_false] at hx
 omega
theorem three_bytes {a b c : Int} (h0 : 0 ≤ a ∧ a < 256) (h1 : 0 ≤ b ∧ b < 256) (h2 : 0 ≤ c ∧ c < 256) : ∀ x ∈ [a, b, c], 0 ≤ x ∧ x < 256 := fun x hx => by
 simp only [List.mem_cons, List.not_mem_nil, or_false] at hx
 omega
theorem pSet_0 {q : List Int} (h : num 8 q = 0) : pSet q = (rangeW 97 100, q.tail) := by unfold pSet; rw [if_pos h]
theorem pSet_1 {q : List Int} (h : num 8 q = 1) : pSet q = (rangeW (num 256 q.tail) (num 256 q.tail.tail), q.tail.tail.tail) := by unfold pSet; rw [if_neg (by omega), if_pos h]
theorem pSet_2 {q : List Int} (h : num 8 q = 2) : pSet q = (notW (ofW [97 + num 4 q.tail]), q.tail.tail) := by unfold pSet; rw [if_neg (by omega), if_neg (by omega), if_pos h]
theorem pSet_3 {q : List Int} (h : num 8 q = 3) : pSet q = (ofW [97 + num 4 q.tail, 97 + num 4 q.tail.tail, num 256 q.tail.tail.tail], q.tail.tail.tail.tail) := by unfold pSet; rw [if_neg (by omega), if_neg (by omega), if_neg (by omega), if_pos h]
theorem pSet_4 {q : List Int} (h : num 8 q = 4) : pSet q = (rangeW 0 255, q.tail) := by unfold pSet; rw [if_neg (by omega), if_neg (by omega), if_neg (by omega), if_neg (by omega), if_pos h]
theorem pSet_5 {q : List Int} (h : ¬ num 8 q = 0 ∧ ¬ num 8 q = 1 ∧ ¬ num 8 q = 2 ∧ ¬ num 8 q = 3 ∧ ¬ num 8 q = 4) : pSet q = (ofW [97 + num 4 q.tail], q.tail.tail) := by unfold pSet; rw [if_neg (by omega), if_neg (by omega), if_neg (by omega), if_neg (by omega), if_neg (by omega)]
theorem num_walk {w0 : World} {es : List Ent} {ip sp : Nat} {q : List Int} (m : Int) (hm : 0 < m) (h : PK es ip sp q) : ACalls Tryd.prog w0 70 [.ptr ip sp 0 0, .int .i64 m] es fun v es' => v = .int .i64 (num m q) ∧ PG es es' ip sp q.tail := by
 obtain ⟨l, n, hnl, rfl, hbl, hll, hp⟩ := h
 have hq0 := PK.mk' hnl hbl hll hp
 refine calls2 (N := 36) Tryd.func70 rfl rfl (by decide) ?_
 refine w_seq ?_
 refine w_region ?_
 refine l_cons rfl (p_assign ?_)
 refine l_nil ?_
 refine k_seq_normal ?_
 refine w_seq ?_
 refine w_seq ?_
 refine w_drawn 9 [] (fun e => at_ e ip = some (.row sp 89 2 [[bytesAV l, .int .i64 (n : Int)]])) mixed (by kernel_rfl) hp ?_
 refine q1 0 (hg := rfl) (hu := rfl) (h := by rintro f _ hG; exact p_move ⟨rfl, rfl⟩) (k := ?_)
 first | refine q1 5 (hg := rfl) (hu := rfl) (h := by rintro f _ hG; exact p_ncp ⟨rfl, rfl⟩) (k := ?_) | refine q1 5 (hg := rfl) (hu := rfl) (h := by rintro f _ hG; exact p_ncf ⟨rfl, rfl⟩) (k := ?_)
 refine q1 6 (hg := rfl) (hu := rfl) (h := by rintro f _ hG; exact p_fap fa_89_1 ⟨rfl, rfl⟩) (k := ?_)
 refine q1 7 (hg := rfl) (hu := rfl) (h := by rintro f _ hG; exact p_loadp ty_3 ⟨rfl, rfl⟩) (k := ?_)
 refine q1 0 (hg := rfl) (hu := rfl) (h := by rintro f _ hG; exact p_move ⟨rfl, rfl⟩) (k := ?_)
 first | refine q1 9 (hg := rfl) (hu := rfl) (h := by rintro f _ hG; exact p_ncp ⟨rfl, rfl⟩) (k := ?_) | refine q1 9 (hg := rfl) (hu := rfl) (h := by rintro f _ hG; exact p_ncf ⟨rfl, rfl⟩) (k := ?_)
 refine q1 10 (hg := rfl) (hu := rfl) (h := by rintro f _ hG; exact p_fap fa_89_0 ⟨rfl, rfl⟩) (k := ?_)
 refine q1 11 (hg := rfl) (hu := rfl) (h := by rintro f _ hG; exact p_loadp ty_22 (a := .list 1 (l.map fun n => [.int .u8 n])) ⟨rfl, rfl⟩) (k := ?_)
 refine q1 12 (hg := rfl) (hu := rfl) (h := by rintro f _ hG; exact p_lenl sl_22 ⟨rfl, rfl⟩) (k := ?_)
 refine q_end ?_
 refine m_end ?_
 refine l_cons rfl (p_cmp ?_)
 refine l_nil ?_
 refine k_seq_normal ?_
 refine w_b (fun h1 => ?_) (fun h1 => ?_)
 ·skip
  have h1' := h1; (try simp only [decide_eq_true_eq, decide_eq_false_iff_not, Bool.not_eq_true', Bool.not_false, Bool.not_true, Bool.not_eq_false'] at h1')
  refine w_seq ?_
  refine w_region ?_
  refine l_cons rfl (p_assign ?_)
  refine l_nil ?_
  refine k_seq_normal ?_
  refine w_ret ?_
  refine k_seq_ret ?_
  exact ret1 rfl (by simp only [ev_tmp, ev_const, ev_func, ofConst_int, ofConst_bool, ofConst_str, ofConst_nil, upd_apply, Nat.reduceEqDiff, ↓reduceIte] <;> exact rfl) (Sub.refl _) ⟨by rw [num_end (by omega)], by rw [List.drop_eq_nil_of_le (by omega)] at hq0 ⊢; exact PG.refl hq0⟩
 ·skip
  have h1' := h1; (try simp only [decide_eq_true_eq, decide_eq_false_iff_not, Bool.not_eq_true', Bool.not_false, Bool.not_true, Bool.not_eq_false'] at h1')
  refine w_skip ?_
  refine k_seq_normal ?_
  refine w_seq ?_
  refine w_region ?_
  refine l_cons rfl (p_move ?_)
  first | refine l_cons rfl (p_ncp ?_) | refine l_cons rfl (p_ncf ?_)
  refine l_cons rfl (p_fap fa_89_1 ?_)
  refine l_cons rfl (p_loadp ty_3 ?_)
  refine l_cons rfl (p_arith ?_)
  first | refine l_cons rfl (p_ncp ?_) | refine l_cons rfl (p_ncf ?_)
  refine l_cons rfl (p_fap fa_89_1 ?_)
  refine l_cons rfl (p_store ty_3 ?_)
  have hp2 := at_setAt_same (.row sp 89 2 [[bytesAV l, .int .i64 ((n : Int) + 1)]]) hp
  refine l_nil ?_
  refine k_seq_normal ?_
  refine w_seq ?_
  refine w_drawn 13 [] (fun e => at_ e ip = some (.row sp 89 2 [[bytesAV l, .int .i64 ((n : Int) + 1)]])) mixed (by kernel_rfl) hp2 ?_
  refine q1 0 (hg := rfl) (hu := rfl) (h := by rintro f _ hG; exact p_move ⟨rfl, rfl⟩) (k := ?_)
  first | refine q1 22 (hg := rfl) (hu := rfl) (h := by rintro f _ hG; exact p_ncp ⟨rfl, rfl⟩) (k := ?_) | refine q1 22 (hg := rfl) (hu := rfl) (h := by rintro f _ hG; exact p_ncf ⟨rfl, rfl⟩) (k := ?_)
  refine q1 23 (hg := rfl) (hu := rfl) (h := by rintro f _ hG; exact p_fap fa_89_0 ⟨rfl, rfl⟩) (k := ?_)
  refine q1 24 (hg := rfl) (hu := rfl) (h := by rintro f _ hG; exact p_loadp ty_22 (a := .list 1 (l.map fun n => [.int .u8 n])) ⟨rfl, rfl⟩) (k := ?_)
  refine q1 0 (hg := rfl) (hu := rfl) (h := by rintro f _ hG; exact p_move ⟨rfl, rfl⟩) (k := ?_)
  first | refine q1 26 (hg := rfl) (hu := rfl) (h := by rintro f _ hG; exact p_ncp ⟨rfl, rfl⟩) (k := ?_) | refine q1 26 (hg := rfl) (hu := rfl) (h := by rintro f _ hG; exact p_ncf ⟨rfl, rfl⟩) (k := ?_)
  refine q1 27 (hg := rfl) (hu := rfl) (h := by rintro f _ hG; exact p_fap fa_89_1 ⟨rfl, rfl⟩) (k := ?_)
  refine q1 28 (hg := rfl) (hu := rfl) (h := by rintro f _ hG; exact p_loadp ty_3 ⟨rfl, rfl⟩) (k := ?_)
  refine q1 29 (hg := rfl) (hu := rfl) (h := by rintro f _ hG; exact p_arith ⟨rfl, rfl⟩) (k := ?_)
  refine q2 25 30 (hg := rfl) (hu := rfl) (h := by rintro f _ hG; exact p_ixl sl_22 (a := .fptr 1 (l.map fun n => [.int .u8 n]) n 0) ⟨rfl, rfl⟩ (h0 := by omega) (h1 := by simp only [List.length_map]; omega) (ho := by congr 1; omega)) (k := ?_)
  refine q1 31 (hg := rfl) (hu := rfl) (h := by rintro f _ hG; exact p_loadf ty_5 (a := .int .u8 (l[n]'(by omega))) ⟨rfl, rfl⟩ (hr := row_u8 (by omega)) (hl := Nat.le_refl 1) (ha := rfl)) (k := ?_)
  refine q1 32 (hg := rfl) (hu := rfl) (h := by rintro f _ hG; exact p_conv in_5 in_3 ⟨rfl, rfl⟩ (hb := wrap_i64 (n := l[n]'(by omega)) (by have := hbl _ (List.getElem_mem (l := l) (n := n) (by omega)); omega) (by have := hbl _ (List.getElem_mem (l := l) (n := n) (by omega)); omega))) (k := ?_)
  refine q1 1 (hg := rfl) (hu := rfl) (h := by rintro f _ hG; exact p_move ⟨rfl, rfl⟩) (k := ?_)
  refine q_end ?_
  refine m_end ?_
  refine l_cons rfl (p_arith ?_ (hb := rem_pos (hbl _ (List.getElem_mem (l := l) (n := n) (by omega))).1 hm))
  refine l_cons rfl (p_assign ?_)
  refine l_nil ?_
  refine k_seq_normal ?_
  refine w_ret ?_
  exact ret1 rfl (by simp only [ev_tmp, ev_const, ev_func, ofConst_int, ofConst_bool, ofConst_str, ofConst_nil, upd_apply, Nat.reduceEqDiff, ↓reduceIte] <;> exact rfl) (Sub.refl _) ⟨by rw [num_at (by omega)], pg_next (by omega) hbl hll hp⟩
theorem over_walk {w0 : World} {es : List Ent} {ip sp : Nat} {q : List Int} (h : PK es ip sp q) : ACalls Tryd.prog w0 106 [.ptr ip sp 0 0] es fun v es' => v = .bool (decide (q = [])) ∧ es' = es := by
 obtain ⟨l, n, hnl, rfl, hbl, hll, hp⟩ := h
 refine calls1 (N := 13) Tryd.func106 rfl rfl (by decide) ?_
 refine w_seq ?_
 refine w_region ?_
 refine l_cons rfl (p_assign ?_)
 refine l_nil ?_
 refine k_seq_normal ?_
 refine w_seq ?_
 refine w_drawn 9 [] (fun e => at_ e ip = some (.row sp 89 2 [[bytesAV l, .int .i64 (n : Int)]])) mixed (by kernel_rfl) hp ?_
 refine q1 0 (hg := rfl) (hu := rfl) (h := by rintro f _ hG; exact p_move ⟨rfl, rfl⟩) (k := ?_)
 first | refine q1 3 (hg := rfl) (hu := rfl) (h := by rintro f _ hG; exact p_ncp ⟨rfl, rfl⟩) (k := ?_) | refine q1 3 (hg := rfl) (hu := rfl) (h := by rintro f _ hG; exact p_ncf ⟨rfl, rfl⟩) (k := ?_)
 refine q1 4 (hg := rfl) (hu := rfl) (h := by rintro f _ hG; exact p_fap fa_89_1 ⟨rfl, rfl⟩) (k := ?_)
 refine q1 5 (hg := rfl) (hu := rfl) (h := by rintro f _ hG; exact p_loadp ty_3 ⟨rfl, rfl⟩) (k := ?_)
 refine q1 0 (hg := rfl) (hu := rfl) (h := by rintro f _ hG; exact p_move ⟨rfl, rfl⟩) (k := ?_)
 first | refine q1 7 (hg := rfl) (hu := rfl) (h := by rintro f _ hG; exact p_ncp ⟨rfl, rfl⟩) (k := ?_) | refine q1 7 (hg := rfl) (hu := rfl) (h := by rintro f _ hG; exact p_ncf ⟨rfl, rfl⟩) (k := ?_)
 refine q1 8 (hg := rfl) (hu := rfl) (h := by rintro f _ hG; exact p_fap fa_89_0 ⟨rfl, rfl⟩) (k := ?_)
 refine q1 9 (hg := rfl) (hu := rfl) (h := by rintro f _ hG; exact p_loadp ty_22 (a := .list 1 (l.map fun n => [.int .u8 n])) ⟨rfl, rfl⟩) (k := ?_)
 refine q1 10 (hg := rfl) (hu := rfl) (h := by rintro f _ hG; exact p_lenl sl_22 ⟨rfl, rfl⟩) (k := ?_)
 refine q_end ?_
 refine m_end ?_
 refine l_cons rfl (p_cmp ?_)
 refine l_cons rfl (p_assign ?_)
 refine l_nil ?_
 refine k_seq_normal ?_
 refine w_ret ?_
 exact ret1 rfl (by simp only [ev_tmp, ev_const, ev_func, ofConst_int, ofConst_bool, ofConst_str, ofConst_nil, upd_apply, Nat.reduceEqDiff, ↓reduceIte] <;> exact rfl) (Sub.refl _) ⟨by congr 1; rw [decide_eq_decide, List.drop_eq_nil_iff]; omega, rfl⟩
theorem made_walk {w0 : World} {es : List Ent} (l : List Int) (hl : l.length ≤ 1000000) (hb : bytesOk l) : ACalls Tryd.prog w0 24 [bytesAV l] es fun v es' => ∃ s, v = .ptr es.length s 0 0 ∧ es' = .row s 89 2 [[bytesAV l, .int .i64 0]] :: es := by
 refine calls1 (N := 6) Tryd.func24 rfl rfl (by decide) ?_
 refine w_seq ?_
 refine w_region ?_
 refine l_cons rfl (p_assign ?_)
 refine l_nil ?_
 refine k_seq_normal ?_
 refine w_seq ?_
 refine w_region ?_
 refine l_cons rfl (p_move ?_)
 refine l_cons rfl (p_build ze_89 pl_89 ?_)
 refine l_cons rfl (p_box fun s5 => ?_)
 refine l_cons rfl (p_assign ?_)
 refine l_nil ?_
 refine k_seq_normal ?_
 refine w_ret ?_
 exact ret1 rfl (by simp only [ev_tmp, ev_const, ev_func, ofConst_int, ofConst_bool, ofConst_str, ofConst_nil, upd_apply, Nat.reduceEqDiff, ↓reduceIte] <;> exact rfl) (Sub.refl _) ⟨_, rfl, rfl⟩
theorem set_walk {w0 : World} {es : List Ent} {ip sp : Nat} {q : List Int} (h : PK es ip sp q) : ACalls Tryd.prog w0 107 [.ptr ip sp 0 0] es fun v es' => v = .agg (pSet q).1.row ∧ PG es es' ip sp (pSet q).2 := by
 have hipl := h.lt
 refine calls1 (N := 50) Tryd.func107 rfl rfl (by decide) ?_
 refine w_seq ?_
 refine w_region ?_
 refine l_cons rfl (p_alloc ze_26 fun s2 => ?_)
 refine l_nil ?_
 refine k_seq_normal ?_
 refine w_seq ?_
 refine w_seq ?_
 refine w_region ?_
 refine l_cons rfl (p_move ?_)
 refine l_cons rfl (p_call en_70 ((num_walk 8 (by omega) (h.push _)).mono ?_))
 rintro _ es1 ⟨rfl, hg1⟩
 have hn1 := num_range (q := q) (m := 8) (by omega)
 have hgt := hg1
 have hs2 := hgt.top hipl
 refine l_nil ?_
 refine k_seq_normal ?_
 refine w_block ?_
 refine w_seq ?_
 refine w_region ?_
 refine l_cons rfl (p_cmp ?_)
 refine l_cons rfl (p_assign ?_)
 refine l_nil ?_
 refine k_seq_normal ?_
 refine w_b (fun h1 => ?_) (fun h1 => ?_)
 ·skip
  have h1' := h1; (try simp only [decide_eq_true_eq, decide_eq_false_iff_not, Bool.not_eq_true', Bool.not_false, Bool.not_true, Bool.not_eq_false'] at h1')
  refine w_seq ?_
  refine w_region ?_
  refine l_cons rfl (p_callr en_143 (refRange 97 100 (by omega) (by omega)) ?_)
  refine l_cons rfl (p_store ty_26 ?_)
  refine l_nil ?_
  refine k_seq_normal ?_
  refine w_ret ?_
  refine k_blk_ret ?_
  refine k_seq_ret ?_
  rw [pSet_0 (by omega)]
  exact retc (he := loc_base (at_setAt_same _ hs2)) rfl ty_26 (Sub.refl _) ⟨rfl, (hgt.pop hipl).put (Nat.le_refl _) _⟩
 ·skip
  have h1' := h1; (try simp only [decide_eq_true_eq, decide_eq_false_iff_not, Bool.not_eq_true', Bool.not_false, Bool.not_true, Bool.not_eq_false'] at h1')
  refine w_seq ?_
  refine w_region ?_
  refine l_cons rfl (p_cmp ?_)
  refine l_cons rfl (p_assign ?_)
  refine l_nil ?_
  refine k_seq_normal ?_
  refine w_b (fun h2 => ?_) (fun h2 => ?_)
  ·skip
   have h2' := h2; (try simp only [decide_eq_true_eq, decide_eq_false_iff_not, Bool.not_eq_true', Bool.not_false, Bool.not_true, Bool.not_eq_false'] at h2')
   refine w_seq ?_
   refine w_region ?_
   refine l_cons rfl (p_move ?_)
   refine l_cons rfl (p_call en_70 ((num_walk 256 (by omega) hgt.1).mono ?_))
   rintro _ es2 ⟨rfl, hg2⟩
   have hn2 := num_range (q := q.tail) (m := 256) (by omega)
   replace hgt := hgt.trans hg2
   have hs2 := hgt.top hipl
   refine l_cons rfl (p_conv in_3 in_5 ?_ (hb := wrap8 (n := num 256 q.tail) (by omega) (by omega)))
   refine l_cons rfl (p_move ?_)
   refine l_cons rfl (p_call en_70 ((num_walk 256 (by omega) hgt.1).mono ?_))
   rintro _ es3 ⟨rfl, hg3⟩
   have hn3 := num_range (q := q.tail.tail) (m := 256) (by omega)
   replace hgt := hgt.trans hg3
   have hs2 := hgt.top hipl
   refine l_cons rfl (p_conv in_3 in_5 ?_ (hb := wrap8 (n := num 256 q.tail.tail) (by omega) (by omega)))
   refine l_cons rfl (p_callr en_143 (refRange (num 256 q.tail) (num 256 q.tail.tail) hn2 hn3) ?_)
   refine l_cons rfl (p_store ty_26 ?_)
   refine l_nil ?_
   refine k_seq_normal ?_
   refine w_ret ?_
   refine k_blk_ret ?_
   refine k_seq_ret ?_
   rw [pSet_1 (by omega)]
   exact retc (he := loc_base (at_setAt_same _ hs2)) rfl ty_26 (Sub.refl _) ⟨rfl, (hgt.pop hipl).put (Nat.le_refl _) _⟩
  ·skip
   have h2' := h2; (try simp only [decide_eq_true_eq, decide_eq_false_iff_not, Bool.not_eq_true', Bool.not_false, Bool.not_true, Bool.not_eq_false'] at h2')
   refine w_seq ?_
   refine w_region ?_
   refine l_cons rfl (p_cmp ?_)
   refine l_cons rfl (p_assign ?_)
   refine l_nil ?_
   refine k_seq_normal ?_
   refine w_b (fun h3 => ?_) (fun h3 => ?_)
   ·skip
    have h3' := h3; (try simp only [decide_eq_true_eq, decide_eq_false_iff_not, Bool.not_eq_true', Bool.not_false, Bool.not_true, Bool.not_eq_false'] at h3')
    refine w_seq ?_
    refine w_region ?_
    refine l_cons rfl (p_move ?_)
    refine l_cons rfl (p_call en_70 ((num_walk 4 (by omega) hgt.1).mono ?_))
    rintro _ es2 ⟨rfl, hg2⟩
    have hn2 := num_range (q := q.tail) (m := 4) (by omega)
    replace hgt := hgt.trans hg2
    have hs2 := hgt.top hipl
    refine l_cons rfl (p_arith ?_)
    refine l_cons rfl (p_conv in_3 in_5 ?_ (hb := wrap8 (n := 97 + num 4 q.tail) (by omega) (by omega)))
    refine l_cons rfl (p_buildList sl_22 ze_5 ?_)
    refine l_cons rfl (p_callr en_68 (refOf [97 + num 4 q.tail] (one_byte (by omega))) ?_)
    refine l_cons rfl (p_callr en_144 (refNot (ofW [97 + num 4 q.tail]) (ofW_one (by omega) (by omega))) ?_)
    refine l_cons rfl (p_store ty_26 ?_)
    refine l_nil ?_
    refine k_seq_normal ?_
    refine w_ret ?_
    refine k_blk_ret ?_
    refine k_seq_ret ?_
    rw [pSet_2 (by omega)]
    exact retc (he := loc_base (at_setAt_same _ hs2)) rfl ty_26 (Sub.refl _) ⟨rfl, (hgt.pop hipl).put (Nat.le_refl _) _⟩
   ·skip
    have h3' := h3; (try simp only [decide_eq_true_eq, decide_eq_false_iff_not, Bool.not_eq_true', Bool.not_false, Bool.not_true, Bool.not_eq_false'] at h3')
    refine w_seq ?_
    refine w_region ?_
    refine l_cons rfl (p_cmp ?_)
    refine l_cons rfl (p_assign ?_)
    refine l_nil ?_
    refine k_seq_normal ?_
    refine w_b (fun h4 => ?_) (fun h4 => ?_)
    ·skip
     have h4' := h4; (try simp only [decide_eq_true_eq, decide_eq_false_iff_not, Bool.not_eq_true', Bool.not_false, Bool.not_true, Bool.not_eq_false'] at h4')
     refine w_seq ?_
     refine w_region ?_
     refine l_cons rfl (p_move ?_)
     refine l_cons rfl (p_call en_70 ((num_walk 4 (by omega) hgt.1).mono ?_))
     rintro _ es2 ⟨rfl, hg2⟩
     have hn2 := num_range (q := q.tail) (m := 4) (by omega)
     replace hgt := hgt.trans hg2
     have hs2 := hgt.top hipl
     refine l_cons rfl (p_arith ?_)
     refine l_cons rfl (p_conv in_3 in_5 ?_ (hb := wrap8 (n := 97 + num 4 q.tail) (by omega) (by omega)))
     refine l_cons rfl (p_move ?_)
     refine l_cons rfl (p_call en_70 ((num_walk 4 (by omega) hgt.1).mono ?_))
     rintro _ es3 ⟨rfl, hg3⟩
     have hn3 := num_range (q := q.tail.tail) (m := 4) (by omega)
     replace hgt := hgt.trans hg3
     have hs2 := hgt.top hipl
     refine l_cons rfl (p_arith ?_)
     refine l_cons rfl (p_conv in_3 in_5 ?_ (hb := wrap8 (n := 97 + num 4 q.tail.tail) (by omega) (by omega)))
     refine l_cons rfl (p_move ?_)
     refine l_cons rfl (p_call en_70 ((num_walk 256 (by omega) hgt.1).mono ?_))
     rintro _ es4 ⟨rfl, hg4⟩
     have hn4 := num_range (q := q.tail.tail.tail) (m := 256) (by omega)
     replace hgt := hgt.trans hg4
     have hs2 := hgt.top hipl
     refine l_cons rfl (p_conv in_3 in_5 ?_ (hb := wrap8 (n := num 256 q.tail.tail.tail) (by omega) (by omega)))
     refine l_cons rfl (p_buildList sl_22 ze_5 ?_)
     refine l_cons rfl (p_callr en_68 (refOf [97 + num 4 q.tail, 97 + num 4 q.tail.tail, num 256 q.tail.tail.tail] (three_bytes (by omega) (by omega) (by omega))) ?_)
     refine l_cons rfl (p_store ty_26 ?_)
     refine l_nil ?_
     refine k_seq_normal ?_
     refine w_ret ?_
     refine k_blk_ret ?_
     refine k_seq_ret ?_
     rw [pSet_3 (by omega)]
     exact retc (he := loc_base (at_setAt_same _ hs2)) rfl ty_26 (Sub.refl _) ⟨rfl, (hgt.pop hipl).put (Nat.le_refl _) _⟩
    ·skip
     have h4' := h4; (try simp only [decide_eq_true_eq, decide_eq_false_iff_not, Bool.not_eq_true', Bool.not_false, Bool.not_true, Bool.not_eq_false'] at h4')
     refine w_seq ?_
     refine w_region ?_
     refine l_cons rfl (p_cmp ?_)
     refine l_cons rfl (p_assign ?_)
     refine l_nil ?_
     refine k_seq_normal ?_
     refine w_b (fun h5 => ?_) (fun h5 => ?_)
     ·skip
      have h5' := h5; (try simp only [decide_eq_true_eq, decide_eq_false_iff_not, Bool.not_eq_true', Bool.not_false, Bool.not_true, Bool.not_eq_false'] at h5')
      refine w_seq ?_
      refine w_region ?_
      refine l_cons rfl (p_callr en_143 (refRange 0 255 (by omega) (by omega)) ?_)
      refine l_cons rfl (p_store ty_26 ?_)
      refine l_nil ?_
      refine k_seq_normal ?_
      refine w_ret ?_
      refine k_blk_ret ?_
      refine k_seq_ret ?_
      rw [pSet_4 (by omega)]
      exact retc (he := loc_base (at_setAt_same _ hs2)) rfl ty_26 (Sub.refl _) ⟨rfl, (hgt.pop hipl).put (Nat.le_refl _) _⟩
     ·skip
      have h5' := h5; (try simp only [decide_eq_true_eq, decide_eq_false_iff_not, Bool.not_eq_true', Bool.not_false, Bool.not_true, Bool.not_eq_false'] at h5')
      refine w_skip ?_
      refine k_blk_normal ?_
      refine k_seq_normal ?_
      refine w_seq ?_
      refine w_region ?_
      refine l_cons rfl (p_move ?_)
      refine l_cons rfl (p_call en_70 ((num_walk 4 (by omega) hgt.1).mono ?_))
      rintro _ es2 ⟨rfl, hg2⟩
      have hn2 := num_range (q := q.tail) (m := 4) (by omega)
      replace hgt := hgt.trans hg2
      have hs2 := hgt.top hipl
      refine l_cons rfl (p_arith ?_)
      refine l_cons rfl (p_conv in_3 in_5 ?_ (hb := wrap8 (n := 97 + num 4 q.tail) (by omega) (by omega)))
      refine l_cons rfl (p_buildList sl_22 ze_5 ?_)
      refine l_cons rfl (p_callr en_68 (refOf [97 + num 4 q.tail] (one_byte (by omega))) ?_)
      refine l_cons rfl (p_store ty_26 ?_)
      refine l_nil ?_
      refine k_seq_normal ?_
      refine w_ret ?_
      rw [pSet_5 (by omega)]
      exact retc (he := loc_base (at_setAt_same _ hs2)) rfl ty_26 (Sub.refl _) ⟨rfl, (hgt.pop hipl).put (Nat.le_refl _) _⟩
end Go.Proofs.YtfdgbghlanbddaaDoor.Av
set_option linter.unusedVariables false
set_option linter.unusedSimpArgs false
set_option maxRecDepth 8000
namespace Go.Proofs.YtfdgbghlanbddaaDoor.Av
open Go.RowKit Go.Proofs
theorem pRx_leaf {f : Nat} {q : List Int} (h : f = 0 ∨ q.tail = [] ∨ num 9 q < 3) : pRx f q = pLeaf (num 9 q) q.tail := by
 cases f with
 | zero => rfl
 | succ f => rw [pRx, if_pos (h.resolve_left (by omega))]
theorem pRx_cat {g : Nat} {q : List Int} (h : ¬ q.tail = []) (hk : num 9 q = 3 ∨ num 9 q = 4 ∨ num 9 q = 5) : pRx (g + 1) q = (catR [(pRx g q.tail).1, (pRx g (pRx g q.tail).2).1], (pRx g (pRx g q.tail).2).2) := by
 rw [pRx, if_neg (by rintro (e | e); exact h e; omega), if_pos hk]
theorem pRx_alt {g : Nat} {q : List Int} (h : ¬ q.tail = []) (hk : num 9 q = 6 ∨ num 9 q = 7) : pRx (g + 1) q = (altR [(pRx g q.tail).1, (pRx g (pRx g q.tail).2).1], (pRx g (pRx g q.tail).2).2) := by
 rw [pRx, if_neg (by rintro (e | e); exact h e; omega), if_neg (by omega), if_pos hk]
theorem pRx_star {g : Nat} {q : List Int} (h : ¬ q.tail = []) (hk : ¬ num 9 q < 3 ∧ ¬ (num 9 q = 3 ∨ num 9 q = 4 ∨ num 9 q = 5) ∧ ¬ (num 9 q = 6 ∨ num 9 q = 7)) : pRx (g + 1) q = (starR (pRx g q.tail).1, (pRx g q.tail).2) := by
 rw [pRx, if_neg (by rintro (e | e); exact h e; omega), if_neg (by omega), if_neg (by omega)]
theorem pLeaf_set {k : Int} {q : List Int} (h : q = [] ∨ 0 < k) : pLeaf k q = (bytesR (pSet q).1, (pSet q).2) := by unfold pLeaf; rw [if_pos h]
theorem pLeaf_none {k : Int} {q : List Int} (h : ¬ q = []) (hk : ¬ 0 < k) (hn : num 3 q = 0) : pLeaf k q = (noneR, q.tail) := by unfold pLeaf; rw [if_neg (by rintro (e | e); exact h e; omega), if_pos hn]
theorem pLeaf_empty {k : Int} {q : List Int} (h : ¬ q = []) (hk : ¬ 0 < k) (hn : ¬ num 3 q = 0) : pLeaf k q = (emptyR, q.tail) := by unfold pLeaf; rw [if_neg (by rintro (e | e); exact h e; omega), if_neg hn]
theorem rx_walk {w0 : World} : ∀ f : Nat, f ≤ 9 → ∀ (es : List Ent) (ip sp : Nat) (q : List Int) (deep : Int), deep = 9 - f → PK es ip sp q → ACalls Tryd.prog w0 69 [.ptr ip sp 0 0, .int .i64 deep] es fun v es' => v = .agg (pRx f q).1.cells ∧ PG es es' ip sp (pRx f q).2 := by
 intro f
 induction f using Nat.strongRecOn with
 | _ f ih => ?_
 intro hf9 es ip sp q deep hdeep h
 have hipl := h.lt
 have hqb := h.bytes
 refine calls2 (N := 63) Tryd.func69 rfl rfl (by decide) ?_
 refine w_seq ?_
 refine w_region ?_
 refine l_cons rfl (p_alloc ze_29 fun s4 => ?_)
 refine l_nil ?_
 refine k_seq_normal ?_
 refine w_seq ?_
 refine w_region ?_
 refine l_cons rfl (p_move ?_)
 refine l_cons rfl (p_call en_70 ((num_walk 9 (by omega) (h.push _)).mono ?_))
 rintro _ es1 ⟨rfl, hgt⟩
 have hn1 := num_range (q := q) (m := 9) (by omega)
 have hs4 := hgt.top hipl
 refine l_cons rfl (p_assign ?_)
 refine l_nil ?_
 refine k_seq_normal ?_
 refine w_seq ?_
 refine w_seq ?_
 refine w_region ?_
 refine l_cons rfl (p_move ?_)
 refine l_cons rfl (p_callr en_106 (over_walk hgt.1) ?_)
 refine l_cons rfl (p_move ?_)
 refine g_b rfl (fun h1 => ?_) (fun h1 => ?_)
 ·skip
  have h1' := h1; (try simp only [decide_eq_true_eq, decide_eq_false_iff_not, Bool.not_eq_true', Bool.not_false, Bool.not_true, Bool.not_eq_false'] at h1')
  refine (p_move ?_)
  refine g_y rfl h1 (p_cmp ?_)
  refine l_cons rfl (p_pickf h1 ?_)
  refine l_cons rfl (p_move ?_)
  refine g_b rfl (fun h2 => ?_) (fun h2 => ?_)
  ·skip
   have h2' := h2; (try simp only [decide_eq_true_eq, decide_eq_false_iff_not, Bool.not_eq_true', Bool.not_false, Bool.not_true, Bool.not_eq_false'] at h2')
   refine (p_move ?_)
   refine g_y rfl h2 (p_cmp ?_)
   refine l_cons rfl (p_pickf h2 ?_)
   refine l_nil ?_
   refine k_seq_normal ?_
   refine w_b (fun h3 => ?_) (fun h3 => ?_)
   ·skip
    have h3' := h3; (try simp only [decide_eq_true_eq, decide_eq_false_iff_not, Bool.not_eq_true', Bool.not_false, Bool.not_true, Bool.not_eq_false'] at h3')
    refine w_seq ?_
    refine w_block ?_
    refine w_seq ?_
    refine w_region ?_
    refine l_cons rfl (p_move ?_)
    refine l_cons rfl (p_callr en_106 (over_walk hgt.1) ?_)
    refine l_cons rfl (p_move ?_)
    refine g_b rfl (fun h4 => ?_) (fun h4 => ?_)
    ·skip
     have h4' := h4; (try simp only [decide_eq_true_eq, decide_eq_false_iff_not, Bool.not_eq_true', Bool.not_false, Bool.not_true, Bool.not_eq_false'] at h4')
     refine (p_move ?_)
     refine g_y rfl h4 (p_cmp ?_)
     refine l_cons rfl (p_pickf h4 ?_)
     refine l_cons rfl (p_assign ?_)
     refine l_nil ?_
     refine k_seq_normal ?_
     refine w_b (fun h5 => ?_) (fun h5 => ?_)
     ·skip
      have h5' := h5; (try simp only [decide_eq_true_eq, decide_eq_false_iff_not, Bool.not_eq_true', Bool.not_false, Bool.not_true, Bool.not_eq_false'] at h5')
      refine w_seq ?_
      refine w_region ?_
      refine l_cons rfl (p_move ?_)
      refine l_cons rfl (p_call en_107 ((set_walk hgt.1).mono ?_))
      rintro _ es2 ⟨rfl, hg2⟩
      replace hgt := hgt.trans hg2
      have hs4 := hgt.top hipl
      refine l_cons rfl (p_callr en_67 (refBytes (pSet q.tail).1) ?_)
      refine l_cons rfl (p_store ty_29 ?_)
      refine l_nil ?_
      refine k_seq_normal ?_
      refine w_ret ?_
      refine k_blk_ret ?_
      refine k_seq_ret ?_
      refine k_seq_ret ?_
      rw [pRx_leaf (by first | (left; omega) | (right; right; omega) | (right; left; simp_all; done) | (right; left; assumption)), pLeaf_set (by first | (right; omega) | (left; assumption) | (left; simp_all; done))]
      exact retc (he := loc_base (at_setAt_same _ hs4)) rfl ty_29 (Sub.refl _) ⟨rfl, (hgt.pop hipl).put (Nat.le_refl _) _⟩
     ·skip
      have h5' := h5; (try simp only [decide_eq_true_eq, decide_eq_false_iff_not, Bool.not_eq_true', Bool.not_false, Bool.not_true, Bool.not_eq_false'] at h5')
      refine w_seq ?_
      refine w_region ?_
      refine l_cons rfl (p_move ?_)
      refine l_cons rfl (p_call en_70 ((num_walk 3 (by omega) hgt.1).mono ?_))
      rintro _ es2 ⟨rfl, hg2⟩
      replace hgt := hgt.trans hg2
      have hs4 := hgt.top hipl
      refine l_cons rfl (p_cmp ?_)
      refine l_cons rfl (p_assign ?_)
      refine l_nil ?_
      refine k_seq_normal ?_
      refine w_b (fun h6 => ?_) (fun h6 => ?_)
      ·skip
       have h6' := h6; (try simp only [decide_eq_true_eq, decide_eq_false_iff_not, Bool.not_eq_true', Bool.not_false, Bool.not_true, Bool.not_eq_false'] at h6')
       refine w_seq ?_
       refine w_region ?_
       refine l_cons rfl (p_callr en_84 (refNone) ?_)
       refine l_cons rfl (p_store ty_29 ?_)
       refine l_nil ?_
       refine k_seq_normal ?_
       refine w_ret ?_
       refine k_blk_ret ?_
       refine k_seq_ret ?_
       refine k_seq_ret ?_
       rw [pRx_leaf (by first | (left; omega) | (right; right; omega) | (right; left; simp_all; done) | (right; left; assumption)), pLeaf_none (by first | (simp_all; done) | assumption) (by omega) (by omega)]
       exact retc (he := loc_base (at_setAt_same _ hs4)) rfl ty_29 (Sub.refl _) ⟨rfl, (hgt.pop hipl).put (Nat.le_refl _) _⟩
      ·skip
       have h6' := h6; (try simp only [decide_eq_true_eq, decide_eq_false_iff_not, Bool.not_eq_true', Bool.not_false, Bool.not_true, Bool.not_eq_false'] at h6')
       refine w_skip ?_
       refine k_blk_normal ?_
       refine k_seq_normal ?_
       refine w_seq ?_
       refine w_region ?_
       refine l_cons rfl (p_callr en_85 (refEmpty) ?_)
       refine l_cons rfl (p_store ty_29 ?_)
       refine l_nil ?_
       refine k_seq_normal ?_
       refine w_ret ?_
       refine k_seq_ret ?_
       rw [pRx_leaf (by first | (left; omega) | (right; right; omega) | (right; left; simp_all; done) | (right; left; assumption)), pLeaf_empty (by first | (simp_all; done) | assumption) (by omega) (by omega)]
       exact retc (he := loc_base (at_setAt_same _ hs4)) rfl ty_29 (Sub.refl _) ⟨rfl, (hgt.pop hipl).put (Nat.le_refl _) _⟩
    ·skip
     have h4' := h4; (try simp only [decide_eq_true_eq, decide_eq_false_iff_not, Bool.not_eq_true', Bool.not_false, Bool.not_true, Bool.not_eq_false'] at h4')
     refine g_n rfl h4 ?_
     refine l_cons rfl (p_pickt h4 ?_)
     refine l_cons rfl (p_assign ?_)
     refine l_nil ?_
     refine k_seq_normal ?_
     refine w_t rfl ?_
     refine w_seq ?_
     refine w_region ?_
     refine l_cons rfl (p_move ?_)
     refine l_cons rfl (p_call en_107 ((set_walk hgt.1).mono ?_))
     rintro _ es2 ⟨rfl, hg2⟩
     replace hgt := hgt.trans hg2
     have hs4 := hgt.top hipl
     refine l_cons rfl (p_callr en_67 (refBytes (pSet q.tail).1) ?_)
     refine l_cons rfl (p_store ty_29 ?_)
     refine l_nil ?_
     refine k_seq_normal ?_
     refine w_ret ?_
     refine k_blk_ret ?_
     refine k_seq_ret ?_
     refine k_seq_ret ?_
     rw [pRx_leaf (by first | (left; omega) | (right; right; omega) | (right; left; simp_all; done) | (right; left; assumption)), pLeaf_set (by first | (right; omega) | (left; assumption) | (left; simp_all; done))]
     exact retc (he := loc_base (at_setAt_same _ hs4)) rfl ty_29 (Sub.refl _) ⟨rfl, (hgt.pop hipl).put (Nat.le_refl _) _⟩
   ·skip
    have h3' := h3; (try simp only [decide_eq_true_eq, decide_eq_false_iff_not, Bool.not_eq_true', Bool.not_false, Bool.not_true, Bool.not_eq_false'] at h3')
    refine w_skip ?_
    refine k_seq_normal ?_
    refine w_seq ?_
    obtain ⟨g, rfl⟩ : ∃ g, f = g + 1 := ⟨f - 1, by omega⟩
    have hok1 := pRx_ok g hqb.tail
    have hok3 := pRx_ok g hok1.2.1
    have hpw : 2 ^ (g + 1) ≤ 2 ^ 10 := Nat.pow_le_pow_right (by omega) (by omega)
    have hok2 : ∀ r ∈ [(pRx g q.tail).1, (pRx g (pRx g q.tail).2).1], r.ok := fun r hr => by
     simp only [List.mem_cons, List.not_mem_nil, or_false] at hr
     rcases hr with rfl | rfl
     ·exact hok1.1
     ·exact hok3.1
    refine w_region ?_
    refine l_cons rfl (p_move ?_)
    refine l_cons rfl (p_move ?_)
    refine l_cons rfl (p_arith ?_)
    refine l_cons rfl (p_call en_69 ((ih g (by omega) (by omega) _ ip sp q.tail (deep + 1) (by omega) hgt.1).mono ?_))
    rintro _ es2 ⟨rfl, hg2⟩
    replace hgt := hgt.trans hg2
    have hs4 := hgt.top hipl
    have hipl2 := hgt.1.lt
    refine l_cons rfl (p_alloc ze_29 fun s6 => ?_)
    refine l_cons rfl (p_store ty_29 ?_)
    refine l_nil ?_
    refine k_seq_normal ?_
    refine w_seq ?_
    refine w_seq ?_
    refine w_region ?_
    refine l_cons rfl (p_move ?_)
    refine l_nil ?_
    refine k_seq_normal ?_
    refine w_block ?_
    refine w_seq ?_
    refine w_seq ?_
    refine w_region ?_
    refine l_cons rfl (p_cmp ?_)
    refine l_cons rfl (p_assign ?_)
    refine l_nil ?_
    refine k_seq_normal ?_
    refine w_b (fun h7 => ?_) (fun h7 => ?_)
    ·skip
     have h7' := h7; (try simp only [decide_eq_true_eq, decide_eq_false_iff_not, Bool.not_eq_true', Bool.not_false, Bool.not_true, Bool.not_eq_false'] at h7')
     refine w_skip ?_
     refine k_seq_normal ?_
     refine w_t h7 ?_
     refine w_seq ?_
     refine w_drawn 5 [4] (fun e => at_ e es2.length = some (.row s6 29 6 [(pRx g q.tail).1.cells])) mixed (by kernel_rfl) (at_hit _ _) ?_
     refine q1 6 (hg := rfl) (hu := rfl) (h := by rintro f _ hG; exact p_loadp ty_29 ⟨rfl, rfl⟩) (k := ?_)
     refine q1 0 (hg := rfl) (hu := rfl) (h := by rintro f _ hG; exact p_move ⟨rfl, rfl⟩) (k := ?_)
     refine q1 1 (hg := rfl) (hu := rfl) (h := by rintro f _ hG; exact p_move ⟨rfl, rfl⟩) (k := ?_)
     refine q1 46 (hg := rfl) (hu := rfl) (h := by rintro f _ hG; exact p_arith ⟨rfl, rfl⟩) (k := ?_)
     refine q_end ?_
     refine m2 45 47 (hu := rfl) (h := fun f => p_call en_69 ((ih g (by omega) (by omega) _ ip sp (pRx g q.tail).2 (deep + 1) (by omega) (hgt.1.push _)).mono fun v es' hv => ?_))
     obtain ⟨rfl, hg3⟩ := hv
     have hs6 := hg3.top hipl2
     refine ⟨_, rfl, hs6, ?_⟩
     have hgt := hgt.trans (hg3.pop hipl2)
     have hs4 := hgt.top hipl
     refine m_end ?_
     refine l_cons rfl (p_buildList sl_27 ze_29 (rows := [(pRx g q.tail).1.cells, (pRx g (pRx g q.tail).2).1.cells]) ?_ (hr := rfl))
     refine l_cons rfl (p_callr en_39 (refCat [(pRx g q.tail).1, (pRx g (pRx g q.tail).2).1] (by simp only [Rx.nodesL]; omega)) ?_)
     refine l_cons rfl (p_store ty_29 ?_)
     refine l_nil ?_
     refine k_seq_normal ?_
     refine w_ret ?_
     refine k_blk_ret ?_
     refine k_seq_ret ?_
     rw [pRx_cat (by first | (simp_all; done) | assumption) (by omega)]
     exact retc (he := loc_base (at_setAt_same _ hs4)) rfl ty_29 (Sub.refl _) ⟨rfl, (hgt.pop hipl).put (Nat.le_refl _) _⟩
    ·skip
     have h7' := h7; (try simp only [decide_eq_true_eq, decide_eq_false_iff_not, Bool.not_eq_true', Bool.not_false, Bool.not_true, Bool.not_eq_false'] at h7')
     refine w_seq ?_
     refine w_region ?_
     refine l_cons rfl (p_cmp ?_)
     refine l_cons rfl (p_assign ?_)
     refine l_nil ?_
     refine k_seq_normal ?_
     refine w_b (fun h8 => ?_) (fun h8 => ?_)
     ·skip
      have h8' := h8; (try simp only [decide_eq_true_eq, decide_eq_false_iff_not, Bool.not_eq_true', Bool.not_false, Bool.not_true, Bool.not_eq_false'] at h8')
      refine w_skip ?_
      refine k_seq_normal ?_
      refine w_t h8 ?_
      refine w_seq ?_
      refine w_drawn 5 [4] (fun e => at_ e es2.length = some (.row s6 29 6 [(pRx g q.tail).1.cells])) mixed (by kernel_rfl) (at_hit _ _) ?_
      refine q1 6 (hg := rfl) (hu := rfl) (h := by rintro f _ hG; exact p_loadp ty_29 ⟨rfl, rfl⟩) (k := ?_)
      refine q1 0 (hg := rfl) (hu := rfl) (h := by rintro f _ hG; exact p_move ⟨rfl, rfl⟩) (k := ?_)
      refine q1 1 (hg := rfl) (hu := rfl) (h := by rintro f _ hG; exact p_move ⟨rfl, rfl⟩) (k := ?_)
      refine q1 46 (hg := rfl) (hu := rfl) (h := by rintro f _ hG; exact p_arith ⟨rfl, rfl⟩) (k := ?_)
      refine q_end ?_
      refine m2 45 47 (hu := rfl) (h := fun f => p_call en_69 ((ih g (by omega) (by omega) _ ip sp (pRx g q.tail).2 (deep + 1) (by omega) (hgt.1.push _)).mono fun v es' hv => ?_))
      obtain ⟨rfl, hg3⟩ := hv
      have hs6 := hg3.top hipl2
      refine ⟨_, rfl, hs6, ?_⟩
      have hgt := hgt.trans (hg3.pop hipl2)
      have hs4 := hgt.top hipl
      refine m_end ?_
      refine l_cons rfl (p_buildList sl_27 ze_29 (rows := [(pRx g q.tail).1.cells, (pRx g (pRx g q.tail).2).1.cells]) ?_ (hr := rfl))
      refine l_cons rfl (p_callr en_39 (refCat [(pRx g q.tail).1, (pRx g (pRx g q.tail).2).1] (by simp only [Rx.nodesL]; omega)) ?_)
      refine l_cons rfl (p_store ty_29 ?_)
      refine l_nil ?_
      refine k_seq_normal ?_
      refine w_ret ?_
      refine k_blk_ret ?_
      refine k_seq_ret ?_
      rw [pRx_cat (by first | (simp_all; done) | assumption) (by omega)]
      exact retc (he := loc_base (at_setAt_same _ hs4)) rfl ty_29 (Sub.refl _) ⟨rfl, (hgt.pop hipl).put (Nat.le_refl _) _⟩
     ·skip
      have h8' := h8; (try simp only [decide_eq_true_eq, decide_eq_false_iff_not, Bool.not_eq_true', Bool.not_false, Bool.not_true, Bool.not_eq_false'] at h8')
      refine w_region ?_
      refine l_cons rfl (p_cmp ?_)
      refine l_cons rfl (p_assign ?_)
      refine l_nil ?_
      refine k_seq_normal ?_
      refine w_b (fun h9 => ?_) (fun h9 => ?_)
      ·skip
       have h9' := h9; (try simp only [decide_eq_true_eq, decide_eq_false_iff_not, Bool.not_eq_true', Bool.not_false, Bool.not_true, Bool.not_eq_false'] at h9')
       refine w_seq ?_
       refine w_drawn 5 [4] (fun e => at_ e es2.length = some (.row s6 29 6 [(pRx g q.tail).1.cells])) mixed (by kernel_rfl) (at_hit _ _) ?_
       refine q1 6 (hg := rfl) (hu := rfl) (h := by rintro f _ hG; exact p_loadp ty_29 ⟨rfl, rfl⟩) (k := ?_)
       refine q1 0 (hg := rfl) (hu := rfl) (h := by rintro f _ hG; exact p_move ⟨rfl, rfl⟩) (k := ?_)
       refine q1 1 (hg := rfl) (hu := rfl) (h := by rintro f _ hG; exact p_move ⟨rfl, rfl⟩) (k := ?_)
       refine q1 46 (hg := rfl) (hu := rfl) (h := by rintro f _ hG; exact p_arith ⟨rfl, rfl⟩) (k := ?_)
       refine q_end ?_
       refine m2 45 47 (hu := rfl) (h := fun f => p_call en_69 ((ih g (by omega) (by omega) _ ip sp (pRx g q.tail).2 (deep + 1) (by omega) (hgt.1.push _)).mono fun v es' hv => ?_))
       obtain ⟨rfl, hg3⟩ := hv
       have hs6 := hg3.top hipl2
       refine ⟨_, rfl, hs6, ?_⟩
       have hgt := hgt.trans (hg3.pop hipl2)
       have hs4 := hgt.top hipl
       refine m_end ?_
       refine l_cons rfl (p_buildList sl_27 ze_29 (rows := [(pRx g q.tail).1.cells, (pRx g (pRx g q.tail).2).1.cells]) ?_ (hr := rfl))
       refine l_cons rfl (p_callr en_39 (refCat [(pRx g q.tail).1, (pRx g (pRx g q.tail).2).1] (by simp only [Rx.nodesL]; omega)) ?_)
       refine l_cons rfl (p_store ty_29 ?_)
       refine l_nil ?_
       refine k_seq_normal ?_
       refine w_ret ?_
       refine k_blk_ret ?_
       refine k_seq_ret ?_
       rw [pRx_cat (by first | (simp_all; done) | assumption) (by omega)]
       exact retc (he := loc_base (at_setAt_same _ hs4)) rfl ty_29 (Sub.refl _) ⟨rfl, (hgt.pop hipl).put (Nat.le_refl _) _⟩
      ·skip
       have h9' := h9; (try simp only [decide_eq_true_eq, decide_eq_false_iff_not, Bool.not_eq_true', Bool.not_false, Bool.not_true, Bool.not_eq_false'] at h9')
       refine w_seq ?_
       refine w_seq ?_
       refine w_region ?_
       refine l_cons rfl (p_cmp ?_)
       refine l_cons rfl (p_assign ?_)
       refine l_nil ?_
       refine k_seq_normal ?_
       refine w_b (fun h10 => ?_) (fun h10 => ?_)
       ·skip
        have h10' := h10; (try simp only [decide_eq_true_eq, decide_eq_false_iff_not, Bool.not_eq_true', Bool.not_false, Bool.not_true, Bool.not_eq_false'] at h10')
        refine w_skip ?_
        refine k_seq_normal ?_
        refine w_t h10 ?_
        refine w_seq ?_
        refine w_drawn 5 [4] (fun e => at_ e es2.length = some (.row s6 29 6 [(pRx g q.tail).1.cells])) mixed (by kernel_rfl) (at_hit _ _) ?_
        refine q1 6 (hg := rfl) (hu := rfl) (h := by rintro f _ hG; exact p_loadp ty_29 ⟨rfl, rfl⟩) (k := ?_)
        refine q1 0 (hg := rfl) (hu := rfl) (h := by rintro f _ hG; exact p_move ⟨rfl, rfl⟩) (k := ?_)
        refine q1 1 (hg := rfl) (hu := rfl) (h := by rintro f _ hG; exact p_move ⟨rfl, rfl⟩) (k := ?_)
        refine q1 56 (hg := rfl) (hu := rfl) (h := by rintro f _ hG; exact p_arith ⟨rfl, rfl⟩) (k := ?_)
        refine q_end ?_
        refine m2 55 57 (hu := rfl) (h := fun f => p_call en_69 ((ih g (by omega) (by omega) _ ip sp (pRx g q.tail).2 (deep + 1) (by omega) (hgt.1.push _)).mono fun v es' hv => ?_))
        obtain ⟨rfl, hg3⟩ := hv
        have hs6 := hg3.top hipl2
        refine ⟨_, rfl, hs6, ?_⟩
        have hgt := hgt.trans (hg3.pop hipl2)
        have hs4 := hgt.top hipl
        refine m_end ?_
        refine l_cons rfl (p_buildList sl_27 ze_29 (rows := [(pRx g q.tail).1.cells, (pRx g (pRx g q.tail).2).1.cells]) ?_ (hr := rfl))
        refine l_cons rfl (p_callr en_40 (refAlt [(pRx g q.tail).1, (pRx g (pRx g q.tail).2).1] hok2 (by simp only [Rx.nodesL]; omega)) ?_)
        refine l_cons rfl (p_store ty_29 ?_)
        refine l_nil ?_
        refine k_seq_normal ?_
        refine w_ret ?_
        refine k_blk_ret ?_
        refine k_seq_ret ?_
        rw [pRx_alt (by first | (simp_all; done) | assumption) (by omega)]
        exact retc (he := loc_base (at_setAt_same _ hs4)) rfl ty_29 (Sub.refl _) ⟨rfl, (hgt.pop hipl).put (Nat.le_refl _) _⟩
       ·skip
        have h10' := h10; (try simp only [decide_eq_true_eq, decide_eq_false_iff_not, Bool.not_eq_true', Bool.not_false, Bool.not_true, Bool.not_eq_false'] at h10')
        refine w_region ?_
        refine l_cons rfl (p_cmp ?_)
        refine l_cons rfl (p_assign ?_)
        refine l_nil ?_
        refine k_seq_normal ?_
        refine w_b (fun h11 => ?_) (fun h11 => ?_)
        ·skip
         have h11' := h11; (try simp only [decide_eq_true_eq, decide_eq_false_iff_not, Bool.not_eq_true', Bool.not_false, Bool.not_true, Bool.not_eq_false'] at h11')
         refine w_seq ?_
         refine w_drawn 5 [4] (fun e => at_ e es2.length = some (.row s6 29 6 [(pRx g q.tail).1.cells])) mixed (by kernel_rfl) (at_hit _ _) ?_
         refine q1 6 (hg := rfl) (hu := rfl) (h := by rintro f _ hG; exact p_loadp ty_29 ⟨rfl, rfl⟩) (k := ?_)
         refine q1 0 (hg := rfl) (hu := rfl) (h := by rintro f _ hG; exact p_move ⟨rfl, rfl⟩) (k := ?_)
         refine q1 1 (hg := rfl) (hu := rfl) (h := by rintro f _ hG; exact p_move ⟨rfl, rfl⟩) (k := ?_)
         refine q1 56 (hg := rfl) (hu := rfl) (h := by rintro f _ hG; exact p_arith ⟨rfl, rfl⟩) (k := ?_)
         refine q_end ?_
         refine m2 55 57 (hu := rfl) (h := fun f => p_call en_69 ((ih g (by omega) (by omega) _ ip sp (pRx g q.tail).2 (deep + 1) (by omega) (hgt.1.push _)).mono fun v es' hv => ?_))
         obtain ⟨rfl, hg3⟩ := hv
         have hs6 := hg3.top hipl2
         refine ⟨_, rfl, hs6, ?_⟩
         have hgt := hgt.trans (hg3.pop hipl2)
         have hs4 := hgt.top hipl
         refine m_end ?_
         refine l_cons rfl (p_buildList sl_27 ze_29 (rows := [(pRx g q.tail).1.cells, (pRx g (pRx g q.tail).2).1.cells]) ?_ (hr := rfl))
         refine l_cons rfl (p_callr en_40 (refAlt [(pRx g q.tail).1, (pRx g (pRx g q.tail).2).1] hok2 (by simp only [Rx.nodesL]; omega)) ?_)
         refine l_cons rfl (p_store ty_29 ?_)
         refine l_nil ?_
         refine k_seq_normal ?_
         refine w_ret ?_
         refine k_blk_ret ?_
         refine k_seq_ret ?_
         rw [pRx_alt (by first | (simp_all; done) | assumption) (by omega)]
         exact retc (he := loc_base (at_setAt_same _ hs4)) rfl ty_29 (Sub.refl _) ⟨rfl, (hgt.pop hipl).put (Nat.le_refl _) _⟩
        ·skip
         have h11' := h11; (try simp only [decide_eq_true_eq, decide_eq_false_iff_not, Bool.not_eq_true', Bool.not_false, Bool.not_true, Bool.not_eq_false'] at h11')
         refine w_skip ?_
         refine k_blk_normal ?_
         refine k_seq_normal ?_
         refine w_seq ?_
         have hs6 : at_ (Ent.row s6 29 6 [(pRx g q.tail).1.cells] :: es2) es2.length = some (.row s6 29 6 [(pRx g q.tail).1.cells]) := at_hit _ _
         refine w_region ?_
         refine l_cons rfl (p_loadp ty_29 ?_)
         refine l_cons rfl (p_callr en_41 (refStarR (pRx g q.tail).1 (by omega) hok1.1) ?_)
         refine l_cons rfl (p_store ty_29 ?_)
         refine l_nil ?_
         refine k_seq_normal ?_
         refine w_ret ?_
         rw [pRx_star (by first | (simp_all; done) | assumption) (by omega)]
         exact retc (he := loc_miss (loc_base (at_setAt_same _ hs4))) rfl ty_29 (Sub.refl _) ⟨rfl, ((hgt.pop hipl).put (Nat.le_refl _) _).up _⟩
  ·skip
   have h2' := h2; (try simp only [decide_eq_true_eq, decide_eq_false_iff_not, Bool.not_eq_true', Bool.not_false, Bool.not_true, Bool.not_eq_false'] at h2')
   refine g_n rfl h2 ?_
   refine l_cons rfl (p_pickt h2 ?_)
   refine l_nil ?_
   refine k_seq_normal ?_
   refine w_t rfl ?_
   refine w_seq ?_
   refine w_block ?_
   refine w_seq ?_
   refine w_region ?_
   refine l_cons rfl (p_move ?_)
   refine l_cons rfl (p_callr en_106 (over_walk hgt.1) ?_)
   refine l_cons rfl (p_move ?_)
   refine g_b rfl (fun h12 => ?_) (fun h12 => ?_)
   ·skip
    have h12' := h12; (try simp only [decide_eq_true_eq, decide_eq_false_iff_not, Bool.not_eq_true', Bool.not_false, Bool.not_true, Bool.not_eq_false'] at h12')
    refine (p_move ?_)
    refine g_y rfl h12 (p_cmp ?_)
    refine l_cons rfl (p_pickf h12 ?_)
    refine l_cons rfl (p_assign ?_)
    refine l_nil ?_
    refine k_seq_normal ?_
    refine w_b (fun h13 => ?_) (fun h13 => ?_)
    ·skip
     have h13' := h13; (try simp only [decide_eq_true_eq, decide_eq_false_iff_not, Bool.not_eq_true', Bool.not_false, Bool.not_true, Bool.not_eq_false'] at h13')
     refine w_seq ?_
     refine w_region ?_
     refine l_cons rfl (p_move ?_)
     refine l_cons rfl (p_call en_107 ((set_walk hgt.1).mono ?_))
     rintro _ es2 ⟨rfl, hg2⟩
     replace hgt := hgt.trans hg2
     have hs4 := hgt.top hipl
     refine l_cons rfl (p_callr en_67 (refBytes (pSet q.tail).1) ?_)
     refine l_cons rfl (p_store ty_29 ?_)
     refine l_nil ?_
     refine k_seq_normal ?_
     refine w_ret ?_
     refine k_blk_ret ?_
     refine k_seq_ret ?_
     refine k_seq_ret ?_
     rw [pRx_leaf (by first | (left; omega) | (right; right; omega) | (right; left; simp_all; done) | (right; left; assumption)), pLeaf_set (by first | (right; omega) | (left; assumption) | (left; simp_all; done))]
     exact retc (he := loc_base (at_setAt_same _ hs4)) rfl ty_29 (Sub.refl _) ⟨rfl, (hgt.pop hipl).put (Nat.le_refl _) _⟩
    ·skip
     have h13' := h13; (try simp only [decide_eq_true_eq, decide_eq_false_iff_not, Bool.not_eq_true', Bool.not_false, Bool.not_true, Bool.not_eq_false'] at h13')
     refine w_seq ?_
     refine w_region ?_
     refine l_cons rfl (p_move ?_)
     refine l_cons rfl (p_call en_70 ((num_walk 3 (by omega) hgt.1).mono ?_))
     rintro _ es2 ⟨rfl, hg2⟩
     replace hgt := hgt.trans hg2
     have hs4 := hgt.top hipl
     refine l_cons rfl (p_cmp ?_)
     refine l_cons rfl (p_assign ?_)
     refine l_nil ?_
     refine k_seq_normal ?_
     refine w_b (fun h14 => ?_) (fun h14 => ?_)
     ·skip
      have h14' := h14; (try simp only [decide_eq_true_eq, decide_eq_false_iff_not, Bool.not_eq_true', Bool.not_false, Bool.not_true, Bool.not_eq_false'] at h14')
      refine w_seq ?_
      refine w_region ?_
      refine l_cons rfl (p_callr en_84 (refNone) ?_)
      refine l_cons rfl (p_store ty_29 ?_)
      refine l_nil ?_
      refine k_seq_normal ?_
      refine w_ret ?_
      refine k_blk_ret ?_
      refine k_seq_ret ?_
      refine k_seq_ret ?_
      rw [pRx_leaf (by first | (left; omega) | (right; right; omega) | (right; left; simp_all; done) | (right; left; assumption)), pLeaf_none (by first | (simp_all; done) | assumption) (by omega) (by omega)]
      exact retc (he := loc_base (at_setAt_same _ hs4)) rfl ty_29 (Sub.refl _) ⟨rfl, (hgt.pop hipl).put (Nat.le_refl _) _⟩
     ·skip
      have h14' := h14; (try simp only [decide_eq_true_eq, decide_eq_false_iff_not, Bool.not_eq_true', Bool.not_false, Bool.not_true, Bool.not_eq_false'] at h14')
      refine w_skip ?_
      refine k_blk_normal ?_
      refine k_seq_normal ?_
      refine w_seq ?_
      refine w_region ?_
      refine l_cons rfl (p_callr en_85 (refEmpty) ?_)
      refine l_cons rfl (p_store ty_29 ?_)
      refine l_nil ?_
      refine k_seq_normal ?_
      refine w_ret ?_
      refine k_seq_ret ?_
      rw [pRx_leaf (by first | (left; omega) | (right; right; omega) | (right; left; simp_all; done) | (right; left; assumption)), pLeaf_empty (by first | (simp_all; done) | assumption) (by omega) (by omega)]
      exact retc (he := loc_base (at_setAt_same _ hs4)) rfl ty_29 (Sub.refl _) ⟨rfl, (hgt.pop hipl).put (Nat.le_refl _) _⟩
   ·skip
    have h12' := h12; (try simp only [decide_eq_true_eq, decide_eq_false_iff_not, Bool.not_eq_true', Bool.not_false, Bool.not_true, Bool.not_eq_false'] at h12')
    refine g_n rfl h12 ?_
    refine l_cons rfl (p_pickt h12 ?_)
    refine l_cons rfl (p_assign ?_)
    refine l_nil ?_
    refine k_seq_normal ?_
    refine w_t rfl ?_
    refine w_seq ?_
    refine w_region ?_
    refine l_cons rfl (p_move ?_)
    refine l_cons rfl (p_call en_107 ((set_walk hgt.1).mono ?_))
    rintro _ es2 ⟨rfl, hg2⟩
    replace hgt := hgt.trans hg2
    have hs4 := hgt.top hipl
    refine l_cons rfl (p_callr en_67 (refBytes (pSet q.tail).1) ?_)
    refine l_cons rfl (p_store ty_29 ?_)
    refine l_nil ?_
    refine k_seq_normal ?_
    refine w_ret ?_
    refine k_blk_ret ?_
    refine k_seq_ret ?_
    refine k_seq_ret ?_
    rw [pRx_leaf (by first | (left; omega) | (right; right; omega) | (right; left; simp_all; done) | (right; left; assumption)), pLeaf_set (by first | (right; omega) | (left; assumption) | (left; simp_all; done))]
    exact retc (he := loc_base (at_setAt_same _ hs4)) rfl ty_29 (Sub.refl _) ⟨rfl, (hgt.pop hipl).put (Nat.le_refl _) _⟩
 ·skip
  have h1' := h1; (try simp only [decide_eq_true_eq, decide_eq_false_iff_not, Bool.not_eq_true', Bool.not_false, Bool.not_true, Bool.not_eq_false'] at h1')
  refine g_n rfl h1 ?_
  refine l_cons rfl (p_pickt h1 ?_)
  refine l_cons rfl (p_move ?_)
  refine g_n rfl rfl ?_
  refine g_n rfl rfl ?_
  refine l_cons rfl (p_pickt rfl ?_)
  refine l_nil ?_
  refine k_seq_normal ?_
  refine w_t rfl ?_
  refine w_seq ?_
  refine w_block ?_
  refine w_seq ?_
  refine w_region ?_
  refine l_cons rfl (p_move ?_)
  refine l_cons rfl (p_callr en_106 (over_walk hgt.1) ?_)
  refine l_cons rfl (p_move ?_)
  refine g_b rfl (fun h15 => ?_) (fun h15 => ?_)
  ·skip
   have h15' := h15; (try simp only [decide_eq_true_eq, decide_eq_false_iff_not, Bool.not_eq_true', Bool.not_false, Bool.not_true, Bool.not_eq_false'] at h15')
   refine (p_move ?_)
   refine g_y rfl h15 (p_cmp ?_)
   refine l_cons rfl (p_pickf h15 ?_)
   refine l_cons rfl (p_assign ?_)
   refine l_nil ?_
   refine k_seq_normal ?_
   refine w_b (fun h16 => ?_) (fun h16 => ?_)
   ·skip
    have h16' := h16; (try simp only [decide_eq_true_eq, decide_eq_false_iff_not, Bool.not_eq_true', Bool.not_false, Bool.not_true, Bool.not_eq_false'] at h16')
    refine w_seq ?_
    refine w_region ?_
    refine l_cons rfl (p_move ?_)
    refine l_cons rfl (p_call en_107 ((set_walk hgt.1).mono ?_))
    rintro _ es2 ⟨rfl, hg2⟩
    replace hgt := hgt.trans hg2
    have hs4 := hgt.top hipl
    refine l_cons rfl (p_callr en_67 (refBytes (pSet q.tail).1) ?_)
    refine l_cons rfl (p_store ty_29 ?_)
    refine l_nil ?_
    refine k_seq_normal ?_
    refine w_ret ?_
    refine k_blk_ret ?_
    refine k_seq_ret ?_
    refine k_seq_ret ?_
    rw [pRx_leaf (by first | (left; omega) | (right; right; omega) | (right; left; simp_all; done) | (right; left; assumption)), pLeaf_set (by first | (right; omega) | (left; assumption) | (left; simp_all; done))]
    exact retc (he := loc_base (at_setAt_same _ hs4)) rfl ty_29 (Sub.refl _) ⟨rfl, (hgt.pop hipl).put (Nat.le_refl _) _⟩
   ·skip
    have h16' := h16; (try simp only [decide_eq_true_eq, decide_eq_false_iff_not, Bool.not_eq_true', Bool.not_false, Bool.not_true, Bool.not_eq_false'] at h16')
    refine w_seq ?_
    refine w_region ?_
    refine l_cons rfl (p_move ?_)
    refine l_cons rfl (p_call en_70 ((num_walk 3 (by omega) hgt.1).mono ?_))
    rintro _ es2 ⟨rfl, hg2⟩
    replace hgt := hgt.trans hg2
    have hs4 := hgt.top hipl
    refine l_cons rfl (p_cmp ?_)
    refine l_cons rfl (p_assign ?_)
    refine l_nil ?_
    refine k_seq_normal ?_
    refine w_b (fun h17 => ?_) (fun h17 => ?_)
    ·skip
     have h17' := h17; (try simp only [decide_eq_true_eq, decide_eq_false_iff_not, Bool.not_eq_true', Bool.not_false, Bool.not_true, Bool.not_eq_false'] at h17')
     refine w_seq ?_
     refine w_region ?_
     refine l_cons rfl (p_callr en_84 (refNone) ?_)
     refine l_cons rfl (p_store ty_29 ?_)
     refine l_nil ?_
     refine k_seq_normal ?_
     refine w_ret ?_
     refine k_blk_ret ?_
     refine k_seq_ret ?_
     refine k_seq_ret ?_
     rw [pRx_leaf (by first | (left; omega) | (right; right; omega) | (right; left; simp_all; done) | (right; left; assumption)), pLeaf_none (by first | (simp_all; done) | assumption) (by omega) (by omega)]
     exact retc (he := loc_base (at_setAt_same _ hs4)) rfl ty_29 (Sub.refl _) ⟨rfl, (hgt.pop hipl).put (Nat.le_refl _) _⟩
    ·skip
     have h17' := h17; (try simp only [decide_eq_true_eq, decide_eq_false_iff_not, Bool.not_eq_true', Bool.not_false, Bool.not_true, Bool.not_eq_false'] at h17')
     refine w_skip ?_
     refine k_blk_normal ?_
     refine k_seq_normal ?_
     refine w_seq ?_
     refine w_region ?_
     refine l_cons rfl (p_callr en_85 (refEmpty) ?_)
     refine l_cons rfl (p_store ty_29 ?_)
     refine l_nil ?_
     refine k_seq_normal ?_
     refine w_ret ?_
     refine k_seq_ret ?_
     rw [pRx_leaf (by first | (left; omega) | (right; right; omega) | (right; left; simp_all; done) | (right; left; assumption)), pLeaf_empty (by first | (simp_all; done) | assumption) (by omega) (by omega)]
     exact retc (he := loc_base (at_setAt_same _ hs4)) rfl ty_29 (Sub.refl _) ⟨rfl, (hgt.pop hipl).put (Nat.le_refl _) _⟩
  ·skip
   have h15' := h15; (try simp only [decide_eq_true_eq, decide_eq_false_iff_not, Bool.not_eq_true', Bool.not_false, Bool.not_true, Bool.not_eq_false'] at h15')
   refine g_n rfl h15 ?_
   refine l_cons rfl (p_pickt h15 ?_)
   refine l_cons rfl (p_assign ?_)
   refine l_nil ?_
   refine k_seq_normal ?_
   refine w_t rfl ?_
   refine w_seq ?_
   refine w_region ?_
   refine l_cons rfl (p_move ?_)
   refine l_cons rfl (p_call en_107 ((set_walk hgt.1).mono ?_))
   rintro _ es2 ⟨rfl, hg2⟩
   replace hgt := hgt.trans hg2
   have hs4 := hgt.top hipl
   refine l_cons rfl (p_callr en_67 (refBytes (pSet q.tail).1) ?_)
   refine l_cons rfl (p_store ty_29 ?_)
   refine l_nil ?_
   refine k_seq_normal ?_
   refine w_ret ?_
   refine k_blk_ret ?_
   refine k_seq_ret ?_
   refine k_seq_ret ?_
   rw [pRx_leaf (by first | (left; omega) | (right; right; omega) | (right; left; simp_all; done) | (right; left; assumption)), pLeaf_set (by first | (right; omega) | (left; assumption) | (left; simp_all; done))]
   exact retc (he := loc_base (at_setAt_same _ hs4)) rfl ty_29 (Sub.refl _) ⟨rfl, (hgt.pop hipl).put (Nat.le_refl _) _⟩
theorem Rx_walk {w0 : World} {es : List Ent} {ip sp : Nat} {q : List Int} (h : PK es ip sp q) : ACalls Tryd.prog w0 25 [.ptr ip sp 0 0] es fun v es' => v = .agg (pRx 9 q).1.cells ∧ PG es es' ip sp (pRx 9 q).2 := by
 have hipl := h.lt
 refine calls1 (N := 5) Tryd.func25 rfl rfl (by decide) ?_
 refine w_seq ?_
 refine w_region ?_
 refine l_cons rfl (p_alloc ze_29 fun s2 => ?_)
 refine l_nil ?_
 refine k_seq_normal ?_
 refine w_seq ?_
 refine w_region ?_
 refine l_cons rfl (p_move ?_)
 refine l_cons rfl (p_call en_69 ((rx_walk 9 (by omega) _ ip sp q 0 (by omega) (h.push _)).mono ?_))
 rintro _ es1 ⟨rfl, hgt⟩
 have hs4 := hgt.top hipl
 refine l_cons rfl (p_store ty_29 ?_)
 refine l_nil ?_
 refine k_seq_normal ?_
 refine w_ret ?_
 exact retc (he := loc_base (at_setAt_same _ hs4)) rfl ty_29 (Sub.refl _) ⟨rfl, (hgt.pop hipl).put (Nat.le_refl _) _⟩
end Go.Proofs.YtfdgbghlanbddaaDoor.Av
set_option linter.unusedVariables false
set_option linter.unusedSimpArgs false
namespace Go.Proofs.YtfdgbghlanbddaaDoor.Av
/-! ### the words of an expression -/
inductive Star (P : List Int → Prop) : List Int → Prop
 | nil : Star P []
 | cons {u v : List Int} : P u → Star P v → Star P (u ++ v)
def W4.hasI (s : W4) (b : Int) : Bool := hasW s.w0 s.w1 s.w2 s.w3 b
mutual
def Rx.lang : Rx → List Int → Prop
 | .mk k s l => fun w => (k = 2 ∧ w = []) ∨ (k = 3 ∧ ∃ b, w = [b] ∧ s.hasI b = true) ∨ (k = 4 ∧ Rx.langCat l w) ∨ (k = 5 ∧ Rx.langAlt l w) ∨ (k = 6 ∧ Star (Rx.langOne l) w)
def Rx.langCat : List Rx → List Int → Prop
 | [] => fun w => w = []
 | a :: t => fun w => ∃ u v, w = u ++ v ∧ a.lang u ∧ Rx.langCat t v
def Rx.langAlt : List Rx → List Int → Prop
 | [] => fun _ => False
 | a :: t => fun w => a.lang w ∨ Rx.langAlt t w
def Rx.langOne : List Rx → List Int → Prop
 | [] => fun _ => False
 | a :: t => fun w => t = [] ∧ a.lang w
end
theorem lang_eq (r : Rx) (w : List Int) : r.lang w ↔ (r.kind = 2 ∧ w = []) ∨ (r.kind = 3 ∧ ∃ b, w = [b] ∧ r.set.hasI b = true) ∨ (r.kind = 4 ∧ Rx.langCat r.args w) ∨ (r.kind = 5 ∧ Rx.langAlt r.args w) ∨ (r.kind = 6 ∧ Star (Rx.langOne r.args) w) := by
 cases r
 rw [Rx.lang]
 rfl
theorem langCat_nil (w : List Int) : Rx.langCat [] w ↔ w = [] := by rw [Rx.langCat]
theorem langCat_cons (a : Rx) (t : List Rx) (w : List Int) : Rx.langCat (a :: t) w ↔ ∃ u v, w = u ++ v ∧ a.lang u ∧ Rx.langCat t v := by rw [Rx.langCat]
theorem langAlt_nil (w : List Int) : ¬ Rx.langAlt [] w := by rw [Rx.langAlt]; exact fun h => h
theorem langAlt_cons (a : Rx) (t : List Rx) (w : List Int) : Rx.langAlt (a :: t) w ↔ a.lang w ∨ Rx.langAlt t w := by rw [Rx.langAlt]
theorem langOne_iff {l : List Rx} {w : List Int} : Rx.langOne l w ↔ ∃ a, l = [a] ∧ a.lang w := by
 match l with
 | [] => rw [Rx.langOne]; simp
 | a :: t =>
  rw [Rx.langOne]
  constructor
  ·rintro ⟨rfl, h⟩; exact ⟨a, rfl, h⟩
  ·rintro ⟨b, h, h2⟩
   simp only [List.cons.injEq] at h
   obtain ⟨rfl, rfl⟩ := h
   exact ⟨rfl, h2⟩
theorem kind_2 {r : Rx} (h : r.kind = 2) : ∀ x, r.lang x ↔ x = [] := fun x => by rw [lang_eq, h]; simp
theorem kind_3 {r : Rx} (h : r.kind = 3) : ∀ x, r.lang x ↔ ∃ c, x = [c] ∧ r.set.hasI c = true := fun x => by rw [lang_eq, h]; simp
theorem kind_4 {r : Rx} (h : r.kind = 4) : ∀ x, r.lang x ↔ Rx.langCat r.args x := fun x => by rw [lang_eq, h]; simp
theorem kind_5 {r : Rx} (h : r.kind = 5) : ∀ x, Rx.langAlt r.args x ↔ r.lang x := fun x => by rw [lang_eq, h]; simp
theorem kind_6 {r : Rx} (h : r.kind = 6) : ∀ x, r.lang x ↔ Star (Rx.langOne r.args) x := fun x => by rw [lang_eq, h]; simp
theorem kind_0 {r : Rx} (h : ¬ r.kind = 2 ∧ ¬ r.kind = 3 ∧ ¬ r.kind = 4 ∧ ¬ r.kind = 5 ∧ ¬ r.kind = 6) : ∀ x, ¬ r.lang x := fun x => by rw [lang_eq]; simp [h]
/-! ### parts of a word -/
/-- From place i on to place j. -/
def sl (w : List Int) (i j : Nat) : List Int := (w.take j).drop i
/-! ### any number of words, place by place -/
inductive SR (P : List Int → Prop) (w : List Int) (i : Nat) : Nat → Prop
 | base : SR P w i i
 | step {j k : Nat} : SR P w i j → j < k → k ≤ w.length → P (sl w j k) → SR P w i k
theorem SR.le {P : List Int → Prop} {w : List Int} {i k : Nat} (h : SR P w i k) : i ≤ k := by
 induction h with
 | base => exact Nat.le_refl _
 | step _ h _ _ ih => omega
/-! ### tables -/
def tabOf (n : Nat) (p : Nat → Nat → Bool) : List (List Bool) := (List.range n).map fun i => (List.range n).map fun j => p i j
open Classical in
noncomputable def langP (L : List Int → Prop) (w : List Int) (i j : Nat) : Bool := decide (i ≤ j ∧ L (sl w i j))
/-- Where words of an expression lie in w. -/
noncomputable def spansT (r : Rx) (w : List Int) : List (List Bool) := tabOf (w.length + 1) (langP r.lang w)
/-- One behind the other. -/
def behindP (p q : Nat → Nat → Bool) (i k : Nat) : Bool := (List.range (k + 1)).any fun j => decide (i ≤ j) && p i j && q j k
end Go.Proofs.YtfdgbghlanbddaaDoor.Av
set_option linter.unusedVariables false
set_option linter.unusedSimpArgs false
namespace Go.Proofs.YtfdgbghlanbddaaDoor.Av
open Go.RowKit
/-! ### tables that are being written -/
def bools (l : List Bool) : List (List AV) := l.map fun b => [.bool b]
def boolRow (n : Nat) (q : Nat → Bool) : List (List AV) := bools ((List.range n).map q)
def tabAV (T : List (List Bool)) : AV := .list 1 (T.map fun r => [.list 1 (bools r)])
def tRows (ms : List (Nat × Nat)) (n : Nat) : List (List AV) := ms.map (fun m => [AV.own m.1 m.2]) ++ List.replicate (n - ms.length) [AV.nil]
structure TP (es : List Ent) (lo it st : Nat) (ms : List (Nat × Nat)) (n : Nat) (p : Nat → Nat → Bool) : Prop where
 t : at_ es it = some (.row st 60 1 (tRows ms n))
 r : ∀ i (h : i < ms.length), at_ es ms[i].1 = some (.row ms[i].2 4 1 (boolRow n (p i)))
 lt : ms.length ≤ n
 nd : (it :: ms.map Prod.fst).Nodup
 lo : ∀ id ∈ it :: ms.map Prod.fst, lo ≤ id
/-- What lies below is al' it was. -/
def KB (base es : List Ent) : Prop := (∀ id, id < base.length → at_ es id = at_ base id) ∧ base.length ≤ es.length
theorem KB.refl (es : List Ent) : KB es es := ⟨fun _ _ => rfl, Nat.le_refl _⟩
theorem KB.trans {a b c : List Ent} (h : KB a b) (k : KB b c) : KB a c := ⟨fun id hi => (k.1 id (Nat.lt_of_lt_of_le hi h.2)).trans (h.1 id hi), Nat.le_trans h.2 k.2⟩
theorem KB.push {base es : List Ent} (x : Ent) (h : KB base es) : KB base (x :: es) := ⟨fun id hi => (at_push x (Nat.lt_of_lt_of_le hi h.2)).trans (h.1 id hi), by have := h.2; simp only [List.length_cons]; omega⟩
theorem KB.put {base es : List Ent} (h : KB base es) {id : Nat} (hid : base.length ≤ id) (y : Ent) : KB base (setAt es id y) := ⟨fun i hi => (at_setAt_ne y (by omega)).trans (h.1 i hi), by rw [setAt_len]; exact h.2⟩
theorem KB.pop {x : Ent} {es es2 : List Ent} (h : KB (x :: es) es2) : KB es es2 :=
 ⟨fun i hi => (h.1 i (by simp only [List.length_cons]; omega)).trans (at_push _ hi), by have := h.2; simp only [List.length_cons] at this; omega⟩
theorem KB.sub {base es : List Ent} (h : KB base es) : Sub base es := sub_of h.1
theorem TP.push {es : List Ent} {lo it st n : Nat} {ms : List (Nat × Nat)} {p : Nat → Nat → Bool} (x : Ent) (h : TP es lo it st ms n p) : TP (x :: es) lo it st ms n p :=
 ⟨at_miss _ h.t, fun i hi => at_miss _ (h.r i hi), h.lt, h.nd, h.lo⟩
section
variable {P : Program} {w0 : World} {N : Nat} {f : Frame} {base es : List Ent} {K : Exit → Frame → List Ent → Prop}
end
end Go.Proofs.YtfdgbghlanbddaaDoor.Av
set_option linter.unusedVariables false
set_option linter.unusedSimpArgs false
set_option maxRecDepth 8000
namespace Go.Proofs.YtfdgbghlanbddaaDoor.Av
open Go.RowKit Go.Proofs
def jp (p q : Nat → Nat → Bool) (i j a b : Nat) : Bool := if a < i ∨ (a = i ∧ b < j) then p a b || q a b else p a b
/-- What row i has when the ways through places ahead of j are laid, and those through j up to k. -/
def bq (p q : Nat → Nat → Bool) (i j k x : Nat) : Bool := ((List.range j).any fun m => decide (i ≤ m) && decide (m ≤ x) && p i m && q m x) || (p i j && decide (j ≤ x) && decide (x < k) && q j x)
end Go.Proofs.YtfdgbghlanbddaaDoor.Av
set_option linter.unusedVariables false
set_option linter.unusedSimpArgs false
namespace Go.Proofs.YtfdgbghlanbddaaDoor.Av
open Go.RowKit
section
variable {P : Program} {w0 : World} {N : Nat} {f : Frame} {base es : List Ent} {K : Exit → Frame → List Ent → Prop}
end
/-! ### the empty word, one byte -/
def dg (i a b : Nat) : Bool := decide (a = b) && decide (a < i)
def sg (s : W4) (w : List Int) (i a b : Nat) : Bool := decide (b = a + 1) && decide (a < i) && s.hasI (w.getD a 0)
/-! ### alternatives, one behind the other -/
/-! ### any number -/
open Classical in
noncomputable def sjb (P : List Int → Prop) (w : List Int) (i j b : Nat) : Bool := decide (b = i ∨ ∃ m, i ≤ m ∧ m < j ∧ m < b ∧ SR P w i m ∧ P (sl w m b))
noncomputable def sk (P : List Int → Prop) (w : List Int) (i j k b : Nat) : Bool := sjb P w i j b || (decide (j < b) && decide (b < k) && sjb P w i j j && langP P w j b)
/-- The table when rows ahead of i are done, and row i by q. -/
noncomputable def rowI (P : List Int → Prop) (w : List Int) (i : Nat) (q : Nat → Bool) (a b : Nat) : Bool := if a < i then langP (Star P) w a b else if a = i then q b else false
/-- The table of the starred one: empty rows, if there is not just one. -/
noncomputable def rowO (one : Bool) (P : List Int → Prop) (w : List Int) (n j : Nat) : List Bool := if one = true then (List.range n).map (langP P w j) else []
noncomputable def tabO (one : Bool) (P : List Int → Prop) (w : List Int) (n : Nat) : List (List Bool) := (List.range n).map (rowO one P w n)
end Go.Proofs.YtfdgbghlanbddaaDoor.Av
set_option linter.unusedVariables false
set_option linter.unusedSimpArgs false
set_option maxRecDepth 8000
namespace Go.Proofs.YtfdgbghlanbddaaDoor.Av
open Go.RowKit Go.Proofs
open Classical in
noncomputable def inR (r : Rx) (w : List Int) : Bool := decide (r.lang w)
end Go.Proofs.YtfdgbghlanbddaaDoor.Av
set_option linter.unusedVariables false
set_option linter.unusedSimpArgs false
namespace Go.Proofs.YtfdgbghlanbddaaDoor.Av
/-! ### what the machine of an expression runs -/
/-- From a state to t, come to for the first time. -/
inductive PathTo (M : List St) (t : Nat) : Nat → List Int → Prop
 | done : PathTo M t t []
 | eps {i j : Nat} {w : List Int} {s : St} : M[i]? = some s → i ≠ t → (j : Int) ∈ s.free → PathTo M t j w → PathTo M t i w
 | byte {i j : Nat} {b : Int} {w : List Int} {s : St} : M[i]? = some s → i ≠ t → s.to = (j : Int) → s.has b = true → PathTo M t j w → PathTo M t i (b :: w)
def edgeIn (s : St) (P : Nat → Prop) : Prop := (∀ x ∈ s.free, ∃ j : Nat, x = (j : Int) ∧ P j) ∧ (s.to = -1 ∨ ∃ j : Nat, s.to = (j : Int) ∧ P j)
theorem edgeIn.mono {s : St} {P Q : Nat → Prop} (h : edgeIn s P) (k : ∀ j, P j → Q j) : edgeIn s Q :=
 ⟨fun x hx => (h.1 x hx).elim fun j hj => ⟨j, hj.1, k j hj.2⟩, h.2.elim .inl fun ⟨j, h1, h2⟩ => .inr ⟨j, h1, k j h2⟩⟩
structure Frag (M : List St) (a b f t : Nat) (L : List Int → Prop) : Prop where
 hf : a ≤ f ∧ f < b
 ht : a ≤ t ∧ t < b
 hb : b ≤ M.length
 cl : ∀ i s, M[i]? = some s → a ≤ i → i < b → i ≠ t → edgeIn s fun j => a ≤ j ∧ j < b
 la : ∀ w, PathTo M t f w ↔ L w
theorem path_agree {M M' : List St} {a b t : Nat} (cl : ∀ i s, M[i]? = some s → a ≤ i → i < b → i ≠ t → edgeIn s fun j => a ≤ j ∧ j < b) (e : ∀ i, a ≤ i → i < b → i ≠ t → M'[i]? = M[i]?) {i : Nat} {w : List Int} (h : PathTo M t i w) (h1 : a ≤ i) (h2 : i < b) : PathTo M' t i w := by
 induction h with
 | done => exact .done
 | @eps i j w s hs ht hm _ ih =>
  obtain ⟨k, e1, e2⟩ := (cl _ s hs h1 h2 ht).1 _ hm
  have : j = k := by omega
  subst this
  exact .eps (by rw [e _ h1 h2 ht]; exact hs) ht hm (ih e2.1 e2.2)
 | @byte i j b w s hs ht hm hh _ ih =>
  rcases (cl _ s hs h1 h2 ht).2 with e1 | ⟨k, e1, e2⟩
  ·rw [hm] at e1; omega
  ·have : j = k := by omega
   subst this
   exact .byte (by rw [e _ h1 h2 ht]; exact hs) ht hm hh (ih e2.1 e2.2)
theorem Frag.agree {M M' : List St} {a b f t : Nat} {L : List Int → Prop} (h : Frag M a b f t L) (hl : b ≤ M'.length) (e : ∀ i, a ≤ i → i < b → i ≠ t → M'[i]? = M[i]?) : Frag M' a b f t L := by
 have cl' : ∀ i s, M'[i]? = some s → a ≤ i → i < b → i ≠ t → edgeIn s fun j => a ≤ j ∧ j < b := fun i s hs h1 h2 h3 => h.cl i s (by rw [← e i h1 h2 h3]; exact hs) h1 h2 h3
 refine ⟨h.hf, h.ht, hl, cl', fun w => ?_⟩
 rw [← h.la]
 exact ⟨fun k => path_agree cl' (fun i h1 h2 h3 => (e i h1 h2 h3).symm) k h.hf.1 h.hf.2, fun k => path_agree h.cl e k h.hf.1 h.hf.2⟩
/-- On from a fragment's end. -/
theorem path_app {M : List St} {m t : Nat} {i : Nat} {u v : List Int} (h : PathTo M m i u) (k : PathTo M t m v) {P : Nat → Prop} (hp : ∀ i, P i → i ≠ m → i ≠ t) (hc : ∀ i s, M[i]? = some s → P i → i ≠ m → edgeIn s P) (hi : P i) : PathTo M t i (u ++ v) := by
 induction h with
 | done => exact k
 | @eps i j w s hs ht hm _ ih =>
  obtain ⟨x, e1, e2⟩ := (hc _ s hs hi ht).1 _ hm
  have : j = x := by omega
  subst this
  exact .eps hs (hp _ hi ht) hm (ih e2)
 | @byte i j b w s hs ht hm hh _ ih =>
  rcases (hc _ s hs hi ht).2 with e1 | ⟨x, e1, e2⟩
  ·rw [hm] at e1; omega
  ·have : j = x := by omega
   subst this
   exact .byte hs (hp _ hi ht) hm hh (ih e2)
/-- Whoever leaves a fragment comes by its end. -/
theorem path_cut {M : List St} {m t : Nat} {i : Nat} {w : List Int} (h : PathTo M t i w) {P : Nat → Prop} (hp : ∀ i, P i → i ≠ t) (hc : ∀ i s, M[i]? = some s → P i → i ≠ m → edgeIn s P) (hi : P i) : ∃ u v, w = u ++ v ∧ PathTo M m i u ∧ PathTo M t m v := by
 induction h with
 | done => exact absurd rfl (hp _ hi)
 | @eps i j w s hs ht hm hk ih =>
  by_cases him : i = m
  ·subst him
   exact ⟨[], w, rfl, .done, .eps hs ht hm hk⟩
  ·obtain ⟨x, e1, e2⟩ := (hc _ s hs hi him).1 _ hm
   have : j = x := by omega
   subst this
   obtain ⟨u, v, h1, h2, h3⟩ := ih e2
   exact ⟨u, v, h1, .eps hs him hm h2, h3⟩
 | @byte i j b w s hs ht hm hh hk ih =>
  by_cases him : i = m
  ·subst him
   exact ⟨[], b :: w, rfl, .done, .byte hs ht hm hh hk⟩
  ·rcases (hc _ s hs hi him).2 with e1 | ⟨x, e1, e2⟩
   ·rw [hm] at e1; omega
   ·have : j = x := by omega
    subst this
    obtain ⟨u, v, h1, h2, h3⟩ := ih e2
    exact ⟨b :: u, v, by rw [h1]; rfl, .byte hs him hm hh h2, h3⟩
/-- From a state that has ways alone. -/
theorem path_free {M : List St} {t i : Nat} {s : St} {w : List Int} (hs : M[i]? = some s) (ht : i ≠ t) (hto : s.to = -1) : PathTo M t i w ↔ ∃ j : Nat, (j : Int) ∈ s.free ∧ PathTo M t j w := by
 constructor
 ·intro h
  cases h with
  | done => exact absurd rfl ht
  | @eps _ j _ s' hs' _ hm hk =>
   rw [hs] at hs'
   injection hs' with hs'
   subst hs'
   exact ⟨j, hm, hk⟩
  | @byte _ j _ _ s' hs' _ hm _ _ =>
   rw [hs] at hs'
   injection hs' with hs'
   subst hs'
   rw [hto] at hm; omega
 ·rintro ⟨j, h1, h2⟩
  exact .eps hs ht h1 h2
theorem path_end {M : List St} {t : Nat} {w : List Int} (h : PathTo M t t w) : w = [] := by
 cases h with
 | done => rfl
 | eps _ hne _ _ => exact absurd rfl hne
 | byte _ hne _ _ _ => exact absurd rfl hne
theorem path_inv {M : List St} {t i : Nat} {s : St} {w : List Int} (h : PathTo M t i w) (ht : i ≠ t) (hs : M[i]? = some s) : (∃ j : Nat, (j : Int) ∈ s.free ∧ PathTo M t j w) ∨ ∃ (j : Nat) (b : Int) (v : List Int), w = b :: v ∧ s.to = (j : Int) ∧ s.has b = true ∧ PathTo M t j v := by
 cases h with
 | done => exact absurd rfl ht
 | @eps _ j _ s' hs' _ hm hk =>
  rw [hs] at hs'
  injection hs' with hs'
  subst hs'
  exact .inl ⟨j, hm, hk⟩
 | @byte _ j b v s' hs' _ hm hh hk =>
  rw [hs] at hs'
  injection hs' with hs'
  subst hs'
  exact .inr ⟨j, b, v, rfl, hm, hh, hk⟩
/-! ### pieces -/
theorem bFree_get {ns : List St} {i j k : Nat} : (bFree ns i j)[k]? = if k = i then (ns[k]?).map (addFree · j) else ns[k]? := by
 by_cases h : i < ns.length
 ·rw [bFree_eq h, List.getElem?_set]
  by_cases hk : k = i
  ·subst hk
   rw [if_pos rfl, if_pos h, if_pos rfl, List.getElem?_eq_getElem h]
   rfl
  ·rw [if_neg (Ne.symm hk), if_neg hk]
 ·have e : bFree ns i j = ns := by
   unfold bFree
   rw [List.getElem?_eq_none (show ns.length ≤ i by omega)]
  rw [e]
  by_cases hk : k = i
  ·subst hk
   rw [if_pos rfl, List.getElem?_eq_none (by omega)]
   rfl
  ·rw [if_neg hk]
structure Part (ns : List St) (p : List St × Nat × Nat) (L : List Int → Prop) : Prop where
 len : ns.length ≤ p.1.length
 old : ∀ i, i < ns.length → p.1[i]? = ns[i]?
 frag : Frag p.1 ns.length p.1.length p.2.1 p.2.2 L
 out : ∃ s, p.1[p.2.2]? = some s ∧ s.free = [] ∧ s.to = -1
 few : ∀ i s, p.1[i]? = some s → ns.length ≤ i → s.free.length ≤ 2
theorem get_lt {M : List St} {i : Nat} {s : St} (h : M[i]? = some s) : i < M.length := (List.getElem?_eq_some_iff.1 h).1
theorem app_old {a b : List St} {i : Nat} (h : i < a.length) : (a ++ b)[i]? = a[i]? := List.getElem?_append_left h
theorem app_0 {a : List St} {x : St} {t : List St} : (a ++ x :: t)[a.length]? = some x := by rw [List.getElem?_append_right (Nat.le_refl _)]; simp
theorem app_1 {a : List St} {x y : St} {t : List St} : (a ++ x :: y :: t)[a.length + 1]? = some y := by rw [List.getElem?_append_right (by omega)]; simp
/-- Three cases of a place in a list that was lengthened by two. -/
theorem app_two {a : List St} {x y s : St} {i : Nat} (h : (a ++ [x, y])[i]? = some s) (hi : a.length ≤ i) : (i = a.length ∧ s = x) ∨ (i = a.length + 1 ∧ s = y) := by
 have hl := get_lt h
 simp at hl
 by_cases h1 : i = a.length
 ·subst h1; rw [app_0] at h; injection h with h; exact .inl ⟨rfl, h.symm⟩
 ·have h2 : i = a.length + 1 := by omega
  subst h2; rw [app_1] at h; injection h with h; exact .inr ⟨rfl, h.symm⟩
theorem part_set (s : W4) (ns : List St) : Part ns (ns ++ [st0, ⟨s.w0, s.w1, s.w2, s.w3, (ns.length : Int), []⟩], ns.length + 1, ns.length) fun w => ∃ b, w = [b] ∧ s.hasI b = true := by
 have h1 : (ns ++ [st0, ⟨s.w0, s.w1, s.w2, s.w3, (ns.length : Int), []⟩])[ns.length + 1]? = some ⟨s.w0, s.w1, s.w2, s.w3, (ns.length : Int), []⟩ := app_1
 refine ⟨by simp, fun i hi => app_old hi, ⟨by simp, by simp, by simp, fun i x hx h2 h3 h4 => ?_, fun w => ?_⟩, ⟨st0, app_0, rfl, rfl⟩, fun i x hx h2 => ?_⟩
 ·rcases app_two hx h2 with ⟨h5, _⟩ | ⟨h5, h6⟩
  ·exact absurd h5 h4
  ·subst h6
   exact ⟨fun y hy => by simp at hy, .inr ⟨ns.length, rfl, by simp⟩⟩
 ·constructor
  ·intro h
   rcases path_inv h (by dsimp only; omega) h1 with ⟨j, hj, _⟩ | ⟨j, b, v, rfl, hj, hb, hk⟩
   ·simp at hj
   ·have : j = ns.length := by simp at hj; omega
    subst this
    have := path_end hk
    subst this
    exact ⟨b, rfl, hb⟩
  ·rintro ⟨b, rfl, hb⟩
   exact .byte h1 (by dsimp only; omega) rfl hb .done
 ·rcases app_two hx h2 with ⟨_, h6⟩ | ⟨_, h6⟩ <;> (subst h6; simp [st0, stF])
theorem part_none (ns : List St) : Part ns (ns ++ [st0, st0], ns.length, ns.length + 1) fun _ => False := by
 have h1 : (ns ++ [st0, st0])[ns.length]? = some st0 := app_0
 refine ⟨by simp, fun i hi => app_old hi, ⟨by simp, by simp, by simp, fun i x hx h2 h3 h4 => ?_, fun w => ?_⟩, ⟨st0, app_1, rfl, rfl⟩, fun i x hx h2 => ?_⟩
 ·rcases app_two hx h2 with ⟨_, h6⟩ | ⟨_, h6⟩ <;> (subst h6; exact ⟨fun y hy => by simp [st0, stF] at hy, .inl rfl⟩)
 ·dsimp only
  rw [path_free h1 (by omega) rfl]
  simp [st0, stF]
 ·rcases app_two hx h2 with ⟨_, h6⟩ | ⟨_, h6⟩ <;> (subst h6; simp [st0, stF])
theorem part_empty (ns : List St) : Part ns (bFree (ns ++ [st0, st0]) ns.length (ns.length + 1), ns.length, ns.length + 1) fun w => w = [] := by
 have hl : (bFree (ns ++ [st0, st0]) ns.length (ns.length + 1)).length = ns.length + 2 := by rw [bFree_len]; simp
 have h0 : (bFree (ns ++ [st0, st0]) ns.length (ns.length + 1))[ns.length]? = some (addFree st0 (ns.length + 1)) := by rw [bFree_get, if_pos rfl, app_0]; rfl
 have h1 : (bFree (ns ++ [st0, st0]) ns.length (ns.length + 1))[ns.length + 1]? = some st0 := by rw [bFree_get, if_neg (by omega), app_1]
 have two : ∀ i x, (bFree (ns ++ [st0, st0]) ns.length (ns.length + 1))[i]? = some x → ns.length ≤ i → (i = ns.length ∧ x = addFree st0 (ns.length + 1)) ∨ (i = ns.length + 1 ∧ x = st0) := by
  intro i x hx hi
  have := get_lt hx
  by_cases h : i = ns.length
  ·subst h; rw [h0] at hx; injection hx with hx; exact .inl ⟨rfl, hx.symm⟩
  ·have h2 : i = ns.length + 1 := by omega
   subst h2; rw [h1] at hx; injection hx with hx; exact .inr ⟨rfl, hx.symm⟩
 refine ⟨by dsimp only; omega, fun i hi => ?_, ⟨by dsimp only; omega, by dsimp only; omega, Nat.le_refl _, fun i x hx h2 h3 h4 => ?_, fun w => ?_⟩, ⟨st0, h1, rfl, rfl⟩, fun i x hx h2 => ?_⟩
 ·dsimp only; rw [bFree_get, if_neg (by omega), app_old hi]
 ·rcases two i x hx h2 with ⟨_, h6⟩ | ⟨h5, h6⟩
  ·subst h6
   refine ⟨fun y hy => ?_, .inl rfl⟩
   simp [addFree, st0, stF] at hy
   exact ⟨ns.length + 1, hy, by omega, by dsimp only; omega⟩
  ·exact absurd h5 h4
 ·dsimp only
  rw [path_free h0 (by omega) rfl]
  constructor
  ·rintro ⟨j, hj, hk⟩
   simp [addFree, st0, stF] at hj
   have : j = ns.length + 1 := by omega
   subst this
   exact path_end hk
  ·rintro rfl
   exact ⟨ns.length + 1, by simp [addFree, st0, stF], .done⟩
 ·rcases two i x hx h2 with ⟨_, h6⟩ | ⟨_, h6⟩ <;> (subst h6; simp [addFree, st0, stF])
theorem Part.congr {ns : List St} {p : List St × Nat × Nat} {L L' : List Int → Prop} (h : Part ns p L) (e : ∀ w, L w ↔ L' w) : Part ns p L' :=
 ⟨h.len, h.old, ⟨h.frag.hf, h.frag.ht, h.frag.hb, h.frag.cl, fun w => (h.frag.la w).trans (e w)⟩, h.out, h.few⟩
end Go.Proofs.YtfdgbghlanbddaaDoor.Av
set_option linter.unusedVariables false
set_option linter.unusedSimpArgs false
namespace Go.Proofs.YtfdgbghlanbddaaDoor.Av
/-! ### any number -/
theorem part_star {a : Rx} {ns : List St} {La : List Int → Prop} (h : Part (ns ++ [st0, st0]) (bPart a (ns ++ [st0, st0])) La) (t : List Rx) : Part ns (bStar (a :: t) ns) (Star La) := by
 rcases hq : bPart a (ns ++ [st0, st0]) with ⟨m, fi, out⟩
 rw [hq] at h
 have hbs : bStar (a :: t) ns = (bFree (bFree (bFree m ns.length fi) out ns.length) ns.length (ns.length + 1), ns.length, ns.length + 1) := by rw [bStar, hq]
 rw [hbs]
 have hml := h.len
 have hfi := h.frag.hf
 have hto := h.frag.ht
 obtain ⟨so, ho1, ho2, ho3⟩ := h.out
 simp only [List.length_append, List.length_cons, List.length_nil] at hml hfi hto
 dsimp only at hml hfi hto ho1
 let M := bFree (bFree (bFree m ns.length fi) out ns.length) ns.length (ns.length + 1)
 have hMl : M.length = m.length := by simp only [M, bFree_len]
 have hMf : M[ns.length]? = some (addFree (addFree st0 fi) (ns.length + 1)) := by
  simp only [M]
  rw [bFree_get, if_pos rfl, bFree_get, if_neg (by omega), bFree_get, if_pos rfl, h.old _ (by simp), app_0]
  rfl
 have hMo : M[out]? = some (addFree so ns.length) := by
  simp only [M]
  rw [bFree_get, if_neg (by omega), bFree_get, if_pos rfl, bFree_get, if_neg (by omega), ho1]
  rfl
 have hMt : M[ns.length + 1]? = some st0 := by
  simp only [M]
  rw [bFree_get, if_neg (by omega), bFree_get, if_neg (by omega), bFree_get, if_neg (by omega), h.old _ (by simp), app_1]
 have hMi : ∀ i, i ≠ ns.length → i ≠ out → M[i]? = m[i]? := by
  intro i h1 h2
  simp only [M]
  rw [bFree_get, if_neg h1, bFree_get, if_neg h2, bFree_get, if_neg h1]
 have hfr : Frag M (ns.length + 2) m.length fi out La := by
  have := h.frag.agree (M' := M) (by dsimp only; omega) (fun i h1 h2 h3 => hMi i (by simp at h1; omega) h3)
  simpa using this
 have hcl : ∀ i s, M[i]? = some s → ns.length + 2 ≤ i → i < m.length → i ≠ out → edgeIn s fun j => ns.length + 2 ≤ j ∧ j < m.length := fun i s hs h1 h2 h3 => hfr.cl i s hs h1 h2 h3
 have hcl2 : ∀ i s, M[i]? = some s → (ns.length + 2 ≤ i ∧ i < m.length) → i ≠ out → edgeIn s fun j => ns.length + 2 ≤ j ∧ j < m.length := fun i s hs h1 h3 => hfr.cl i s hs h1.1 h1.2 h3
 show Part ns (M, ns.length, ns.length + 1) _
 refine ⟨by dsimp only; omega, fun i hi => ?_, ⟨by dsimp only; omega, by dsimp only; omega, Nat.le_refl _, fun i s hs h1 h2 h3 => ?_, fun w => ?_⟩, ⟨st0, hMt, rfl, rfl⟩, fun i s hs h1 => ?_⟩
 ·show M[i]? = _
  rw [hMi i (by omega) (by omega), h.old i (by simp; omega), app_old hi]
 ·dsimp only at h2 h3 ⊢
  rw [hMl] at h2 ⊢
  by_cases h4 : i = ns.length
  ·subst h4
   have e : M[ns.length]? = some s := hs
   rw [hMf] at e
   injection e with e
   subst e
   refine ⟨fun x hx => ?_, .inl rfl⟩
   simp [addFree, st0, stF] at hx
   rcases hx with rfl | rfl
   ·exact ⟨fi, rfl, by omega⟩
   ·exact ⟨ns.length + 1, rfl, by omega⟩
  ·by_cases h5 : i = out
   ·subst h5
    have e : M[i]? = some s := hs
    rw [hMo] at e
    injection e with e
    subst e
    refine ⟨fun x hx => ?_, .inl ho3⟩
    simp [addFree, ho2] at hx
    exact ⟨ns.length, hx, by omega⟩
   ·exact (hcl i s hs (by omega) h2 h5).mono fun j hj => by omega
 ·show PathTo M (ns.length + 1) ns.length w ↔ _
  constructor
  ·intro hp
   have key : ∀ i w, PathTo M (ns.length + 1) i w → (i = ns.length → Star La w) ∧ ((ns.length + 2 ≤ i ∧ i < m.length) → ∃ u v, w = u ++ v ∧ PathTo M out i u ∧ Star La v) := by
    intro i w hp
    induction hp with
    | done => exact ⟨fun e => by omega, fun e => by omega⟩
    | @eps i j w s hs ht hm hk ih =>
     refine ⟨fun e => ?_, fun e => ?_⟩
     ·subst e
      rw [hMf] at hs
      injection hs with hs
      subst hs
      simp [addFree, st0, stF] at hm
      rcases hm with hm | hm
      ·have : j = fi := by omega
       subst this
       obtain ⟨u, v, rfl, h2, h3⟩ := ih.2 (by omega)
       exact .cons ((hfr.la u).1 h2) h3
      ·have : j = ns.length + 1 := by omega
       subst this
       rw [path_end hk]
       exact .nil
     ·by_cases h5 : i = out
      ·subst h5
       rw [hMo] at hs
       injection hs with hs
       subst hs
       simp [addFree, ho2] at hm
       exact ⟨[], w, rfl, .done, ih.1 (by omega)⟩
      ·obtain ⟨x, e1, e2⟩ := (hcl2 i s hs e h5).1 _ hm
       have : j = x := by omega
       subst this
       obtain ⟨u, v, h1, h2, h3⟩ := ih.2 e2
       exact ⟨u, v, h1, .eps hs h5 hm h2, h3⟩
    | @byte i j b w s hs ht hm hh hk ih =>
     refine ⟨fun e => ?_, fun e => ?_⟩
     ·subst e
      rw [hMf] at hs
      injection hs with hs
      subst hs
      simp only [addFree, st0, stF] at hm
      omega
     ·by_cases h5 : i = out
      ·subst h5
       rw [hMo] at hs
       injection hs with hs
       subst hs
       simp only [addFree, ho3] at hm
       omega
      ·rcases (hcl2 i s hs e h5).2 with e1 | ⟨x, e1, e2⟩
       ·rw [hm] at e1; omega
       ·have : j = x := by omega
        subst this
        obtain ⟨u, v, h1, h2, h3⟩ := ih.2 e2
        exact ⟨b :: u, v, by rw [h1]; rfl, .byte hs h5 hm hh h2, h3⟩
   exact (key _ _ hp).1 rfl
  ·intro hs
   induction hs with
   | nil => exact .eps hMf (by omega) (by simp [addFree, st0, stF]) .done
   | @cons u v hu hv ih =>
    refine .eps (j := fi) hMf (by omega) (by simp [addFree, st0, stF]) ?_
    refine path_app ((hfr.la u).2 hu) (.eps (j := ns.length) hMo (by omega) (by simp [addFree, ho2]) ih) (P := fun j => ns.length + 2 ≤ j ∧ j < m.length) (fun i h1 _ => by omega) (fun i s hs h1 h2 => hcl2 i s hs h1 h2) (by omega)
 ·have e : M[i]? = some s := hs
  by_cases h4 : i = ns.length
  ·subst h4
   rw [hMf] at e
   injection e with e
   subst e
   simp [addFree, st0, stF]
  ·by_cases h5 : i = out
   ·subst h5
    rw [hMo] at e
    injection e with e
    subst e
    simp [addFree, ho2]
   ·by_cases h6 : i = ns.length + 1
    ·subst h6
     rw [hMt] at e
     injection e with e
     subst e
     simp [st0, stF]
    ·rw [hMi i h4 h5] at e
     exact h.few i s e (by simp; omega)
/-! ### one behind the other -/
structure CQ (a : Nat) (n : List St) (f t : Nat) (L : List Int → Prop) : Prop where
 frag : Frag n a n.length f t L
 out : ∃ s, n[t]? = some s ∧ s.free = [] ∧ s.to = -1
 few : ∀ i s, n[i]? = some s → a ≤ i → s.free.length ≤ 2
theorem cat_one {a : Nat} {n : List St} {f t : Nat} {L Lx : List Int → Prop} {x : Rx} (h : CQ a n f t L) (k : Part n (bPart x n) Lx) :
  CQ a (bFree (bPart x n).1 t (bPart x n).2.1) f (bPart x n).2.2 (fun w => ∃ u v, w = u ++ v ∧ L u ∧ Lx v) ∧ (∀ i, i < a → (bFree (bPart x n).1 t (bPart x n).2.1)[i]? = n[i]?) ∧ n.length ≤ (bFree (bPart x n).1 t (bPart x n).2.1).length := by
 rcases hq : bPart x n with ⟨m, fi, out⟩
 rw [hq] at k
 have hml := k.len
 have hfi := k.frag.hf
 have hto := k.frag.ht
 obtain ⟨so, ho1, ho2, ho3⟩ := k.out
 obtain ⟨s0, hs1, hs2, hs3⟩ := h.out
 have hft := h.frag.ht
 have hff := h.frag.hf
 dsimp only at hml hfi hto ho1 ⊢
 let M := bFree m t fi
 have hMl : M.length = m.length := by simp only [M, bFree_len]
 have hMt : M[t]? = some (addFree s0 fi) := by
  simp only [M]
  rw [bFree_get, if_pos rfl, k.old t (by omega), hs1]
  rfl
 have hMi : ∀ i, i ≠ t → M[i]? = m[i]? := fun i h1 => by simp only [M]; rw [bFree_get, if_neg h1]
 have f1 : Frag M a n.length f t L := h.frag.agree (by omega) (fun i h1 h2 h3 => by rw [hMi i h3, k.old i h2])
 have f2 : Frag M n.length m.length fi out Lx := k.frag.agree (by dsimp only; omega) (fun i h1 h2 h3 => hMi i (by omega))
 refine ⟨⟨⟨by rw [bFree_len]; omega, by rw [bFree_len]; omega, Nat.le_refl _, fun i s hs h1 h2 h3 => ?_, fun w => ?_⟩, ⟨so, ?_, ho2, ho3⟩, fun i s hs h1 => ?_⟩, fun i hi => ?_, by rw [bFree_len]; exact hml⟩
 ·rw [bFree_len] at h2 ⊢
  by_cases h4 : i = t
  ·subst h4
   have e : M[i]? = some s := hs
   rw [hMt] at e
   injection e with e
   subst e
   refine ⟨fun y hy => ?_, .inl hs3⟩
   simp [addFree, hs2] at hy
   exact ⟨fi, hy, by omega⟩
  ·by_cases h5 : i < n.length
   ·exact (f1.cl i s hs h1 h5 h4).mono fun j hj => by omega
   ·exact (f2.cl i s hs (by omega) h2 h3).mono fun j hj => by omega
 ·show PathTo M out f w ↔ _
  constructor
  ·intro hp
   obtain ⟨u, v, e, h2, h3⟩ := path_cut (m := t) hp (P := fun j => a ≤ j ∧ j < n.length) (fun i h1 => by omega) (fun i s hs h1 h2 => f1.cl i s hs h1.1 h1.2 h2) hff
   obtain ⟨j, hj, hk⟩ := (path_free hMt (by omega) hs3).1 h3
   simp [addFree, hs2] at hj
   have : j = fi := by omega
   subst this
   exact ⟨u, v, e, (f1.la u).1 h2, (f2.la v).1 hk⟩
  ·rintro ⟨u, v, rfl, h1, h2⟩
   refine path_app ((f1.la u).2 h1) ((path_free hMt (by omega) hs3).2 ⟨fi, by simp [addFree, hs2], (f2.la v).2 h2⟩) (P := fun j => a ≤ j ∧ j < n.length) (fun i h1 _ => by omega) (fun i s hs h1 h2 => f1.cl i s hs h1.1 h1.2 h2) hff
 ·show M[out]? = some so
  rw [hMi out (by omega)]; exact ho1
 ·have e : M[i]? = some s := hs
  by_cases h4 : i = t
  ·subst h4
   rw [hMt] at e
   injection e with e
   subst e
   simp [addFree, hs2]
  ·rw [hMi i h4] at e
   by_cases h5 : i < n.length
   ·rw [k.old i h5] at e
    exact h.few i s e h1
   ·exact k.few i s e (by omega)
 ·show M[i]? = _
  rw [hMi i (by omega), k.old i (by omega)]
/-! ### one of some -/
/-- A head of the row of states, in a machine that has more behind it. -/
theorem alt_head {T : Nat} {n M : List St} {x : Rx} {r : List Rx} {Lx : List Int → Prop} {X : List Int} {sh : St} (hT : T < n.length) (k : Part n (bPart x n) Lx) (hl : (bPart x n).1.length < M.length)
  (hag : ∀ i, n.length ≤ i → i < (bPart x n).1.length → M[i]? = (bFree (bPart x n).1 (bPart x n).2.2 T)[i]?) (hs : M[(bPart x n).1.length]? = some sh) (hs1 : sh.to = -1) (hs2 : sh.free = ((bPart x n).2.1 : Int) :: X)
  (hX : ∀ w, (∃ j : Nat, (j : Int) ∈ X ∧ PathTo M T j w) ↔ Rx.langAlt r w) (hx : ∀ w, Lx w ↔ x.lang w) :
  (∀ w, PathTo M T (bPart x n).1.length w ↔ Rx.langAlt (x :: r) w) ∧ (∀ i s, M[i]? = some s → n.length ≤ i → i < (bPart x n).1.length → edgeIn s (fun j => j = T ∨ (n.length ≤ j ∧ j < (bPart x n).1.length)) ∧ s.free.length ≤ 2) := by
 rcases hq : bPart x n with ⟨m, fi, out⟩
 rw [hq] at k hl hag hs hs2
 have hml := k.len
 have hfi := k.frag.hf
 have hto := k.frag.ht
 obtain ⟨so, ho1, ho2, ho3⟩ := k.out
 dsimp only at *
 have hMo : M[out]? = some (addFree so T) := by
  rw [hag out hto.1 hto.2, bFree_get, if_pos rfl, ho1]
  rfl
 have hMi : ∀ i, n.length ≤ i → i < m.length → i ≠ out → M[i]? = m[i]? := fun i h1 h2 h3 => by rw [hag i h1 h2, bFree_get, if_neg h3]
 have f2 : Frag M n.length m.length fi out Lx := k.frag.agree (by dsimp only; omega) (fun i h1 h2 h3 => hMi i h1 h2 h3)
 have hin : ∀ w, PathTo M T fi w ↔ x.lang w := by
  intro w
  rw [← hx, ← f2.la]
  constructor
  ·intro hp
   obtain ⟨u, v, e, h2, h3⟩ := path_cut (m := out) hp (P := fun j => n.length ≤ j ∧ j < m.length) (fun i h1 => by omega) (fun i s hs h1 h2 => f2.cl i s hs h1.1 h1.2 h2) hfi
   obtain ⟨j, hj, hk⟩ := (path_free hMo (by omega) ho3).1 h3
   simp [addFree, ho2] at hj
   have : j = T := by omega
   subst this
   rw [path_end hk, List.append_nil] at e
   rw [e]; exact h2
  ·intro hp
   have := path_app hp ((path_free hMo (by omega) ho3).2 ⟨T, by simp [addFree, ho2], .done⟩) (P := fun j => n.length ≤ j ∧ j < m.length) (t := T) (fun i h1 _ => by omega) (fun i s hs h1 h2 => f2.cl i s hs h1.1 h1.2 h2) hfi
   rwa [List.append_nil] at this
 refine ⟨fun w => ?_, fun i s hsi h1 h2 => ?_⟩
 ·rw [path_free hs (by omega) hs1, hs2, langAlt_cons, ← hin, ← hX]
  constructor
  ·rintro ⟨j, hj, hk⟩
   rcases List.mem_cons.1 hj with e | hj
   ·have : j = fi := by omega
    subst this
    exact .inl hk
   ·exact .inr ⟨j, hj, hk⟩
  ·rintro (hk | ⟨j, hj, hk⟩)
   ·exact ⟨fi, by simp, hk⟩
   ·exact ⟨j, List.mem_cons.2 (.inr hj), hk⟩
 ·by_cases h3 : i = out
  ·subst h3
   rw [hMo] at hsi
   injection hsi with hsi
   subst hsi
   refine ⟨⟨fun y hy => ?_, .inl ho3⟩, by simp [addFree, ho2]⟩
   simp [addFree, ho2] at hy
   exact ⟨T, hy, .inl rfl⟩
  ·refine ⟨(f2.cl i s hsi h1 h2 h3).mono fun j hj => .inr hj, ?_⟩
   rw [hMi i h1 h2 h3] at hsi
   exact k.few i s hsi h1
structure AR (T : Nat) (n : List St) (f l : Nat) (s0 : St) (r : List Rx) (p : List St × Nat × Nat) : Prop where
 f : p.2.1 = f
 t : p.2.2 = T
 len : n.length ≤ p.1.length
 old : ∀ i, i < n.length → i ≠ l → p.1[i]? = n[i]?
 last : ∃ X s1, p.1[l]? = some s1 ∧ s1.to = -1 ∧ s1.free = s0.free ++ X ∧ X.length ≤ 1 ∧ (∀ x ∈ X, ∃ j : Nat, x = (j : Int) ∧ n.length ≤ j ∧ j < p.1.length) ∧ ∀ w, (∃ j : Nat, (j : Int) ∈ X ∧ PathTo p.1 T j w) ↔ Rx.langAlt r w
 new : ∀ i s, p.1[i]? = some s → n.length ≤ i → edgeIn s (fun j => j = T ∨ (n.length ≤ j ∧ j < p.1.length)) ∧ s.free.length ≤ 2
theorem alt_nil {T f l : Nat} {n : List St} {s0 : St} (h : n[l]? = some s0) (h0 : s0.to = -1) : AR T n f l s0 [] (bAltGo [] n (some (f, l)) T) := by
 rw [bAltGo]
 refine ⟨rfl, rfl, Nat.le_refl _, fun i _ _ => rfl, ⟨[], s0, h, h0, by simp, by simp, by simp, fun w => ?_⟩, fun i s hs hi => ?_⟩
 ·constructor
  ·rintro ⟨j, hj, _⟩; simp at hj
  ·exact fun e => absurd e (langAlt_nil w)
 ·have := get_lt hs; dsimp only at this; omega
theorem alt_cons {T f l : Nat} {n : List St} {s0 : St} {x : Rx} {r : List Rx} (hT : T < n.length) (hl : l < n.length) (h : n[l]? = some s0) (h0 : s0.to = -1) (k : Part n (bPart x n) x.lang)
  (ih : ∀ n' s0', T < n'.length → (bPart x n).1.length < n'.length → n'[(bPart x n).1.length]? = some s0' → s0'.to = -1 → AR T n' f (bPart x n).1.length s0' r (bAltGo r n' (some (f, (bPart x n).1.length)) T)) : AR T n f l s0 (x :: r) (bAltGo (x :: r) n (some (f, l)) T) := by
 rw [bAltGo]
 rcases hq : bPart x n with ⟨m, fi, out⟩
 rw [hq] at ih
 have k' := k
 rw [hq] at k'
 have hml := k'.len
 have hfi := k'.frag.hf
 have hto := k'.frag.ht
 dsimp only at hml hfi hto ih ⊢
 let n3 := bFree (bFree m out T ++ [stF [(fi : Int)]]) l m.length
 have hn3 : n3.length = m.length + 1 := by simp [n3, bFree_len]
 have hlm : (bFree m out T).length = m.length := bFree_len _ _ _
 have h3s : n3[m.length]? = some (stF [(fi : Int)]) := by
  simp only [n3]
  rw [bFree_get, if_neg (by omega), ← hlm, app_0]
 have h3l : n3[l]? = some (addFree s0 m.length) := by
  simp only [n3]
  rw [bFree_get, if_pos rfl, app_old (by omega), bFree_get, if_neg (by omega), k'.old l hl, h]
  rfl
 have h3i : ∀ i, i < m.length → i ≠ l → n3[i]? = (bFree m out T)[i]? := fun i h1 h2 => by
  simp only [n3]
  rw [bFree_get, if_neg h2, app_old (by omega)]
 have A := ih n3 (stF [(fi : Int)]) (by omega) (by omega) h3s rfl
 obtain ⟨X, s1, a1, a2, a3, a4, a5, a6⟩ := A.last
 have hMlen := A.len
 rw [hn3] at hMlen
 have H := alt_head (T := T) (n := n) (M := (bAltGo r n3 (some (f, m.length)) T).1) (x := x) (r := r) (X := X) (sh := s1) hT k (by rw [hq]; dsimp only; omega)
  (fun i h1 h2 => by rw [hq] at h2 ⊢; dsimp only at h2 ⊢; rw [A.old i (by omega) (by omega), h3i i h2 (by omega)]) (by rw [hq]; exact a1) a2 (by rw [hq, a3]; rfl) a6 (fun w => Iff.rfl)
 rw [hq] at H
 dsimp only at H
 show AR T n f l s0 (x :: r) (bAltGo r n3 (some (f, m.length)) T)
 refine ⟨A.f, A.t, by omega, fun i h1 h2 => ?_, ⟨[(m.length : Int)], addFree s0 m.length, ?_, h0, rfl, by simp, fun y hy => ?_, fun w => ?_⟩, fun i s hs h1 => ?_⟩
 ·rw [A.old i (by omega) (by omega), h3i i (by omega) h2, bFree_get, if_neg (by omega), k'.old i h1]
 ·rw [A.old l (by omega) (by omega)]; exact h3l
 ·simp at hy; exact ⟨m.length, hy, by omega, by omega⟩
 ·rw [← H.1 w]
  constructor
  ·rintro ⟨j, hj, hk⟩
   simp at hj
   have : j = m.length := by omega
   subst this
   exact hk
  ·intro hk; exact ⟨m.length, by simp, hk⟩
 ·rcases Nat.lt_trichotomy i m.length with h2 | h2 | h2
  ·obtain ⟨b1, b2⟩ := H.2 i s hs h1 h2
   exact ⟨b1.mono fun j hj => by omega, b2⟩
  ·subst h2
   rw [a1] at hs
   injection hs with hs
   subst hs
   refine ⟨⟨fun y hy => ?_, .inl a2⟩, by rw [a3]; simp [stF]; omega⟩
   rw [a3] at hy
   rcases List.mem_append.1 hy with hy | hy
   ·simp [stF] at hy
    exact ⟨fi, hy, .inr (by omega)⟩
   ·obtain ⟨j, e1, e2, e3⟩ := a5 y hy
    exact ⟨j, e1, .inr (by omega)⟩
  ·obtain ⟨b1, b2⟩ := A.new i s hs (by omega)
   exact ⟨b1.mono fun j hj => by omega, b2⟩
theorem alt_first {x : Rx} {r : List Rx} {ns : List St} (k : Part (ns ++ [st0]) (bPart x (ns ++ [st0])) x.lang)
  (ih : ∀ n' f l s0', ns.length < n'.length → l < n'.length → n'[l]? = some s0' → s0'.to = -1 → AR ns.length n' f l s0' r (bAltGo r n' (some (f, l)) ns.length)) : Part ns (bAltGo (x :: r) (ns ++ [st0]) none ns.length) (Rx.langAlt (x :: r)) := by
 rw [bAltGo]
 rcases hq : bPart x (ns ++ [st0]) with ⟨m, fi, out⟩
 have k' := k
 rw [hq] at k'
 have hml := k'.len
 have hfi := k'.frag.hf
 have hto := k'.frag.ht
 simp only [List.length_append, List.length_cons, List.length_nil] at hml hfi hto
 dsimp only
 let n3 := bFree m out ns.length ++ [stF [(fi : Int)]]
 have hn3 : n3.length = m.length + 1 := by simp [n3, bFree_len]
 have hlm : (bFree m out ns.length).length = m.length := bFree_len _ _ _
 have h3s : n3[m.length]? = some (stF [(fi : Int)]) := by
  simp only [n3]
  rw [← hlm, app_0]
 have h3i : ∀ i, i < m.length → n3[i]? = (bFree m out ns.length)[i]? := fun i h1 => by
  simp only [n3]
  rw [app_old (by omega)]
 have A := ih n3 m.length m.length (stF [(fi : Int)]) (by omega) (by omega) h3s rfl
 obtain ⟨X, s1, a1, a2, a3, a4, a5, a6⟩ := A.last
 have hMlen := A.len
 rw [hn3] at hMlen
 have H := alt_head (T := ns.length) (n := ns ++ [st0]) (M := (bAltGo r n3 (some (m.length, m.length)) ns.length).1) (x := x) (r := r) (X := X) (sh := s1) (by simp) k (by rw [hq]; dsimp only; omega)
  (fun i h1 h2 => by rw [hq] at h2 ⊢; dsimp only at h2 ⊢; rw [A.old i (by omega) (by omega), h3i i h2]) (by rw [hq]; exact a1) a2 (by rw [hq, a3]; rfl) a6 (fun w => Iff.rfl)
 rw [hq] at H
 simp only [List.length_append, List.length_cons, List.length_nil] at H
 have hMT : (bAltGo r n3 (some (m.length, m.length)) ns.length).1[ns.length]? = some st0 := by
  rw [A.old ns.length (by omega) (by omega), h3i _ (by omega), bFree_get, if_neg (by omega), k'.old _ (by simp), app_0]
 have new : ∀ i s, (bAltGo r n3 (some (m.length, m.length)) ns.length).1[i]? = some s → ns.length ≤ i → edgeIn s (fun j => ns.length ≤ j ∧ j < (bAltGo r n3 (some (m.length, m.length)) ns.length).1.length) ∧ s.free.length ≤ 2 := by
  intro i s hs h1
  by_cases h0 : i = ns.length
  ·subst h0
   rw [hMT] at hs
   injection hs with hs
   subst hs
   exact ⟨⟨fun y hy => by simp [st0, stF] at hy, .inl rfl⟩, by simp [st0, stF]⟩
  rcases Nat.lt_trichotomy i m.length with h2 | h2 | h2
  ·obtain ⟨b1, b2⟩ := H.2 i s hs (by omega) h2
   exact ⟨b1.mono fun j hj => by omega, b2⟩
  ·subst h2
   rw [a1] at hs
   injection hs with hs
   subst hs
   refine ⟨⟨fun y hy => ?_, .inl a2⟩, by rw [a3]; simp [stF]; omega⟩
   rw [a3] at hy
   rcases List.mem_append.1 hy with hy | hy
   ·simp [stF] at hy
    exact ⟨fi, hy, by omega⟩
   ·obtain ⟨j, e1, e2, e3⟩ := a5 y hy
    exact ⟨j, e1, by omega⟩
  ·obtain ⟨b1, b2⟩ := A.new i s hs (by omega)
   exact ⟨b1.mono fun j hj => by omega, b2⟩
 have e1 : bAltGo r n3 (some (m.length, m.length)) ns.length = ((bAltGo r n3 (some (m.length, m.length)) ns.length).1, m.length, ns.length) := by
  rw [← A.f, ← A.t]
  have := A.f
  have := A.t
  ext1
  ·simp_all
  ·ext1 <;> simp_all
 show Part ns (bAltGo r n3 (some (m.length, m.length)) ns.length) _
 rw [e1]
 refine ⟨by dsimp only; omega, fun i hi => ?_, ⟨by dsimp only; omega, by dsimp only; omega, Nat.le_refl _, fun i s hs h1 h2 h3 => (new i s hs h1).1, fun w => H.1 w⟩, ⟨st0, hMT, rfl, rfl⟩, fun i s hs h1 => (new i s hs h1).2⟩
 dsimp only
 rw [A.old i (by omega) (by omega), h3i i (by omega), bFree_get, if_neg (by omega), k'.old i (by simp; omega), app_old hi]
end Go.Proofs.YtfdgbghlanbddaaDoor.Av
set_option linter.unusedVariables false
set_option linter.unusedSimpArgs false
namespace Go.Proofs.YtfdgbghlanbddaaDoor.Av
theorem Part.cq {n : List St} {p : List St × Nat × Nat} {L : List Int → Prop} (h : Part n p L) : CQ n.length p.1 p.2.1 p.2.2 L := ⟨h.frag, h.out, h.few⟩
theorem right_star {k : Int} {s : W4} {l : List Rx} (h : right k s l = true) (hk : k = 6) : l.length = 1 := by
 subst hk
 simp [right] at h
 exact h.1.2
theorem right_ne {k : Int} {s : W4} {l : List Rx} (h : right k s l = true) (hk : k = 4 ∨ k = 5) : l ≠ [] := by
 rintro rfl
 rcases hk with rfl | rfl <;> simp [right] at h
mutual
theorem part_all : ∀ (r : Rx) (ns : List St), r.plain = true → Part ns (bPart r ns) r.lang
 | .mk k s l, ns, h => by
  simp only [Rx.plain, Bool.and_eq_true] at h
  have hk := right_kinds h.1
  rw [bPart]
  by_cases h3 : k = 3
  ·rw [if_pos h3]
   exact (part_set s ns).congr fun w => by rw [kind_3 (r := .mk k s l) h3]; rfl
  ·rw [if_neg h3]
   by_cases h4 : k = 4
   ·rw [if_pos h4]
    exact (cat_list l ns h.2 (right_ne h.1 (.inl h4))).congr fun w => by rw [kind_4 (r := .mk k s l) h4]; rfl
   ·rw [if_neg h4]
    by_cases h5 : k = 5
    ·rw [if_pos h5]
     exact (alt_list l ns h.2 (right_ne h.1 (.inr h5))).congr fun w => by rw [← kind_5 (r := .mk k s l) h5]; rfl
    ·rw [if_neg h5]
     by_cases h6 : k = 6
     ·rw [if_pos h6]
      exact (star_list l ns h.2 (right_star h.1 h6)).congr fun w => by rw [kind_6 (r := .mk k s l) h6]; rfl
     ·rw [if_neg h6]
      by_cases h2 : k = 2
      ·rw [if_pos h2]
       exact (part_empty ns).congr fun w => by rw [kind_2 (r := .mk k s l) h2]
      ·rw [if_neg h2]
       exact (part_none ns).congr fun w => ⟨fun e => e.elim, fun e => kind_0 (r := .mk k s l) ⟨h2, h3, h4, h5, h6⟩ w e⟩
theorem star_list : ∀ (l : List Rx) (ns : List St), Rx.plainL l = true → l.length = 1 → Part ns (bStar l ns) (Star (Rx.langOne l))
 | [], _, _, h => by simp at h
 | a :: t, ns, h, hl => by
  simp only [Rx.plainL, Bool.and_eq_true] at h
  have ht : t = [] := by simpa using hl
  subst ht
  refine part_star (Part.congr (part_all a (ns ++ [st0, st0]) h.1) fun w => ?_) []
  rw [langOne_iff]
  simp
theorem cat_list : ∀ (l : List Rx) (ns : List St), Rx.plainL l = true → l ≠ [] → Part ns (bCat l ns) (Rx.langCat l)
 | [], _, _, h => absurd rfl h
 | a :: t, ns, h, _ => by
  simp only [Rx.plainL, Bool.and_eq_true] at h
  have P := part_all a ns h.1
  rw [bCat]
  obtain ⟨c1, c2, c3⟩ := cat_all t (bPart a ns).1 ns.length (bPart a ns).2.1 (bPart a ns).2.2 a.lang h.2 P.cq
  refine ⟨Nat.le_trans P.len c3, fun i hi => (c2 i hi).trans (P.old i hi), ⟨c1.frag.hf, c1.frag.ht, c1.frag.hb, c1.frag.cl, fun w => (c1.frag.la w).trans (langCat_cons a t w).symm⟩, c1.out, c1.few⟩
theorem cat_all : ∀ (l : List Rx) (n : List St) (a f t : Nat) (L : List Int → Prop), Rx.plainL l = true → CQ a n f t L →
  CQ a (bCatGo l n f t).1 (bCatGo l n f t).2.1 (bCatGo l n f t).2.2 (fun w => ∃ u v, w = u ++ v ∧ L u ∧ Rx.langCat l v) ∧ (∀ i, i < a → (bCatGo l n f t).1[i]? = n[i]?) ∧ n.length ≤ (bCatGo l n f t).1.length
 | [], n, a, f, t, L, _, h => by
  rw [bCatGo]
  refine ⟨⟨⟨h.frag.hf, h.frag.ht, h.frag.hb, h.frag.cl, fun w => (h.frag.la w).trans ?_⟩, h.out, h.few⟩, fun _ _ => rfl, Nat.le_refl _⟩
  constructor
  ·intro hw; exact ⟨w, [], by simp, hw, (langCat_nil _).2 rfl⟩
  ·rintro ⟨u, v, rfl, h1, h2⟩
   rw [langCat_nil] at h2
   subst h2
   simpa using h1
 | x :: r, n, a, f, t, L, hp, h => by
  simp only [Rx.plainL, Bool.and_eq_true] at hp
  obtain ⟨d1, d2, d3⟩ := cat_one h (part_all x n hp.1)
  obtain ⟨c1, c2, c3⟩ := cat_all r (bFree (bPart x n).1 t (bPart x n).2.1) a f (bPart x n).2.2 _ hp.2 d1
  rw [bCatGo]
  refine ⟨⟨⟨c1.frag.hf, c1.frag.ht, c1.frag.hb, c1.frag.cl, fun w => (c1.frag.la w).trans ?_⟩, c1.out, c1.few⟩, fun i hi => (c2 i hi).trans (d2 i hi), Nat.le_trans d3 c3⟩
  constructor
  ·rintro ⟨_, v, rfl, ⟨u1, u2, rfl, h1, h2⟩, h3⟩
   exact ⟨u1, u2 ++ v, by rw [List.append_assoc], h1, (langCat_cons _ _ _).2 ⟨u2, v, rfl, h2, h3⟩⟩
  ·rintro ⟨u, v, rfl, h1, h2⟩
   obtain ⟨v1, v2, rfl, h3, h4⟩ := (langCat_cons _ _ _).1 h2
   exact ⟨u ++ v1, v2, by rw [List.append_assoc], ⟨u, v1, rfl, h1, h3⟩, h4⟩
theorem alt_list : ∀ (l : List Rx) (ns : List St), Rx.plainL l = true → l ≠ [] → Part ns (bAltGo l (ns ++ [st0]) none ns.length) (Rx.langAlt l)
 | [], _, _, h => absurd rfl h
 | x :: r, ns, h, _ => by
  simp only [Rx.plainL, Bool.and_eq_true] at h
  exact alt_first (part_all x (ns ++ [st0]) h.1) fun n' f l s0' h1 h2 h3 h4 => alt_all r n' f l ns.length s0' h.2 h1 h2 h3 h4
theorem alt_all : ∀ (r : List Rx) (n : List St) (f l T : Nat) (s0 : St), Rx.plainL r = true → T < n.length → l < n.length → n[l]? = some s0 → s0.to = -1 → AR T n f l s0 r (bAltGo r n (some (f, l)) T)
 | [], n, f, l, T, s0, _, _, _, h3, h4 => alt_nil h3 h4
 | x :: r, n, f, l, T, s0, h, h1, h2, h3, h4 => by
  simp only [Rx.plainL, Bool.and_eq_true] at h
  exact alt_cons h1 h2 h3 h4 (part_all x n h.1) fun n' s0' g1 g2 g3 g4 => alt_all r n' f (bPart x n).1.length T s0' h.2 g1 g2 g3 g4
end
/-! ### how great it is -/
mutual
theorem len_part : ∀ (r : Rx) (ns : List St), (bPart r ns).1.length + 1 ≤ ns.length + 3 * r.nodes
 | .mk k s l, ns => by
  rw [bPart, Rx.nodes]
  split
  ·simp; omega
  ·split
   ·have := len_cat l ns; omega
   ·split
    ·have := len_alt l (ns ++ [st0]) none ns.length
     simp only [List.length_append, List.length_cons, List.length_nil] at this
     omega
    ·split
     ·have := len_star l ns; omega
     ·split
      ·simp [bFree_len]; omega
      ·simp; omega
theorem len_star : ∀ (l : List Rx) (ns : List St), (bStar l ns).1.length ≤ ns.length + 3 * Rx.nodesL l + 1
 | [], ns => by rw [bStar]; simp [Rx.nodesL]
 | a :: t, ns => by
  have := len_part a (ns ++ [st0, st0])
  simp only [List.length_append, List.length_cons, List.length_nil] at this
  rw [bStar]
  simp only [bFree_len, Rx.nodesL]
  omega
theorem len_cat : ∀ (l : List Rx) (ns : List St), (bCat l ns).1.length ≤ ns.length + 3 * Rx.nodesL l
 | [], ns => by rw [bCat]; simp [Rx.nodesL]
 | a :: t, ns => by
  have h1 := len_part a ns
  have h2 := len_catGo t (bPart a ns).1 (bPart a ns).2.1 (bPart a ns).2.2
  rw [bCat, Rx.nodesL]
  omega
theorem len_catGo : ∀ (l : List Rx) (ns : List St) (f t : Nat), (bCatGo l ns f t).1.length ≤ ns.length + 3 * Rx.nodesL l
 | [], ns, f, t => by rw [bCatGo]; simp [Rx.nodesL]
 | a :: r, ns, f, t => by
  have h1 := len_part a ns
  have h2 := len_catGo r (bFree (bPart a ns).1 t (bPart a ns).2.1) f (bPart a ns).2.2
  rw [bFree_len] at h2
  rw [bCatGo, Rx.nodesL]
  omega
theorem len_alt : ∀ (l : List Rx) (ns : List St) (fl : Option (Nat × Nat)) (t : Nat), (bAltGo l ns fl t).1.length ≤ ns.length + 3 * Rx.nodesL l
 | [], ns, fl, t => by rw [bAltGo]; simp [Rx.nodesL]
 | a :: r, ns, none, t => by
  have h1 := len_part a ns
  have h2 := len_alt r (bFree (bPart a ns).1 (bPart a ns).2.2 t ++ [stF [((bPart a ns).2.1 : Int)]]) (some ((bPart a ns).1.length, (bPart a ns).1.length)) t
  simp only [List.length_append, bFree_len, List.length_cons, List.length_nil] at h2
  rw [bAltGo, Rx.nodesL]
  omega
 | a :: r, ns, some (f, l), t => by
  have h1 := len_part a ns
  have h2 := len_alt r (bFree (bFree (bPart a ns).1 (bPart a ns).2.2 t ++ [stF [((bPart a ns).2.1 : Int)]]) l (bPart a ns).1.length) (some (f, (bPart a ns).1.length)) t
  simp only [List.length_append, bFree_len, List.length_cons, List.length_nil] at h2
  rw [bAltGo, Rx.nodesL]
  omega
end
/-! ### a run -/
inductive Acc (M : List St) : Nat → List Int → Nat → Prop
 | refl {i : Nat} : Acc M i [] i
 | eps {i j k : Nat} {w : List Int} {s : St} : M[i]? = some s → (j : Int) ∈ s.free → Acc M j w k → Acc M i w k
 | byte {i j k : Nat} {b : Int} {w : List Int} {s : St} : M[i]? = some s → s.to = (j : Int) → s.has b = true → Acc M j w k → Acc M i (b :: w) k
end Go.Proofs.YtfdgbghlanbddaaDoor.Av
set_option linter.unusedVariables false
set_option linter.unusedSimpArgs false
namespace Go.Proofs.YtfdgbghlanbddaaDoor.Av
/-! ### the words of the states -/
def wordsOk (ns : List St) : Prop := ∀ s ∈ ns, 0 ≤ s.w0 ∧ 0 ≤ s.w1 ∧ 0 ≤ s.w2 ∧ 0 ≤ s.w3
theorem wordsOk.app {a b : List St} (h : wordsOk a) (g : wordsOk b) : wordsOk (a ++ b) := fun s hs => (List.mem_append.1 hs).elim (h s) (g s)
theorem words_stF (l : List Int) : wordsOk [stF l] := fun s hs => by
 simp only [List.mem_cons, List.not_mem_nil, or_false] at hs
 subst hs
 exact ⟨Int.le_refl _, Int.le_refl _, Int.le_refl _, Int.le_refl _⟩
theorem words_st0 : wordsOk [st0] := words_stF []
theorem words_st00 : wordsOk [st0, st0] := words_st0.app words_st0
theorem wordsOk.free {ns : List St} (h : wordsOk ns) (i j : Nat) : wordsOk (bFree ns i j) := by
 unfold bFree
 split
 ·rename_i s hs
  intro x hx
  rcases List.mem_or_eq_of_mem_set hx with hx | hx
  ·exact h x hx
  ·subst hx
   exact h s (List.mem_of_getElem? hs)
 ·exact h
mutual
theorem words_part : ∀ (r : Rx) (ns : List St), r.ok → wordsOk ns → wordsOk (bPart r ns).1
 | .mk k s l, ns, h, g => by
  have hs : s.ok := h.2.1
  have hl : Rx.oks l := h.2.2
  rw [bPart]
  split
  ·refine g.app (words_st0.app (b := [_]) fun x hx => ?_)
   simp only [List.mem_cons, List.not_mem_nil, or_false] at hx
   subst hx
   exact ⟨hs.1, hs.2.1, hs.2.2.1, hs.2.2.2.1⟩
  ·split
   ·exact words_cat l ns hl g
   ·split
    ·exact words_alt l _ none _ hl (g.app words_st0)
    ·split
     ·exact words_star l ns hl g
     ·split
      ·exact (g.app words_st00).free _ _
      ·exact g.app words_st00
theorem words_star : ∀ (l : List Rx) (ns : List St), Rx.oks l → wordsOk ns → wordsOk (bStar l ns).1
 | [], ns, _, g => by rw [bStar]; exact g
 | a :: t, ns, h, g => by
  rw [bStar]
  exact (((words_part a _ h.1 (g.app words_st00)).free _ _).free _ _).free _ _
theorem words_cat : ∀ (l : List Rx) (ns : List St), Rx.oks l → wordsOk ns → wordsOk (bCat l ns).1
 | [], ns, _, g => by rw [bCat]; exact g
 | a :: t, ns, h, g => by
  rw [bCat]
  exact words_catGo t _ _ _ h.2 (words_part a _ h.1 g)
theorem words_catGo : ∀ (l : List Rx) (ns : List St) (f t : Nat), Rx.oks l → wordsOk ns → wordsOk (bCatGo l ns f t).1
 | [], ns, _, _, _, g => by rw [bCatGo]; exact g
 | a :: r, ns, f, t, h, g => by
  rw [bCatGo]
  exact words_catGo r _ _ _ h.2 ((words_part a _ h.1 g).free _ _)
theorem words_alt : ∀ (l : List Rx) (ns : List St) (fl : Option (Nat × Nat)) (t : Nat), Rx.oks l → wordsOk ns → wordsOk (bAltGo l ns fl t).1
 | [], ns, _, _, _, g => by rw [bAltGo]; exact g
 | a :: r, ns, none, t, h, g => by
  rw [bAltGo]
  exact words_alt r _ _ _ h.2 (((words_part a _ h.1 g).free _ _).app (words_stF _))
 | a :: r, ns, some (f, l), t, h, g => by
  rw [bAltGo]
  exact words_alt r _ _ _ h.2 ((((words_part a _ h.1 g).free _ _).app (words_stF _)).free _ _)
end
end Go.Proofs.YtfdgbghlanbddaaDoor.Av
set_option linter.unusedVariables false
set_option linter.unusedSimpArgs false
set_option maxRecDepth 8000
namespace Go.Proofs.YtfdgbghlanbddaaDoor.Av
open Go.RowKit Go.Proofs
end Go.Proofs.YtfdgbghlanbddaaDoor.Av
set_option linter.unusedVariables false
set_option linter.unusedSimpArgs false
namespace Go.Proofs.YtfdgbghlanbddaaDoor.Av
/-! ### the empty word, any word, the first bytes -/
mutual
def Rx.null : Rx → Bool
 | .mk k s l => if k = 2 ∨ k = 6 then true else if k = 4 then Rx.nullA l else if k = 5 then Rx.nullE l else false
def Rx.nullA : List Rx → Bool
 | [] => true
 | a :: t => a.null && Rx.nullA t
def Rx.nullE : List Rx → Bool
 | [] => false
 | a :: t => a.null || Rx.nullE t
end
mutual
def Rx.some : Rx → Bool
 | .mk k s l => if k = 2 ∨ k = 6 then true else if k = 3 then !decide (s = noSet) else if k = 4 then Rx.someA l else if k = 5 then Rx.someE l else false
def Rx.someA : List Rx → Bool
 | [] => true
 | a :: t => a.some && Rx.someA t
def Rx.someE : List Rx → Bool
 | [] => false
 | a :: t => a.some || Rx.someE t
end
mutual
def Rx.first : Rx → W4
 | .mk k s l => if k = 3 then s else if k = 5 ∨ k = 6 ∧ l.length = 1 then Rx.firstE noSet l else if k = 4 ∧ Rx.someA l = true then Rx.firstC noSet l else noSet
def Rx.firstE : W4 → List Rx → W4
 | s, [] => s
 | s, a :: t => Rx.firstE (s.or a.first) t
def Rx.firstC : W4 → List Rx → W4
 | s, [] => s
 | s, a :: t => if a.null = true then Rx.firstC (s.or a.first) t else s.or a.first
end
mutual
theorem first_ok : ∀ r : Rx, r.ok → r.first.ok
 | .mk k s l, h => by
  have h2 : Rx.oks l := h.2.2
  rw [Rx.first]
  split
  ·exact h.2.1
  ·split
   ·exact firstE_ok l noSet noSet_ok h2
   ·split
    ·exact firstC_ok l noSet noSet_ok h2
    ·exact noSet_ok
theorem firstE_ok : ∀ (l : List Rx) (s : W4), s.ok → Rx.oks l → (Rx.firstE s l).ok
 | [], s, h, _ => by rw [Rx.firstE]; exact h
 | a :: t, s, h, g => by rw [Rx.firstE]; exact firstE_ok t _ (or_ok h (first_ok a g.1)) g.2
theorem firstC_ok : ∀ (l : List Rx) (s : W4), s.ok → Rx.oks l → (Rx.firstC s l).ok
 | [], s, h, _ => by rw [Rx.firstC]; exact h
 | a :: t, s, h, g => by
  rw [Rx.firstC]
  split
  ·exact firstC_ok t _ (or_ok h (first_ok a g.1)) g.2
  ·exact or_ok h (first_ok a g.1)
end
/-- Word by word. -/
def mapW (op : Int → Int → Int) (a b : W4) : W4 := ⟨op a.w0 b.w0, op a.w1 b.w1, op a.w2 b.w2, op a.w3 b.w3⟩
def mapTo (op : Int → Int → Int) (a b : W4) (k : Nat) : W4 := ⟨if 0 < k then op a.w0 b.w0 else 0, if 1 < k then op a.w1 b.w1 else 0, if 2 < k then op a.w2 b.w2 else 0, if 3 < k then op a.w3 b.w3 else 0⟩
theorem mapTo_succ (op : Int → Int → Int) (a b : W4) {k : Nat} (h : k < 4) : (mapTo op a b k).setWd k (op (a.wd k) (b.wd k)) = mapTo op a b (k + 1) := by
 have h1 : k = 0 ∨ k = 1 ∨ k = 2 ∨ k = 3 := by omega
 rcases h1 with rfl | rfl | rfl | rfl <;> rfl
end Go.Proofs.YtfdgbghlanbddaaDoor.Av
set_option linter.unusedVariables false
set_option linter.unusedSimpArgs false
set_option maxRecDepth 8000
namespace Go.Proofs.YtfdgbghlanbddaaDoor.Av
open Go.RowKit Go.Proofs
theorem or1_walk {w0 : World} {es : List Ent} (x y : Int) (hx : 0 ≤ x ∧ x < 18446744073709551616) (hy : 0 ≤ y ∧ y < 18446744073709551616) : ACalls Tryd.prog w0 130 [.int .u64 x, .int .u64 y] es fun v es' => v = .int .u64 (orI x y) ∧ es' = es := by
 refine calls2 (N := 8) Tryd.func130 rfl rfl (by decide) ?_
 refine w_seq ?_
 refine w_region ?_
 refine l_cons rfl (p_assign ?_)
 refine l_nil ?_
 refine k_seq_normal ?_
 refine w_seq ?_
 refine w_region ?_
 refine l_cons rfl (p_move ?_)
 refine l_cons rfl (p_move ?_)
 refine l_cons rfl (p_arith ?_ (hb := arith_or64 hx hy))
 refine l_cons rfl (p_assign ?_)
 refine l_nil ?_
 refine k_seq_normal ?_
 refine w_ret ?_
 refine ret1b rfl ?_ <;> exact ex2 subx ⟨rfl, rfl⟩
theorem with_walk {w0 : World} {es : List Ent} (op : Int → Int → Int) (g : Nat) (hen : enterB Tryd.prog g = true) (a b : W4) (hop : ∀ k, k < 4 → ∀ es, ACalls Tryd.prog w0 g [.int .u64 (a.wd k), .int .u64 (b.wd k)] es fun v es' => v = .int .u64 (op (a.wd k) (b.wd k)) ∧ es' = es) : ACalls Tryd.prog w0 129 [.agg a.row, .agg b.row, .fn (.func g) [] []] es fun v es' => v = .agg (mapW op a b).row ∧ es' = es := by
 unfold W4.row
 refine calls3 (N := 24) Tryd.func129 rfl rfl (by decide) ?_
 refine w_seq ?_
 refine w_region ?_
 refine l_cons rfl (p_box fun s3 => ?_)
 refine l_cons rfl (p_box fun s4 => ?_)
 refine l_cons rfl (p_alloc ze_26 fun s6 => ?_)
 refine l_nil ?_
 refine k_seq_normal ?_
 refine w_seq ?_
 refine w_region ?_
 refine l_cons rfl (p_alloc ze_26 fun s7 => ?_)
 refine l_nil ?_
 refine k_seq_normal ?_
 refine w_seq ?_
 refine w_seq ?_
 refine w_region ?_
 refine l_cons rfl (p_move ?_)
 refine l_nil ?_
 refine k_seq_normal ?_
 refine w_block ?_
 refine w_loop (fun m f es' => ∃ k, m = 4 - k ∧ k ≤ 4 ∧ es' = .row s7 26 4 [[.int .u64 (mapTo op a b k).w0, .int .u64 (mapTo op a b k).w1, .int .u64 (mapTo op a b k).w2, .int .u64 (mapTo op a b k).w3]] :: .row s6 26 4 [[.int .u64 0, .int .u64 0, .int .u64 0, .int .u64 0]] :: .row s4 26 4 [[.int .u64 b.w0, .int .u64 b.w1, .int .u64 b.w2, .int .u64 b.w3]] :: .row s3 26 4 [[.int .u64 a.w0, .int .u64 a.w1, .int .u64 a.w2, .int .u64 a.w3]] :: es ∧ Knows f [(2, .fn (.func g) [] []), (3, .ptr es.length s3 0 0), (4, .ptr (es.length + 1) s4 0 0), (6, .ptr (es.length + 2) s6 0 0), (7, .ptr (es.length + 3) s7 0 0), (9, .int .i64 (k : Int))]) (4) (⟨0, rfl, Nat.zero_le _, rfl, by simp only [Knows, put, upd_apply, Nat.reduceEqDiff, ↓reduceIte, and_true, true_and, eq_self] <;> and_intros <;> rfl⟩) ?_
 rintro m f es' ⟨k, rfl, hk1, rfl, hk⟩
 refine w_pins _ (Sub.refl _) (hk) ?_
 simp only [pins]
 refine w_seq ?_
 refine w_region ?_
 refine l_cons rfl (p_cmp ?_)
 refine l_nil ?_
 refine k_seq_normal ?_
 refine w_seq ?_
 refine w_b (fun h1 => ?_) (fun h1 => ?_)
 ·skip
  have h1' := h1; (try simp only [decide_eq_true_eq, decide_eq_false_iff_not, Bool.not_eq_true', Bool.not_false, Bool.not_true, Bool.not_eq_false'] at h1')
  refine w_skip ?_
  refine k_seq_normal ?_
  refine w_seq ?_
  refine w_block ?_
  refine w_seq ?_
  refine w_region ?_
  refine l_cons rfl (p_move ?_)
  refine l_cons rfl (p_assign ?_)
  refine l_nil ?_
  refine k_seq_normal ?_
  refine w_drawn 9 [] (fun e => e = _) mixed (by kernel_rfl) rfl ?_
  refine q1 8 (hg := rfl) (hu := rfl) (h := by rintro f _ rfl; exact p_move ⟨rfl, rfl⟩) (k := ?_)
  refine q1 2 (hg := rfl) (hu := rfl) (h := by rintro f _ rfl; exact p_move ⟨rfl, rfl⟩) (k := ?_)
  refine q1 8 (hg := rfl) (hu := rfl) (h := by rintro f _ rfl; exact p_move ⟨rfl, rfl⟩) (k := ?_)
  refine q2 3 14 (hg := rfl) (hu := rfl) (h := by rintro f _ rfl; exact p_ixa ar_26 (a := .ptr es.length s3 0 k) ⟨rfl, rfl⟩ (h0 := by omega) (h1 := by omega) (ho := by simp)) (k := ?_)
  refine q1 15 (hg := rfl) (hu := rfl) (h := by rintro f _ rfl; exact p_loadp ty_24 (a := .int .u64 (a.wd k)) ⟨rfl, rfl⟩ (hl := by simp only [List.length_cons, List.length_nil]; omega) (ha := wd_load a (by omega))) (k := ?_)
  refine q1 8 (hg := rfl) (hu := rfl) (h := by rintro f _ rfl; exact p_move ⟨rfl, rfl⟩) (k := ?_)
  refine q2 4 17 (hg := rfl) (hu := rfl) (h := by rintro f _ rfl; exact p_ixa ar_26 (a := .ptr (es.length + 1) s4 0 k) ⟨rfl, rfl⟩ (h0 := by omega) (h1 := by omega) (ho := by simp)) (k := ?_)
  refine q1 18 (hg := rfl) (hu := rfl) (h := by rintro f _ rfl; exact p_loadp ty_24 (a := .int .u64 (b.wd k)) ⟨rfl, rfl⟩ (hl := by simp only [List.length_cons, List.length_nil]; omega) (ha := wd_load b (by omega))) (k := ?_)
  refine q3 13 16 19 (hg := rfl) (hu := rfl) (h := by rintro f _ rfl; exact p_callr hen (hop k (by omega) _) ⟨rfl, rfl⟩) (k := ?_)
  refine q_end ?_
  refine m_end ?_
  refine l_cons rfl (p_ixa ar_26 (a := .ptr (es.length + 3) s7 0 k) ?_ (h0 := by omega) (h1 := by omega) (ho := by simp))
  refine l_cons rfl (p_store ty_24 (r' := [.int .u64 (mapTo op a b (k + 1)).w0, .int .u64 (mapTo op a b (k + 1)).w1, .int .u64 (mapTo op a b (k + 1)).w2, .int .u64 (mapTo op a b (k + 1)).w3]) ?_ (hl := by simp only [List.length_cons, List.length_nil]; omega) (hr' := by rw [← mapTo_succ op a b (by omega)]; exact store_wd (mapTo op a b k) (by omega) _))
  refine l_nil ?_
  refine k_blk_normal ?_
  refine k_seq_normal ?_
  refine w_region ?_
  refine l_cons rfl (p_arith ?_)
  refine l_cons rfl (p_move ?_)
  refine l_nil ?_
  refine k_seq_normal ?_
  exact ⟨4 - (k + 1), by omega, k + 1, rfl, by omega, rfl, by simp only [Knows, put, upd_apply, Nat.reduceEqDiff, ↓reduceIte, and_true, true_and, eq_self] <;> and_intros <;> rfl⟩
 ·skip
  have h1' := h1; (try simp only [decide_eq_true_eq, decide_eq_false_iff_not, Bool.not_eq_true', Bool.not_false, Bool.not_true, Bool.not_eq_false'] at h1')
  refine w_exit ?_
  refine k_seq_exit ?_
  refine k_seq_exit ?_
  refine k_blk_here ?_
  refine k_seq_normal ?_
  refine w_seq ?_
  refine w_region ?_
  refine l_cons rfl (p_loadp ty_26 ?_)
  refine l_cons rfl (p_store ty_26 ?_)
  refine l_nil ?_
  refine k_seq_normal ?_
  refine w_ret ?_
  have hk4 : k = 4 := by omega
  subst hk4
  exact retc rfl ty_26 (sub4 _ _ _ _ _) ⟨rfl, rfl⟩
theorem or_set {w0 : World} {es : List Ent} (a b : W4) (ha : a.ok) (hb : b.ok) : ACalls Tryd.prog w0 97 [.agg a.row, .agg b.row] es fun v es' => v = .agg (a.or b).row ∧ es' = es := by
 refine calls2 (N := 8) Tryd.func97 rfl rfl (by decide) ?_
 refine w_seq ?_
 refine w_region ?_
 refine l_cons rfl (p_box fun s2 => ?_)
 refine l_cons rfl (p_box fun s3 => ?_)
 refine l_cons rfl (p_alloc ze_26 fun s4 => ?_)
 refine l_nil ?_
 refine k_seq_normal ?_
 refine w_seq ?_
 refine w_region ?_
 refine l_cons rfl (p_loadp ty_26 ?_)
 refine l_cons rfl (p_loadp ty_26 ?_)
 refine l_cons rfl (p_callr en_129 (with_walk orI 130 en_130 a b (fun k hk es => or1_walk _ _ (W4.wd_ok ha k) (W4.wd_ok hb k))) ?_)
 refine l_cons rfl (p_store ty_26 ?_)
 refine l_nil ?_
 refine k_seq_normal ?_
 refine w_ret ?_
 exact retc rfl ty_26 (by first | exact Sub.refl _ | exact sub1 _ _ | exact sub2 _ _ _ | exact sub3 _ _ _ _ | exact sub4 _ _ _ _ _ | exact sub5 _ _ _ _ _ _) ⟨rfl, rfl⟩
end Go.Proofs.YtfdgbghlanbddaaDoor.Av
set_option linter.unusedVariables false
set_option linter.unusedSimpArgs false
set_option maxRecDepth 8000
namespace Go.Proofs.YtfdgbghlanbddaaDoor.Av
open Go.RowKit Go.Proofs
end Go.Proofs.YtfdgbghlanbddaaDoor.Av
set_option linter.unusedVariables false
set_option linter.unusedSimpArgs false
set_option maxRecDepth 8000
namespace Go.Proofs.YtfdgbghlanbddaaDoor.Av
open Go.RowKit Go.Proofs
/-- The bytes of a key. -/
def keyNum (n : Int) : List Int := [IntKind.u8.wrap (n.fdiv (2 ^ (min (8 : Int).toNat IntKind.i64.bits))), IntKind.u8.wrap n]
def keyNums (l : List Int) : List Int := l.flatMap keyNum
theorem keyNums_succ {l : List Int} {k : Nat} (h : k < l.length) : keyNums (l.take (k + 1)) = keyNums (l.take k) ++ keyNum l[k] := by
 unfold keyNums
 rw [List.take_add_one, List.getElem?_eq_getElem h, List.flatMap_append]
 simp
theorem keyNums_len (l : List Int) : (keyNums l).length = 2 * l.length := by
 unfold keyNums
 induction l with
 | nil => rfl
 | cons a t ih => rw [List.flatMap_cons, List.length_append, ih, List.length_cons]; simp [keyNum]; omega
theorem row_i64 {l : List Int} {k : Nat} (h : k < l.length) : (l.map fun n => [AV.int .i64 n])[k]? = some [.int .i64 l[k]] := by simp [h]
theorem key_walk {w0 : World} {es : List Ent} (l : List Int) (hl : l.length ≤ 1000000) : ACalls Tryd.prog w0 123 [ints l] es fun v es' => v = .str (strOfNums (keyNums l)) ∧ es' = es := by
 unfold ints
 refine calls1 (N := 23) Tryd.func123 rfl rfl (by decide) ?_
 refine w_seq ?_
 refine w_region ?_
 refine l_cons rfl (p_assign ?_)
 refine l_nil ?_
 refine k_seq_normal ?_
 refine w_seq ?_
 refine w_region ?_
 refine l_cons rfl (p_assign ?_)
 refine l_nil ?_
 refine k_seq_normal ?_
 refine w_seq ?_
 refine w_seq ?_
 refine w_adopt 3 5 1 rfl fun s3 => ?_
 simp only [upd_upd]
 refine w_region ?_
 refine l_cons rfl (p_move ?_)
 refine l_cons rfl (p_lenl sl_48 ?_)
 refine l_cons rfl (p_move ?_)
 refine l_nil ?_
 refine k_seq_normal ?_
 refine w_block ?_
 refine w_loop (fun m f es' => ∃ k s3, m = l.length - k ∧ k ≤ l.length ∧ es' = .row s3 5 1 ((keyNums (l.take k)).map fun n => [AV.int .u8 n]) :: es ∧ Knows f [(3, .own es.length s3), (6, .list 1 (l.map fun n => [.int .i64 n])), (7, .int .i64 (l.length : Int)), (8, .int .i64 (k : Int))]) (l.length) (⟨0, s3, rfl, Nat.zero_le _, rfl, by simp only [Knows, put, upd_apply, Nat.reduceEqDiff, ↓reduceIte, and_true, true_and, eq_self] <;> and_intros <;> rfl⟩) ?_
 rintro m f es' ⟨k, s3, rfl, hk1, rfl, hk⟩
 refine w_pins _ (Sub.refl _) (hk) ?_
 simp only [pins]
 refine w_seq ?_
 refine w_region ?_
 refine l_cons rfl (p_cmp ?_)
 refine l_nil ?_
 refine k_seq_normal ?_
 refine w_seq ?_
 refine w_b (fun h1 => ?_) (fun h1 => ?_)
 ·skip
  have h1' := h1; (try simp only [decide_eq_true_eq, decide_eq_false_iff_not, Bool.not_eq_true', Bool.not_false, Bool.not_true, Bool.not_eq_false'] at h1')
  refine w_skip ?_
  refine k_seq_normal ?_
  refine w_seq ?_
  refine w_block ?_
  refine w_seq ?_
  refine w_region ?_
  refine l_cons rfl (p_ixl sl_48 (a := .fptr 1 (l.map fun n => [.int .i64 n]) k 0) ?_ (h0 := by omega) (h1 := by simp only [List.length_map]; omega))
  refine l_cons rfl (p_loadf ty_3 (a := .int .i64 (l[k]'(by omega))) ?_ (hr := row_i64 (by omega)) (hl := Nat.le_refl 1) (ha := rfl))
  refine l_cons rfl (p_assign ?_)
  refine l_nil ?_
  refine k_seq_normal ?_
  refine w_region ?_
  refine l_cons rfl (p_move ?_)
  refine l_cons rfl (p_move ?_)
  refine l_cons rfl (p_shr ?_)
  refine l_cons rfl (p_conv in_3 in_5 ?_)
  refine l_cons rfl (p_move ?_)
  refine l_cons rfl (p_conv in_3 in_5 ?_)
  refine l_cons rfl (p_buildList sl_22 ze_5 ?_)
  refine l_cons rfl (p_append sl_22 by_5 ze_5 (fun s19 => ?_) (hb := by have := keyNums_len (l.take k); rw [List.length_take] at this; simp only [List.length_map, List.length_cons, List.length_nil, most]; omega))
  refine l_cons rfl (p_assign ?_)
  refine l_nil ?_
  refine k_blk_normal ?_
  refine k_seq_normal ?_
  refine w_region ?_
  refine l_cons rfl (p_arith ?_)
  refine l_cons rfl (p_move ?_)
  refine l_nil ?_
  refine k_seq_normal ?_
  exact ⟨l.length - (k + 1), by omega, k + 1, s19, rfl, by omega, by rw [keyNums_succ (by omega), List.map_append] <;> rfl, by simp only [Knows, put, upd_apply, Nat.reduceEqDiff, ↓reduceIte, and_true, true_and, eq_self] <;> and_intros <;> rfl⟩
 ·skip
  have h1' := h1; (try simp only [decide_eq_true_eq, decide_eq_false_iff_not, Bool.not_eq_true', Bool.not_false, Bool.not_true, Bool.not_eq_false'] at h1')
  refine w_exit ?_
  refine k_seq_exit ?_
  refine k_seq_exit ?_
  refine k_blk_here ?_
  refine k_seq_normal ?_
  refine w_seq ?_
  have hkl : k = l.length := by omega
  rw [hkl, List.take_length]
  refine w_region ?_
  refine l_cons rfl (p_move ?_)
  refine l_cons rfl (p_bytesStr ss_9_22 ?_)
  refine l_cons rfl (p_assign ?_)
  refine l_nil ?_
  refine k_seq_normal ?_
  refine w_ret ?_
  exact ret1 rfl (by simp only [ev_tmp, ev_const, ev_func, ofConst_int, ofConst_bool, ofConst_str, ofConst_nil, upd_apply, Nat.reduceEqDiff, ↓reduceIte] <;> exact rfl) (sub1 _ _) ⟨rfl, rfl⟩
end Go.Proofs.YtfdgbghlanbddaaDoor.Av
set_option linter.unusedVariables false
set_option linter.unusedSimpArgs false
namespace Go.Proofs.YtfdgbghlanbddaaDoor.Av
open Go.RowKit
section
variable {P : Program} {w0 : World} {N : Nat} {f : Frame} {es : List Ent} {K : Frame → List Ent → Prop}
variable {d : Nat} {ty : TypeId} {pos : String} {aft : Array Edge} {g : Option (Nat × Bool)} {x y z : Operand} {a : AV}
theorem o_not64 {t : TypeId} {m : Int} (hx : ev f x = .int .u64 m) (hm : 0 ≤ m ∧ m < 18446744073709551616) (kk : K (upd f d (.int .u64 (xorI 18446744073709551615 m))) es) (hd : Nat.blt d N = true := by rfl) : AOp P w0 N ⟨some d, .unOp .xor t x, ty, pos, aft, g⟩ f es K := by
 have h2 := arith_xor64 (a := 18446744073709551615) (b := m) (by omega) hm
 simp only [arithI] at h2
 injection h2 with h2
 exact o_xor1 hx (by rw [← h2]; rfl) kk hd
theorem p_not64 {t : TypeId} {m : Int} (hm : 0 ≤ m ∧ m < 18446744073709551616) (kk : K (upd f d (.int .u64 (xorI 18446744073709551615 m))) es) (hx : ev f x = .int .u64 m := by simp only [ev_tmp, ev_const, ev_func, ofConst_int, ofConst_bool, ofConst_str, ofConst_nil, upd_apply, Nat.reduceEqDiff, ↓reduceIte] <;> exact rfl) (hd : Nat.blt d N = true := by exact rfl) : AOp P w0 N ⟨some d, .unOp .xor t x, ty, pos, aft, g⟩ f es K := o_not64 hx hm kk hd
end
end Go.Proofs.YtfdgbghlanbddaaDoor.Av
set_option linter.unusedVariables false
set_option linter.unusedSimpArgs false
set_option maxRecDepth 8000
namespace Go.Proofs.YtfdgbghlanbddaaDoor.Av
open Go.RowKit Go.Proofs
def andI (x y : Int) : Int := ((x.toNat &&& y.toNat : Nat) : Int)
theorem list_set {w0 : World} {es : List Ent} (s : W4) : ACalls Tryd.prog w0 93 [.agg s.row] es fun v es' => v = bytesAV (listW s) ∧ es' = es := by
 unfold W4.row bytesAV
 refine calls1 (N := 19) Tryd.func93 rfl rfl (by decide) ?_
 refine w_seq ?_
 refine w_region ?_
 refine l_cons rfl (p_box fun s1 => ?_)
 refine l_cons rfl (p_assign ?_)
 refine l_nil ?_
 refine k_seq_normal ?_
 refine w_seq ?_
 refine w_region ?_
 refine l_cons rfl (p_assign ?_)
 refine l_nil ?_
 refine k_seq_normal ?_
 refine w_seq ?_
 refine w_seq ?_
 refine w_adopt 3 5 1 rfl fun s3 => ?_
 simp only [upd_upd]
 refine w_region ?_
 refine l_cons rfl (p_move ?_)
 refine l_nil ?_
 refine k_seq_normal ?_
 refine w_block ?_
 refine w_loop (fun m f es' => ∃ k s3, m = 256 - k ∧ k ≤ 256 ∧ es' = .row s3 5 1 ((listTo s k).map fun n => [.int .u8 n]) :: .row s1 26 4 [[.int .u64 s.w0, .int .u64 s.w1, .int .u64 s.w2, .int .u64 s.w3]] :: es ∧ Knows f [(1, .ptr es.length s1 0 0), (3, .own (es.length + 1) s3), (5, .int .i64 (k : Int))]) (256) (⟨0, s3, rfl, Nat.zero_le _, rfl, by simp only [Knows, put, upd_apply, Nat.reduceEqDiff, ↓reduceIte, and_true, true_and, eq_self] <;> and_intros <;> rfl⟩) ?_
 rintro m f es' ⟨k, s3, rfl, hk1, rfl, hk⟩
 refine w_pins _ (Sub.refl _) (hk) ?_
 simp only [pins]
 refine w_seq ?_
 refine w_region ?_
 refine l_cons rfl (p_cmp ?_)
 refine l_nil ?_
 refine k_seq_normal ?_
 refine w_seq ?_
 refine w_b (fun h1 => ?_) (fun h1 => ?_)
 ·skip
  have h1' := h1; (try simp only [decide_eq_true_eq, decide_eq_false_iff_not, Bool.not_eq_true', Bool.not_false, Bool.not_true, Bool.not_eq_false'] at h1')
  refine w_skip ?_
  refine k_seq_normal ?_
  refine w_seq ?_
  refine w_block ?_
  refine w_seq ?_
  refine w_region ?_
  refine l_cons rfl (p_move ?_)
  refine l_cons rfl (p_assign ?_)
  refine l_nil ?_
  refine k_seq_normal ?_
  refine w_seq ?_
  refine w_region ?_
  refine l_cons rfl (p_loadp ty_26 ?_)
  refine l_cons rfl (p_move ?_)
  refine l_cons rfl (p_conv in_3 in_5 ?_ (hb := wrap8 (n := (k : Int)) (by omega) (by omega)))
  refine l_cons rfl (p_callr en_100 (bytesetHas s.w0 s.w1 s.w2 s.w3 (k : Int) (by omega) (by omega)) ?_)
  refine l_nil ?_
  refine k_seq_normal ?_
  refine w_b (fun h2 => ?_) (fun h2 => ?_)
  ·skip
   have h2' := h2; (try simp only [decide_eq_true_eq, decide_eq_false_iff_not, Bool.not_eq_true', Bool.not_false, Bool.not_true, Bool.not_eq_false'] at h2')
   have hll := listTo_len s k
   refine w_region ?_
   refine l_cons rfl (p_move ?_)
   refine l_cons rfl (p_move ?_)
   refine l_cons rfl (p_conv in_3 in_5 ?_ (hb := wrap8 (n := (k : Int)) (by omega) (by omega)))
   refine l_cons rfl (p_buildList sl_22 ze_5 ?_)
   refine l_cons rfl (p_append sl_22 by_5 ze_5 (fun s16 => ?_) (hb := by simp only [List.length_map, List.length_cons, List.length_nil, most]; omega))
   refine l_cons rfl (p_assign ?_)
   refine l_nil ?_
   refine k_blk_normal ?_
   refine k_seq_normal ?_
   refine w_region ?_
   refine l_cons rfl (p_arith ?_)
   refine l_cons rfl (p_move ?_)
   refine l_nil ?_
   refine k_seq_normal ?_
   first
   | exact ⟨256 - (k + 1), by omega, k + 1, s16, rfl, by omega, by rw [listTo_succ, if_pos (show s.has k = true from h2'), List.map_append] <;> rfl, by simp only [Knows, put, upd_apply, Nat.reduceEqDiff, ↓reduceIte, and_true, true_and, eq_self] <;> and_intros <;> rfl⟩
   | exact ⟨256 - (k + 1), by omega, k + 1, s3, rfl, by omega, by rw [listTo_succ, if_neg (show ¬ s.has k = true by unfold W4.has; rw [h2']; decide), List.append_nil] <;> rfl, by simp only [Knows, put, upd_apply, Nat.reduceEqDiff, ↓reduceIte, and_true, true_and, eq_self] <;> and_intros <;> rfl⟩
  ·skip
   have h2' := h2; (try simp only [decide_eq_true_eq, decide_eq_false_iff_not, Bool.not_eq_true', Bool.not_false, Bool.not_true, Bool.not_eq_false'] at h2')
   refine w_skip ?_
   refine k_blk_normal ?_
   refine k_seq_normal ?_
   refine w_region ?_
   refine l_cons rfl (p_arith ?_)
   refine l_cons rfl (p_move ?_)
   refine l_nil ?_
   refine k_seq_normal ?_
   first
   | exact ⟨256 - (k + 1), by omega, k + 1, s16, rfl, by omega, by rw [listTo_succ, if_pos (show s.has k = true from h2'), List.map_append] <;> rfl, by simp only [Knows, put, upd_apply, Nat.reduceEqDiff, ↓reduceIte, and_true, true_and, eq_self] <;> and_intros <;> rfl⟩
   | exact ⟨256 - (k + 1), by omega, k + 1, s3, rfl, by omega, by rw [listTo_succ, if_neg (show ¬ s.has k = true by unfold W4.has; rw [h2']; decide), List.append_nil] <;> rfl, by simp only [Knows, put, upd_apply, Nat.reduceEqDiff, ↓reduceIte, and_true, true_and, eq_self] <;> and_intros <;> rfl⟩
 ·skip
  have h1' := h1; (try simp only [decide_eq_true_eq, decide_eq_false_iff_not, Bool.not_eq_true', Bool.not_false, Bool.not_true, Bool.not_eq_false'] at h1')
  refine w_exit ?_
  refine k_seq_exit ?_
  refine k_seq_exit ?_
  refine k_blk_here ?_
  refine k_seq_normal ?_
  refine w_seq ?_
  refine w_freezeTop 3 ?_ (hclean := cleans_u8 _)
  rw [show k = 256 by omega]
  refine w_region ?_
  refine l_cons rfl (p_move ?_)
  refine l_cons rfl (p_assign ?_)
  refine l_nil ?_
  refine k_seq_normal ?_
  refine w_ret ?_
  refine ret1b rfl ?_ <;> exact ex2 subx ⟨rfl, rfl⟩
theorem and1_walk {w0 : World} {es : List Ent} (x y : Int) (hx : 0 ≤ x ∧ x < 18446744073709551616) (hy : 0 ≤ y ∧ y < 18446744073709551616) : ACalls Tryd.prog w0 150 [.int .u64 x, .int .u64 y] es fun v es' => v = .int .u64 (andI x y) ∧ es' = es := by
 refine calls2 (N := 8) Tryd.func150 rfl rfl (by decide) ?_
 refine w_seq ?_
 refine w_region ?_
 refine l_cons rfl (p_assign ?_)
 refine l_nil ?_
 refine k_seq_normal ?_
 refine w_seq ?_
 refine w_region ?_
 refine l_cons rfl (p_move ?_)
 refine l_cons rfl (p_move ?_)
 refine l_cons rfl (p_arith ?_ (hb := arith_and64 hx hy))
 refine l_cons rfl (p_assign ?_)
 refine l_nil ?_
 refine k_seq_normal ?_
 refine w_ret ?_
 refine ret1b rfl ?_ <;> exact ex2 subx ⟨rfl, rfl⟩
theorem and_set {w0 : World} {es : List Ent} (a b : W4) (ha : a.ok) (hb : b.ok) : ACalls Tryd.prog w0 126 [.agg a.row, .agg b.row] es fun v es' => v = .agg (mapW andI a b).row ∧ es' = es := by
 refine calls2 (N := 8) Tryd.func126 rfl rfl (by decide) ?_
 refine w_seq ?_
 refine w_region ?_
 refine l_cons rfl (p_box fun s2 => ?_)
 refine l_cons rfl (p_box fun s3 => ?_)
 refine l_cons rfl (p_alloc ze_26 fun s4 => ?_)
 refine l_nil ?_
 refine k_seq_normal ?_
 refine w_seq ?_
 refine w_region ?_
 refine l_cons rfl (p_loadp ty_26 ?_)
 refine l_cons rfl (p_loadp ty_26 ?_)
 refine l_cons rfl (p_callr en_129 (with_walk andI 150 en_150 a b (fun k hk es => and1_walk _ _ (W4.wd_ok ha k) (W4.wd_ok hb k))) ?_)
 refine l_cons rfl (p_store ty_26 ?_)
 refine l_nil ?_
 refine k_seq_normal ?_
 refine w_ret ?_
 exact retc rfl ty_26 (by first | exact Sub.refl _ | exact sub1 _ _ | exact sub2 _ _ _ | exact sub3 _ _ _ _ | exact sub4 _ _ _ _ _ | exact sub5 _ _ _ _ _ _) ⟨rfl, rfl⟩
theorem not1_walk {w0 : World} {es : List Ent} (x y : Int) (hx : 0 ≤ x ∧ x < 18446744073709551616) : ACalls Tryd.prog w0 149 [.int .u64 x, .int .u64 y] es fun v es' => v = .int .u64 (xorI 18446744073709551615 x) ∧ es' = es := by
 refine calls2 (N := 7) Tryd.func149 rfl rfl (by decide) ?_
 refine w_seq ?_
 refine w_region ?_
 refine l_cons rfl (p_assign ?_)
 refine l_nil ?_
 refine k_seq_normal ?_
 refine w_seq ?_
 refine w_region ?_
 refine l_cons rfl (p_move ?_)
 refine l_cons rfl (p_not64 hx ?_)
 refine l_cons rfl (p_assign ?_)
 refine l_nil ?_
 refine k_seq_normal ?_
 refine w_ret ?_
 refine ret1b rfl ?_ <;> exact ex2 subx ⟨rfl, rfl⟩
theorem not_set {w0 : World} {es : List Ent} (a : W4) (ha : a.ok) : ACalls Tryd.prog w0 125 [.agg a.row] es fun v es' => v = .agg (mapW (fun x _ => xorI 18446744073709551615 x) a a).row ∧ es' = es := by
 refine calls1 (N := 6) Tryd.func125 rfl rfl (by decide) ?_
 refine w_seq ?_
 refine w_region ?_
 refine l_cons rfl (p_box fun s1 => ?_)
 refine l_cons rfl (p_alloc ze_26 fun s2 => ?_)
 refine l_nil ?_
 refine k_seq_normal ?_
 refine w_seq ?_
 refine w_region ?_
 refine l_cons rfl (p_loadp ty_26 ?_)
 refine l_cons rfl (p_loadp ty_26 ?_)
 refine l_cons rfl (p_callr en_129 (with_walk (fun x _ => xorI 18446744073709551615 x) 149 en_149 a a (fun k hk es => not1_walk _ _ (W4.wd_ok ha k))) ?_)
 refine l_cons rfl (p_store ty_26 ?_)
 refine l_nil ?_
 refine k_seq_normal ?_
 refine w_ret ?_
 exact retc rfl ty_26 (by first | exact Sub.refl _ | exact sub1 _ _ | exact sub2 _ _ _ | exact sub3 _ _ _ _ | exact sub4 _ _ _ _ _ | exact sub5 _ _ _ _ _ _) ⟨rfl, rfl⟩
end Go.Proofs.YtfdgbghlanbddaaDoor.Av
set_option linter.unusedVariables false
set_option linter.unusedSimpArgs false
set_option maxRecDepth 8000
namespace Go.Proofs.YtfdgbghlanbddaaDoor.Av
open Go.RowKit Go.Proofs
theorem sets_at {ss : List W4} {k : Nat} (h : k < ss.length) : (ss.map W4.row)[k]? = some (ss[k]).row := by simp [h]
theorem alike_walk {w0 : World} {es : List Ent} (ss : List W4) (hs : ∀ s ∈ ss, s.ok) (x y : Int) (hx : 0 ≤ x ∧ x < 256) (hy : 0 ≤ y ∧ y < 256) : ACalls Tryd.prog w0 127 [.list 4 (ss.map W4.row), .int .u8 x, .int .u8 y] es fun v es' => v = .bool (ss.all fun s => s.hasI x == s.hasI y) ∧ es' = es := by
 refine calls3 (N := 27) Tryd.func127 rfl rfl (by decide) ?_
 refine w_seq ?_
 refine w_region ?_
 refine l_cons rfl (p_assign ?_)
 refine l_nil ?_
 refine k_seq_normal ?_
 refine w_seq ?_
 refine w_seq ?_
 refine w_len 0 fun hll => ?_
 rw [List.length_map] at hll
 simp only [most] at hll
 refine w_region ?_
 refine l_cons rfl (p_assign ?_)
 refine l_nil ?_
 refine k_seq_normal ?_
 refine w_block ?_
 refine w_loop (fun m f es' => ∃ k, m = ss.length - k ∧ k ≤ ss.length ∧ (∀ j (hj : j < k) (h : j < ss.length), ((ss[j]).hasI x == (ss[j]).hasI y) = true) ∧ es' = es ∧ Knows f [(0, .list 4 (ss.map W4.row)), (1, .int .u8 x), (2, .int .u8 y), (7, .int .i64 (k : Int))]) (ss.length) (⟨0, rfl, Nat.zero_le _, fun j hj => absurd hj (Nat.not_lt_zero _), rfl, by simp only [Knows, put, upd_apply, Nat.reduceEqDiff, ↓reduceIte, and_true, true_and, eq_self] <;> and_intros <;> rfl⟩) ?_
 rintro m f es' ⟨k, rfl, hk1, hk2, rfl, hk⟩
 refine w_pins _ (Sub.refl _) (hk) ?_
 simp only [pins]
 refine w_seq ?_
 refine w_seq ?_
 refine w_region ?_
 refine l_cons rfl (p_move ?_)
 refine l_cons rfl (p_move ?_)
 refine l_cons rfl (p_lenl sl_113 ?_)
 refine l_cons rfl (p_cmp ?_)
 refine l_nil ?_
 refine k_seq_normal ?_
 refine w_b (fun h1 => ?_) (fun h1 => ?_)
 ·skip
  have h1' := h1; (try simp only [decide_eq_true_eq, decide_eq_false_iff_not, Bool.not_eq_true', Bool.not_false, Bool.not_true, Bool.not_eq_false'] at h1')
  refine w_skip ?_
  refine k_seq_normal ?_
  refine w_seq ?_
  refine w_block ?_
  refine w_seq ?_
  refine w_drawn 11 [] (fun e => e = _) mixed (by kernel_rfl) rfl ?_
  refine q1 0 (hg := rfl) (hu := rfl) (h := by rintro f _ rfl; exact p_move ⟨rfl, rfl⟩) (k := ?_)
  refine q1 7 (hg := rfl) (hu := rfl) (h := by rintro f _ rfl; exact p_move ⟨rfl, rfl⟩) (k := ?_)
  refine q2 14 15 (hg := rfl) (hu := rfl) (h := by rintro f _ rfl; exact p_ixl sl_113 (a := .fptr 4 (ss.map W4.row) k 0) ⟨rfl, rfl⟩ (h0 := by omega) (h1 := by simp only [List.length_map]; omega)) (k := ?_)
  refine q1 16 (hg := rfl) (hu := rfl) (h := by rintro f _ rfl; exact p_loadf ty_26 (a := .agg (ss[k]'(by omega)).row) ⟨rfl, rfl⟩ (hr := sets_at (by omega)) (hl := Nat.le_refl 4) (ha := rfl)) (k := ?_)
  refine q1 1 (hg := rfl) (hu := rfl) (h := by rintro f _ rfl; exact p_move ⟨rfl, rfl⟩) (k := ?_)
  refine q2 17 18 (hg := rfl) (hu := rfl) (h := by rintro f _ rfl; exact p_callr en_55 (ref1Has (ss[k]'(by omega)).w0 (ss[k]'(by omega)).w1 (ss[k]'(by omega)).w2 (ss[k]'(by omega)).w3 x hx.1 hx.2 (hs _ (List.getElem_mem _)).1 (hs _ (List.getElem_mem _)).2.1 (hs _ (List.getElem_mem _)).2.2.1 (hs _ (List.getElem_mem _)).2.2.2.1) ⟨rfl, rfl⟩) (k := ?_)
  refine q1 0 (hg := rfl) (hu := rfl) (h := by rintro f _ rfl; exact p_move ⟨rfl, rfl⟩) (k := ?_)
  refine q1 7 (hg := rfl) (hu := rfl) (h := by rintro f _ rfl; exact p_move ⟨rfl, rfl⟩) (k := ?_)
  refine q2 20 21 (hg := rfl) (hu := rfl) (h := by rintro f _ rfl; exact p_ixl sl_113 (a := .fptr 4 (ss.map W4.row) k 0) ⟨rfl, rfl⟩ (h0 := by omega) (h1 := by simp only [List.length_map]; omega)) (k := ?_)
  refine q1 22 (hg := rfl) (hu := rfl) (h := by rintro f _ rfl; exact p_loadf ty_26 (a := .agg (ss[k]'(by omega)).row) ⟨rfl, rfl⟩ (hr := sets_at (by omega)) (hl := Nat.le_refl 4) (ha := rfl)) (k := ?_)
  refine q1 2 (hg := rfl) (hu := rfl) (h := by rintro f _ rfl; exact p_move ⟨rfl, rfl⟩) (k := ?_)
  refine q_end ?_
  refine m_end ?_
  refine l_cons rfl (p_callr en_55 (ref1Has (ss[k]'(by omega)).w0 (ss[k]'(by omega)).w1 (ss[k]'(by omega)).w2 (ss[k]'(by omega)).w3 y hy.1 hy.2 (hs _ (List.getElem_mem _)).1 (hs _ (List.getElem_mem _)).2.1 (hs _ (List.getElem_mem _)).2.2.1 (hs _ (List.getElem_mem _)).2.2.2.1) ?_)
  refine l_cons rfl (p_neb ub_4 ?_)
  refine l_nil ?_
  refine k_seq_normal ?_
  refine w_b (fun h2 => ?_) (fun h2 => ?_)
  ·skip
   have h2' := h2; (try simp only [decide_eq_true_eq, decide_eq_false_iff_not, Bool.not_eq_true', Bool.not_false, Bool.not_true, Bool.not_eq_false'] at h2')
   refine w_seq ?_
   refine w_region ?_
   refine l_cons rfl (p_assign ?_)
   refine l_nil ?_
   refine k_seq_normal ?_
   refine w_ret ?_
   refine k_blk_ret ?_
   refine k_seq_ret ?_
   refine k_seq_ret ?_
   refine k_blk_ret ?_
   refine k_seq_ret ?_
   refine ret1b rfl ?_ <;> exact ex2 subx ⟨by rw [List.all_eq_false.2 ⟨_, List.getElem_mem (show k < ss.length by omega), by simp only [W4.hasI]; simp_all⟩], rfl⟩
  ·skip
   have h2' := h2; (try simp only [decide_eq_true_eq, decide_eq_false_iff_not, Bool.not_eq_true', Bool.not_false, Bool.not_true, Bool.not_eq_false'] at h2')
   refine w_skip ?_
   refine k_blk_normal ?_
   refine k_seq_normal ?_
   refine w_region ?_
   refine l_cons rfl (p_move ?_)
   refine l_cons rfl (p_arith ?_)
   refine l_cons rfl (p_assign ?_)
   refine l_nil ?_
   refine k_seq_normal ?_
   exact ⟨ss.length - (k + 1), by omega, k + 1, rfl, by omega, fun j hj h => (by
    rcases Nat.lt_or_eq_of_le (Nat.le_of_lt_succ hj) with h9 | h9
    ·exact hk2 j h9 h
    ·subst h9; simp only [W4.hasI]; simp_all), rfl, by simp only [Knows, put, upd_apply, Nat.reduceEqDiff, ↓reduceIte, and_true, true_and, eq_self] <;> and_intros <;> rfl⟩
 ·skip
  have h1' := h1; (try simp only [decide_eq_true_eq, decide_eq_false_iff_not, Bool.not_eq_true', Bool.not_false, Bool.not_true, Bool.not_eq_false'] at h1')
  refine w_exit ?_
  refine k_seq_exit ?_
  refine k_seq_exit ?_
  refine k_blk_here ?_
  refine k_seq_normal ?_
  refine w_seq ?_
  refine w_region ?_
  refine l_cons rfl (p_assign ?_)
  refine l_nil ?_
  refine k_seq_normal ?_
  refine w_ret ?_
  refine ret1b rfl ?_ <;> exact ex2 subx ⟨by rw [List.all_eq_true.2 fun s hs2 => by obtain ⟨j, hj, rfl⟩ := List.mem_iff_getElem.1 hs2; exact hk2 j (by omega) hj], rfl⟩
end Go.Proofs.YtfdgbghlanbddaaDoor.Av
set_option linter.unusedVariables false
set_option linter.unusedSimpArgs false
namespace Go.Proofs.YtfdgbghlanbddaaDoor.Av
/-! ### classes of bytes -/
/-- Two bytes that no set tells apart. -/
def alikeB (ss : List W4) (x y : Int) : Bool := ss.all fun s => s.hasI x == s.hasI y
/-- The first of each class, below k. -/
def repsTo (al : Nat → Nat → Bool) : Nat → List Nat
 | 0 => []
 | k + 1 => if (repsTo al k).any (fun r => al k r) = true then repsTo al k else repsTo al k ++ [k]
/-- The class of i. -/
def clsOf (al : Nat → Nat → Bool) (i : Nat) : Nat := (repsTo al i).findIdx fun r => al i r
theorem repsTo_len (al : Nat → Nat → Bool) : ∀ k, (repsTo al k).length ≤ k
 | 0 => Nat.le_refl 0
 | k + 1 => by
  have := repsTo_len al k
  rw [repsTo]
  split
  ·omega
  ·rw [List.length_append]; simp; omega
theorem repsTo_lt (al : Nat → Nat → Bool) : ∀ k, ∀ r ∈ repsTo al k, r < k
 | 0, r, h => by simp [repsTo] at h
 | k + 1, r, h => by
  rw [repsTo] at h
  split at h
  ·have := repsTo_lt al k r h; omega
  ·rcases List.mem_append.1 h with h | h
   ·have := repsTo_lt al k r h; omega
   ·simp at h; omega
theorem clsOf_le (al : Nat → Nat → Bool) (i : Nat) : clsOf al i ≤ (repsTo al i).length := List.findIdx_le_length
theorem cls_new {al : Nat → Nat → Bool} {i : Nat} (h : clsOf al i = (repsTo al i).length) : repsTo al (i + 1) = repsTo al i ++ [i] := by
 rw [repsTo, if_neg]
 intro e
 rw [List.any_eq_true] at e
 have h3 := List.findIdx_lt_length_of_exists e
 unfold clsOf at h
 exact absurd h (Nat.ne_of_lt h3)
theorem cls_old {al : Nat → Nat → Bool} {i : Nat} (h : clsOf al i ≠ (repsTo al i).length) : repsTo al (i + 1) = repsTo al i := by
 rw [repsTo, if_pos]
 have h2 : (repsTo al i).findIdx (fun r => al i r) < (repsTo al i).length := by
  have := clsOf_le al i
  unfold clsOf at h this
  omega
 exact List.any_eq_true.2 ⟨_, List.getElem_mem h2, List.findIdx_getElem (w := h2)⟩
theorem cls_at {al : Nat → Nat → Bool} {i j : Nat} (h0 : j ≤ (repsTo al i).length) (h1 : ∀ m (hm : m < j) (h : m < (repsTo al i).length), al i (repsTo al i)[m] = false) (h2 : ∀ h : j < (repsTo al i).length, al i (repsTo al i)[j] = true) : clsOf al i = j := by
 unfold clsOf
 by_cases h : j < (repsTo al i).length
 ·exact (List.findIdx_eq h).2 ⟨h2 h, fun m hm => h1 m hm (Nat.lt_trans hm h)⟩
 ·have e : j = (repsTo al i).length := by omega
  subst e
  rw [List.findIdx_eq_length]
  intro x hx
  obtain ⟨m, hm, rfl⟩ := List.mem_iff_getElem.1 hx
  exact h1 m hm hm
end Go.Proofs.YtfdgbghlanbddaaDoor.Av
set_option linter.unusedVariables false
set_option linter.unusedSimpArgs false
set_option maxRecDepth 8000
namespace Go.Proofs.YtfdgbghlanbddaaDoor.Av
/-! ### an array of 256 bytes -/
def byteT (p : Nat → Int) : List AV := (List.range 256).map fun i => .int .u8 (p i)
theorem byteT_len (p : Nat → Int) : (byteT p).length = 256 := by simp [byteT]
theorem byteT_load {p : Nat → Int} {k : Nat} (hk : k < 256) : loadAV false 1 (byteT p) k = .int .u8 (p k) := by
 simp [loadAV, byteT, List.getD, hk]
theorem byteT_all (p : Nat → Int) : loadAV true 256 (byteT p) 0 = .agg (byteT p) := by
 simp only [loadAV, if_true, List.drop_zero]
 rw [List.take_of_length_le (by rw [byteT_len]; exact Nat.le_refl _)]
theorem byteT_none {p : Nat → Int} (h : ∀ i, i < 256 → p i = 0) : byteT p = List.replicate 256 (.int .u8 0) := by
 unfold byteT
 refine List.ext_getElem (by simp) fun i h1 h2 => ?_
 simp only [List.getElem_map, List.getElem_range, List.getElem_replicate]
 rw [h i (by simpa using h1)]
theorem byteT_congr {p q : Nat → Int} (h : ∀ i, i < 256 → p i = q i) : byteT p = byteT q := by
 unfold byteT
 refine List.map_congr_left fun i hi => ?_
 rw [h i (List.mem_range.1 hi)]
theorem byteT_store {p : Nat → Int} {k : Nat} {v : Int} (hk : k < 256) : (byteT p).take k ++ [.int .u8 v] ++ (byteT p).drop (k + 1) = byteT (fun i => if i = k then v else p i) := by
 have e : (byteT p).take k ++ [AV.int .u8 v] ++ (byteT p).drop (k + 1) = (byteT p).set k (.int .u8 v) := by
  rw [List.set_eq_take_append_cons_drop, if_pos (by rw [byteT_len]; exact hk)]
  simp
 rw [e]
 refine List.ext_getElem (by simp [byteT]) fun i h1 h2 => ?_
 simp only [byteT, List.getElem_set, List.getElem_map, List.getElem_range]
 by_cases hi : k = i
 ·subst hi; simp
 ·rw [if_neg hi, if_neg (Ne.symm hi)]
end Go.Proofs.YtfdgbghlanbddaaDoor.Av
