import Derived.Test.YtfdgbghlanbddaaDoorAvAid
import Derived.Test.YtfdgbghlanbddaaDoorAvShut
set_option linter.unusedVariables false
set_option linter.unusedSimpArgs false
set_option maxRecDepth 8000
namespace Go.Proofs.YtfdgbghlanbddaaDoor.Av
open Go.RowKit Go.Proofs
theorem meet_walk {w0 : World} {T : List Ent} {sS s5 s6 sW : Nat} {bs : List Bool} {ws : List Int} (k : Int) (hbs : bs.length ≤ 2000) (hws : ws.length ≤ 2000) :
    ACalls Tryd.prog w0 116 [.int .i64 k, .ptr (T.length + 1) s5 0 0, .ptr (T.length + 2) s6 0 0] (clE T sS s5 s6 sW bs ws) fun _ es' => ∃ sW', es' = clE T sS s5 s6 sW' (meetS bs k) (meetW bs ws k) := by
  unfold clE
  refine calls3 (N := 26) Tryd.func116 rfl rfl (by decide) ?_
  refine w_seq ?_
  refine w_region ?_
  refine l_cons rfl (p_move ?_)
  refine l_cons rfl (p_cmp ?_)
  refine l_cons rfl (p_move ?_)
  refine g_b rfl (fun h1 => ?_) (fun h1 => ?_)
  · skip
    have h1' := h1; (try simp only [decide_eq_true_eq, decide_eq_false_iff_not, Bool.not_eq_true', Bool.not_false, Bool.not_true, Bool.not_eq_false'] at h1')
    refine (p_move ?_)
    refine g_y rfl h1 (p_loadp ty_60 ?_)
    first | refine g_y rfl h1 (p_lenl sl_60 ?_) | refine g_y rfl h1 (p_leno sl_60 ?_) | refine g_y rfl h1 (p_lenn sl_60 ?_)
    refine g_y rfl h1 (p_cmp ?_)
    refine l_cons rfl (p_pickt h1 ?_)
    refine l_cons rfl (p_move ?_)
    refine g_b rfl (fun h2 => ?_) (fun h2 => ?_)
    · skip
      have h2' := h2; (try simp only [decide_eq_true_eq, decide_eq_false_iff_not, Bool.not_eq_true', Bool.not_false, Bool.not_true, Bool.not_eq_false'] at h2')
      refine (p_loadp ty_60 ?_)
      refine g_y rfl h2 (p_move ?_)
      first | refine g_y rfl h2 (p_ixl sl_60 ?_) | refine g_y rfl h2 (p_ixo sl_60 ?_)
      first | refine g_y rfl h2 (p_loadf ty_4 ?_) | refine g_y rfl h2 (p_loadp ty_4 ?_)
      refine g_y rfl h2 (p_not ?_)
      refine l_cons rfl (p_pickt h2 ?_)
      refine l_nil ?_
      refine k_seq_normal ?_
      refine w_b (fun h3 => ?_) (fun h3 => ?_)
      · skip
        have h3' := h3; (try simp only [decide_eq_true_eq, decide_eq_false_iff_not, Bool.not_eq_true', Bool.not_false, Bool.not_true, Bool.not_eq_false'] at h3')
        refine w_seq ?_
        refine w_region ?_
        refine l_cons rfl (p_loadp ty_60 ?_)
        refine l_cons rfl (p_move ?_)
        first | refine l_cons rfl (p_ixl sl_60 ?_) | refine l_cons rfl (p_ixo sl_60 ?_)
        refine l_cons rfl (p_store ty_4 ?_)
        refine l_nil ?_
        refine k_seq_normal ?_
        refine w_region ?_
        refine l_cons rfl (p_loadp ty_48 ?_)
        refine l_cons rfl (p_move ?_)
        refine l_cons rfl (p_buildList sl_48 ze_3 ?_)
        refine l_cons rfl (p_append sl_48 by_3 ze_3 (fun s25 => ?_))
        refine l_cons rfl (p_store ty_48 ?_)
        refine l_nil ?_
        first
        | exact retn0 rfl (Sub.refl _) ⟨_, by
            have hm : meetB bs k = true := meet_yes (by omega) (by omega) (by assumption)
            rw [meetS, meetW, if_pos hm, if_pos hm, List.map_append, List.map_set]
            rfl⟩
        | exact retn0 rfl (Sub.refl _) ⟨sW, by
            have hm : meetB bs k = false := meet_no (by first | exact .inl (by omega) | exact .inr (.inl (by omega)) | exact .inr (.inr ⟨by omega, by assumption⟩))
            rw [meetS, meetW, hm]
            rfl⟩
      · skip
        have h3' := h3; (try simp only [decide_eq_true_eq, decide_eq_false_iff_not, Bool.not_eq_true', Bool.not_false, Bool.not_true, Bool.not_eq_false'] at h3')
        refine w_skip ?_
        first
        | exact retn0 rfl (Sub.refl _) ⟨_, by
            have hm : meetB bs k = true := meet_yes (by omega) (by omega) (by assumption)
            rw [meetS, meetW, if_pos hm, if_pos hm, List.map_append, List.map_set]
            rfl⟩
        | exact retn0 rfl (Sub.refl _) ⟨sW, by
            have hm : meetB bs k = false := meet_no (by first | exact .inl (by omega) | exact .inr (.inl (by omega)) | exact .inr (.inr ⟨by omega, by assumption⟩))
            rw [meetS, meetW, hm]
            rfl⟩
    · skip
      have h2' := h2; (try simp only [decide_eq_true_eq, decide_eq_false_iff_not, Bool.not_eq_true', Bool.not_false, Bool.not_true, Bool.not_eq_false'] at h2')
      refine g_n rfl h2 ?_
      refine g_n rfl h2 ?_
      refine g_n rfl h2 ?_
      refine g_n rfl h2 ?_
      refine l_cons rfl (p_pickf h2 ?_)
      refine l_nil ?_
      refine k_seq_normal ?_
      refine w_f rfl ?_
      refine w_skip ?_
      first
      | exact retn0 rfl (Sub.refl _) ⟨_, by
          have hm : meetB bs k = true := meet_yes (by omega) (by omega) (by assumption)
          rw [meetS, meetW, if_pos hm, if_pos hm, List.map_append, List.map_set]
          rfl⟩
      | exact retn0 rfl (Sub.refl _) ⟨sW, by
          have hm : meetB bs k = false := meet_no (by first | exact .inl (by omega) | exact .inr (.inl (by omega)) | exact .inr (.inr ⟨by omega, by assumption⟩))
          rw [meetS, meetW, hm]
          rfl⟩
  · skip
    have h1' := h1; (try simp only [decide_eq_true_eq, decide_eq_false_iff_not, Bool.not_eq_true', Bool.not_false, Bool.not_true, Bool.not_eq_false'] at h1')
    refine g_n rfl h1 ?_
    refine g_n rfl h1 ?_
    refine g_n rfl h1 ?_
    refine l_cons rfl (p_pickf h1 ?_)
    refine l_cons rfl (p_move ?_)
    refine g_n rfl rfl ?_
    refine g_n rfl rfl ?_
    refine g_n rfl rfl ?_
    refine g_n rfl rfl ?_
    refine g_n rfl rfl ?_
    refine l_cons rfl (p_pickf rfl ?_)
    refine l_nil ?_
    refine k_seq_normal ?_
    refine w_f rfl ?_
    refine w_skip ?_
    first
    | exact retn0 rfl (Sub.refl _) ⟨_, by
        have hm : meetB bs k = true := meet_yes (by omega) (by omega) (by assumption)
        rw [meetS, meetW, if_pos hm, if_pos hm, List.map_append, List.map_set]
        rfl⟩
    | exact retn0 rfl (Sub.refl _) ⟨sW, by
        have hm : meetB bs k = false := meet_no (by first | exact .inl (by omega) | exact .inr (.inl (by omega)) | exact .inr (.inr ⟨by omega, by assumption⟩))
        rw [meetS, meetW, hm]
        rfl⟩
theorem closed_walk {w0 : World} {es : List Ent} (n : Nf) (l : List Int) (hn : n.st.length ≤ 2000) :
    ACalls Tryd.prog w0 78 [n.av, ints l] es fun v es' => v = ints (closed n l) ∧ es' = es := by
  unfold Nf.av ints
  refine calls2 (N := 74) Tryd.func78 rfl rfl (by decide) ?_
  refine w_seq ?_
  refine w_region ?_
  refine l_cons rfl (p_box fun s2 => ?_)
  refine l_cons rfl (p_assign ?_)
  refine l_nil ?_
  refine k_seq_normal ?_
  refine w_seq ?_
  refine w_len 1 fun hl => ?_
  rw [List.length_map] at hl
  simp only [most] at hl
  refine w_region ?_
  refine l_cons rfl (p_fap fa_36_0 ?_)
  refine l_cons rfl (p_loadp ty_34 ?_)
  first | refine l_cons rfl (p_lenl sl_34 ?_) | refine l_cons rfl (p_leno sl_34 ?_) | refine l_cons rfl (p_lenn sl_34 ?_)
  refine l_cons rfl (p_makeSlice sl_60 by_4 ze_4  fun s19 => ?_)
  refine l_cons rfl (p_alloc ze_60 fun s5 => ?_)
  refine l_cons rfl (p_store ty_60 ?_)
  refine l_nil ?_
  refine k_seq_normal ?_
  refine w_seq ?_
  refine w_region ?_
  refine l_cons rfl (p_alloc ze_48 fun s6 => ?_)
  refine l_nil ?_
  refine k_seq_normal ?_
  refine w_seq ?_
  refine w_adoptVar 3 1 fun sW => ?_
  refine w_region ?_
  refine l_cons rfl (p_mkfn ?_)
  refine l_cons rfl (p_assign ?_)
  refine l_nil ?_
  refine k_seq_normal ?_
  refine w_seq ?_
  refine w_seq ?_
  refine w_region ?_
  refine l_cons rfl (p_move ?_)
  refine l_cons rfl (p_lenl sl_48 ?_)
  refine l_cons rfl (p_move ?_)
  refine l_nil ?_
  refine k_seq_normal ?_
  refine w_block ?_
  refine w_loop (fun m f es' => ∃ k bs ws sW, m = l.length - k ∧ k ≤ l.length ∧ CI n l bs ws (l.take k) none ∧ es' = clE (.row s2 36 3 [n.cells] :: es) s19 s5 s6 sW bs ws ∧ Knows f [(2, .ptr es.length s2 0 0), (5, .ptr (es.length + 2) s5 0 0), (6, .ptr (es.length + 3) s6 0 0), (7, .fn (.func 116) [] [.ptr (es.length + 2) s5 0 0, .ptr (es.length + 3) s6 0 0]), (21, .list 1 (l.map fun n => [.int .i64 n])), (22, .int .i64 l.length), (23, .int .i64 k)]) (l.length) (⟨0, _, [], sW, rfl, Nat.zero_le _, CI.start n l, by simp [clE, List.map_replicate, Nf.cells], by simp only [Knows, upd_apply, Nat.reduceEqDiff, ↓reduceIte, and_true, true_and, eq_self] <;> first | exact rfl | exact ⟨rfl, rfl⟩ | exact ⟨rfl, rfl, rfl⟩ | exact ⟨rfl, rfl, rfl, rfl⟩ | exact ⟨rfl, rfl, rfl, rfl, rfl⟩ | exact ⟨rfl, rfl, rfl, rfl, rfl, rfl⟩⟩) ?_
  rintro m f es' ⟨k, bs, ws, sW, rfl, hk1, hci, rfl, hk⟩
  refine w_pins _ (Sub.refl _) (hk) ?_
  simp only [pins]
  refine w_seq ?_
  refine w_region ?_
  refine l_cons rfl (p_cmp ?_)
  refine l_nil ?_
  refine k_seq_normal ?_
  refine w_seq ?_
  refine w_b (fun h1 => ?_) (fun h1 => ?_)
  · skip
    have h1' := h1; (try simp only [decide_eq_true_eq, decide_eq_false_iff_not, Bool.not_eq_true', Bool.not_false, Bool.not_true, Bool.not_eq_false'] at h1')
    refine w_skip ?_
    refine k_seq_normal ?_
    refine w_seq ?_
    refine w_block ?_
    refine w_seq ?_
    refine w_region ?_
    refine l_cons rfl (p_ixl sl_48 ?_)
    refine l_cons rfl (p_loadf ty_3 ?_)
    refine l_cons rfl (p_assign ?_)
    refine l_nil ?_
    refine k_seq_normal ?_
    refine w_region ?_
    refine l_cons rfl (p_move ?_)
    refine l_cons rfl (p_move ?_)
    refine l_cons rfl (p_call en_116 ((meet_walk _ (by have := hci.len; omega) (by have := hci.short; omega)).mono ?_))
    rintro _ _ ⟨sW', rfl⟩
    refine l_nil ?_
    refine k_blk_normal ?_
    refine k_seq_normal ?_
    refine w_region ?_
    refine l_cons rfl (p_arith ?_)
    refine l_cons rfl (p_move ?_)
    refine l_nil ?_
    refine k_seq_normal ?_
    exact ⟨l.length - (k + 1), by omega, k + 1, _, _, sW', rfl, by omega, CI.root (by omega) hci, rfl, by simp only [Knows, upd_apply, Nat.reduceEqDiff, ↓reduceIte, and_true, true_and, eq_self] <;> first | exact rfl | exact ⟨rfl, rfl⟩ | exact ⟨rfl, rfl, rfl⟩ | exact ⟨rfl, rfl, rfl, rfl⟩ | exact ⟨rfl, rfl, rfl, rfl, rfl⟩ | exact ⟨rfl, rfl, rfl, rfl, rfl, rfl⟩⟩
  · skip
    have h1' := h1; (try simp only [decide_eq_true_eq, decide_eq_false_iff_not, Bool.not_eq_true', Bool.not_false, Bool.not_true, Bool.not_eq_false'] at h1')
    refine w_exit ?_
    refine k_seq_exit ?_
    refine k_seq_exit ?_
    refine k_blk_here ?_
    refine k_seq_normal ?_
    refine w_seq ?_
    refine w_block ?_
    refine w_loop (fun m f es' => ∃ bs ws sW, m = bs.count false + ws.length ∧ CI n l bs ws l none ∧ es' = clE (.row s2 36 3 [n.cells] :: es) s19 s5 s6 sW bs ws ∧ Knows f [(2, .ptr es.length s2 0 0), (5, .ptr (es.length + 2) s5 0 0), (6, .ptr (es.length + 3) s6 0 0), (7, .fn (.func 116) [] [.ptr (es.length + 2) s5 0 0, .ptr (es.length + 3) s6 0 0])]) (_) (⟨bs, ws, sW, rfl, by simpa [show k = l.length by omega] using hci, rfl, by simp only [Knows, upd_apply, Nat.reduceEqDiff, ↓reduceIte, and_true, true_and, eq_self] <;> first | exact rfl | exact ⟨rfl, rfl⟩ | exact ⟨rfl, rfl, rfl⟩ | exact ⟨rfl, rfl, rfl, rfl⟩ | exact ⟨rfl, rfl, rfl, rfl, rfl⟩ | exact ⟨rfl, rfl, rfl, rfl, rfl, rfl⟩⟩) ?_
    rintro m f es' ⟨bs, ws, sW, rfl, hci, rfl, hk⟩
    have hsh := hci.short
    have hcl := hci.len
    refine w_pins _ (Sub.refl _) (hk) ?_
    simp only [pins]
    refine w_seq ?_
    refine w_seq ?_
    refine w_region ?_
    refine l_cons rfl (p_loadp ty_48 ?_)
    first | refine l_cons rfl (p_lenl sl_48 ?_) | refine l_cons rfl (p_leno sl_48 ?_) | refine l_cons rfl (p_lenn sl_48 ?_)
    refine l_cons rfl (p_cmp ?_)
    refine l_nil ?_
    refine k_seq_normal ?_
    refine w_b (fun h2 => ?_) (fun h2 => ?_)
    · skip
      have h2' := h2; (try simp only [decide_eq_true_eq, decide_eq_false_iff_not, Bool.not_eq_true', Bool.not_false, Bool.not_true, Bool.not_eq_false'] at h2')
      refine w_skip ?_
      refine k_seq_normal ?_
      refine w_block ?_
      refine w_seq ?_
      have hpos : ws.length - 1 < ws.length := by omega
      have hlast := hci.wait (ws[ws.length - 1]'hpos) (List.getElem_mem _)
      have hc := on_lt hlast.2
      rw [hci.len] at hc
      refine w_region ?_
      refine l_cons rfl (p_loadp ty_48 ?_)
      refine l_cons rfl (p_loadp ty_48 ?_)
      first | refine l_cons rfl (p_lenl sl_48 ?_) | refine l_cons rfl (p_leno sl_48 ?_) | refine l_cons rfl (p_lenn sl_48 ?_)
      refine l_cons rfl (p_arith ?_)
      refine l_cons rfl (p_ixo sl_48 (a := .ptr (es.length + 4) sW (ws.length - 1) 0) ?_ (ho := congrArg (fun i => AV.ptr (es.length + 4) sW i 0) (by omega)))
      refine l_cons rfl (p_loadp ty_3 ?_)
      refine l_cons rfl (p_assign ?_)
      refine l_nil ?_
      refine k_seq_normal ?_
      refine w_seq ?_
      refine w_region ?_
      refine l_cons rfl (p_loadp ty_48 ?_)
      refine l_cons rfl (p_loadp ty_48 ?_)
      first | refine l_cons rfl (p_lenl sl_48 ?_) | refine l_cons rfl (p_leno sl_48 ?_) | refine l_cons rfl (p_lenn sl_48 ?_)
      refine l_cons rfl (p_arith ?_)
      refine l_cons rfl (p_sliceo (h := ws.length - 1) sl_48 fun s44 => ?_)
      refine l_cons rfl (p_store ty_48 ?_)
      refine l_nil ?_
      refine k_seq_normal ?_
      refine w_seq ?_
      refine w_region ?_
      refine l_cons rfl (p_fap fa_36_0 ?_)
      refine l_cons rfl (p_loadp ty_34 ?_)
      refine l_cons rfl (p_move ?_)
      first | refine l_cons rfl (p_ixl sl_34 ?_) | refine l_cons rfl (p_ixo sl_34 ?_)
      first | refine l_cons rfl (p_fap fa_75_2 ?_) | refine l_cons rfl (p_faf fa_75_2 ?_)
      first | refine l_cons rfl (p_loadf ty_48 ?_) | refine l_cons rfl (p_loadp ty_48 ?_)
      refine l_len 50 fun hfl => ?_
      simp only [List.length_map, most] at hfl
      first | refine l_cons rfl (p_lenl sl_48 ?_) | refine l_cons rfl (p_leno sl_48 ?_) | refine l_cons rfl (p_lenn sl_48 ?_)
      refine l_cons rfl (p_move ?_)
      refine l_nil ?_
      refine k_seq_normal ?_
      refine w_block ?_
      refine w_loop (fun m f es' => ∃ j bs' ws' sW', m = ((n.st[(ws[ws.length - 1]'hpos).toNat]'hc).free).length - j ∧ j ≤ ((n.st[(ws[ws.length - 1]'hpos).toNat]'hc).free).length ∧ bs'.count false + ws'.length + 1 = bs.count false + ws.length ∧ CI n l bs' ws' l (some ((ws[ws.length - 1]'hpos).toNat, j)) ∧ es' = clE (.row s2 36 3 [n.cells] :: es) s19 s5 s6 sW' bs' ws' ∧ Knows f [(2, .ptr es.length s2 0 0), (5, .ptr (es.length + 2) s5 0 0), (6, .ptr (es.length + 3) s6 0 0), (7, .fn (.func 116) [] [.ptr (es.length + 2) s5 0 0, .ptr (es.length + 3) s6 0 0]), (50, .list 1 ((n.st[(ws[ws.length - 1]'hpos).toNat]'hc).free.map fun n => [.int .i64 n])), (51, .int .i64 ((n.st[(ws[ws.length - 1]'hpos).toNat]'hc).free).length), (52, .int .i64 j)]) (((n.st[(ws[ws.length - 1]'hpos).toNat]'hc).free).length) (⟨0, bs, ws.take (ws.length - 1), s44, rfl, Nat.zero_le _, by rw [List.length_take]; omega, CI.pop (by omega) hci, by simp [clE, List.map_take], by simp only [Knows, upd_apply, Nat.reduceEqDiff, ↓reduceIte, and_true, true_and, eq_self] <;> first | exact rfl | exact ⟨rfl, rfl⟩ | exact ⟨rfl, rfl, rfl⟩ | exact ⟨rfl, rfl, rfl, rfl⟩ | exact ⟨rfl, rfl, rfl, rfl, rfl⟩ | exact ⟨rfl, rfl, rfl, rfl, rfl, rfl⟩⟩) ?_
      rintro m f es' ⟨j, bs', ws', sW', rfl, hk1, hms, hci, rfl, hk⟩
      have hcl := hci.len
      refine w_pins _ (Sub.refl _) (hk) ?_
      simp only [pins]
      refine w_seq ?_
      refine w_region ?_
      refine l_cons rfl (p_cmp ?_)
      refine l_nil ?_
      refine k_seq_normal ?_
      refine w_seq ?_
      refine w_b (fun h3 => ?_) (fun h3 => ?_)
      · skip
        have h3' := h3; (try simp only [decide_eq_true_eq, decide_eq_false_iff_not, Bool.not_eq_true', Bool.not_false, Bool.not_true, Bool.not_eq_false'] at h3')
        refine w_skip ?_
        refine k_seq_normal ?_
        refine w_seq ?_
        refine w_block ?_
        refine w_seq ?_
        refine w_region ?_
        refine l_cons rfl (p_ixl sl_48 ?_)
        refine l_cons rfl (p_loadf ty_3 ?_)
        refine l_cons rfl (p_assign ?_)
        refine l_nil ?_
        refine k_seq_normal ?_
        refine w_region ?_
        refine l_cons rfl (p_move ?_)
        refine l_cons rfl (p_move ?_)
        refine l_cons rfl (p_call en_116 ((meet_walk _ (by have := hci.len; omega) (by have := hci.short; omega)).mono ?_))
        rintro _ _ ⟨sW2, rfl⟩
        refine l_nil ?_
        refine k_blk_normal ?_
        refine k_seq_normal ?_
        refine w_region ?_
        refine l_cons rfl (p_arith ?_)
        refine l_cons rfl (p_move ?_)
        refine l_nil ?_
        refine k_seq_normal ?_
        exact ⟨((n.st[(ws[ws.length - 1]'hpos).toNat]'hc).free).length - (j + 1), by omega, j + 1, _, _, sW2, rfl, by omega, by have := meet_measure bs' ws' (((n.st[(ws[ws.length - 1]'hpos).toNat]'hc).free)[j]'(by omega)); omega, CI.way hc (by omega) hci, rfl, by simp only [Knows, upd_apply, Nat.reduceEqDiff, ↓reduceIte, and_true, true_and, eq_self] <;> first | exact rfl | exact ⟨rfl, rfl⟩ | exact ⟨rfl, rfl, rfl⟩ | exact ⟨rfl, rfl, rfl, rfl⟩ | exact ⟨rfl, rfl, rfl, rfl, rfl⟩ | exact ⟨rfl, rfl, rfl, rfl, rfl, rfl⟩⟩
      · skip
        have h3' := h3; (try simp only [decide_eq_true_eq, decide_eq_false_iff_not, Bool.not_eq_true', Bool.not_false, Bool.not_true, Bool.not_eq_false'] at h3')
        refine w_exit ?_
        refine k_seq_exit ?_
        refine k_seq_exit ?_
        refine k_blk_here ?_
        refine k_blk_normal ?_
        refine k_seq_normal ?_
        have hj : j = ((n.st[(ws[ws.length - 1]'hpos).toNat]'hc).free).length := by omega
        subst hj
        exact ⟨bs'.count false + ws'.length, by omega, bs', ws', sW', rfl, CI.full hc hci, rfl, by simp only [Knows, upd_apply, Nat.reduceEqDiff, ↓reduceIte, and_true, true_and, eq_self] <;> first | exact rfl | exact ⟨rfl, rfl⟩ | exact ⟨rfl, rfl, rfl⟩ | exact ⟨rfl, rfl, rfl, rfl⟩ | exact ⟨rfl, rfl, rfl, rfl, rfl⟩ | exact ⟨rfl, rfl, rfl, rfl, rfl, rfl⟩⟩
    · skip
      have h2' := h2; (try simp only [decide_eq_true_eq, decide_eq_false_iff_not, Bool.not_eq_true', Bool.not_false, Bool.not_true, Bool.not_eq_false'] at h2')
      refine w_exit ?_
      refine k_seq_exit ?_
      refine k_seq_exit ?_
      refine k_blk_here ?_
      have hws : ws = [] := List.length_eq_zero_iff.1 (by omega)
      subst hws
      refine k_seq_normal ?_
      refine w_seq ?_
      refine w_region ?_
      refine l_cons rfl (p_assign ?_)
      refine l_nil ?_
      refine k_seq_normal ?_
      refine w_seq ?_
      refine w_seq ?_
      refine w_adopt 13 3 1 rfl fun s13 => ?_
      simp only [upd_upd]
      refine w_region ?_
      refine l_cons rfl (p_loadp ty_60 ?_)
      first | refine l_cons rfl (p_lenl sl_60 ?_) | refine l_cons rfl (p_leno sl_60 ?_) | refine l_cons rfl (p_lenn sl_60 ?_)
      refine l_cons rfl (p_move ?_)
      refine l_nil ?_
      refine k_seq_normal ?_
      refine w_block ?_
      refine w_loop (fun m f es' => ∃ k s13, m = bs.length - k ∧ k ≤ bs.length ∧ Sub (.row s13 3 1 ((marks bs k).map fun n => [.int .i64 n]) :: clE (.row s2 36 3 [n.cells] :: es) s19 s5 s6 sW bs []) es' ∧ Knows f [(13, .own (es.length + 5) s13), (60, .own (es.length + 1) s19), (61, .int .i64 bs.length), (62, .int .i64 k)]) (bs.length) (⟨0, s13, rfl, Nat.zero_le _, Sub.refl _, by simp only [Knows, upd_apply, Nat.reduceEqDiff, ↓reduceIte, and_true, true_and, eq_self] <;> first | exact rfl | exact ⟨rfl, rfl⟩ | exact ⟨rfl, rfl, rfl⟩ | exact ⟨rfl, rfl, rfl, rfl⟩ | exact ⟨rfl, rfl, rfl, rfl, rfl⟩ | exact ⟨rfl, rfl, rfl, rfl, rfl, rfl⟩⟩) ?_
      rintro m f es' ⟨k, s13, rfl, hk1, hsub, hk⟩
      have hml := marks_len bs k
      have hcl := hci.len
      refine w_pins _ hsub (hk) ?_
      simp only [pins]
      refine w_seq ?_
      refine w_region ?_
      refine l_cons rfl (p_cmp ?_)
      refine l_nil ?_
      refine k_seq_normal ?_
      refine w_seq ?_
      refine w_b (fun h4 => ?_) (fun h4 => ?_)
      · skip
        have h4' := h4; (try simp only [decide_eq_true_eq, decide_eq_false_iff_not, Bool.not_eq_true', Bool.not_false, Bool.not_true, Bool.not_eq_false'] at h4')
        refine w_skip ?_
        refine k_seq_normal ?_
        refine w_seq ?_
        refine w_block ?_
        refine w_seq ?_
        refine w_region ?_
        refine l_cons rfl (p_move ?_)
        refine l_cons rfl (p_ixo sl_60 ?_)
        refine l_cons rfl (p_loadp ty_4 ?_)
        refine l_cons rfl (p_assign ?_)
        refine l_cons rfl (p_assign ?_)
        refine l_nil ?_
        refine k_seq_normal ?_
        refine w_seq ?_
        refine w_region ?_
        refine l_cons rfl (p_move ?_)
        refine l_nil ?_
        refine k_seq_normal ?_
        refine w_b (fun h5 => ?_) (fun h5 => ?_)
        · skip
          have h5' := h5; (try simp only [decide_eq_true_eq, decide_eq_false_iff_not, Bool.not_eq_true', Bool.not_false, Bool.not_true, Bool.not_eq_false'] at h5')
          refine w_region ?_
          refine l_cons rfl (p_move ?_)
          refine l_cons rfl (p_move ?_)
          refine l_cons rfl (p_buildList sl_48 ze_3 ?_)
          refine l_cons rfl (p_append sl_48 by_3 ze_3 (fun s71 => ?_))
          refine l_cons rfl (p_assign ?_)
          refine l_nil ?_
          refine k_blk_normal ?_
          refine k_seq_normal ?_
          refine w_region ?_
          refine l_cons rfl (p_arith ?_)
          refine l_cons rfl (p_move ?_)
          refine l_nil ?_
          refine k_seq_normal ?_
          first
          | exact ⟨bs.length - (k + 1), by omega, k + 1, s71, rfl, by omega, (by rw [marks_succ bs k (by omega), if_pos (by assumption), List.map_append]; exact Sub.refl _), by simp only [Knows, upd_apply, Nat.reduceEqDiff, ↓reduceIte, and_true, true_and, eq_self] <;> first | exact rfl | exact ⟨rfl, rfl⟩ | exact ⟨rfl, rfl, rfl⟩ | exact ⟨rfl, rfl, rfl, rfl⟩ | exact ⟨rfl, rfl, rfl, rfl, rfl⟩ | exact ⟨rfl, rfl, rfl, rfl, rfl, rfl⟩⟩
          | exact ⟨bs.length - (k + 1), by omega, k + 1, s13, rfl, by omega, (by rw [marks_succ bs k (by omega), if_neg (by simp_all)]; exact Sub.refl _), by simp only [Knows, upd_apply, Nat.reduceEqDiff, ↓reduceIte, and_true, true_and, eq_self] <;> first | exact rfl | exact ⟨rfl, rfl⟩ | exact ⟨rfl, rfl, rfl⟩ | exact ⟨rfl, rfl, rfl, rfl⟩ | exact ⟨rfl, rfl, rfl, rfl, rfl⟩ | exact ⟨rfl, rfl, rfl, rfl, rfl, rfl⟩⟩
        · skip
          have h5' := h5; (try simp only [decide_eq_true_eq, decide_eq_false_iff_not, Bool.not_eq_true', Bool.not_false, Bool.not_true, Bool.not_eq_false'] at h5')
          refine w_skip ?_
          refine k_blk_normal ?_
          refine k_seq_normal ?_
          refine w_region ?_
          refine l_cons rfl (p_arith ?_)
          refine l_cons rfl (p_move ?_)
          refine l_nil ?_
          refine k_seq_normal ?_
          first
          | exact ⟨bs.length - (k + 1), by omega, k + 1, s71, rfl, by omega, (by rw [marks_succ bs k (by omega), if_pos (by assumption), List.map_append]; exact Sub.refl _), by simp only [Knows, upd_apply, Nat.reduceEqDiff, ↓reduceIte, and_true, true_and, eq_self] <;> first | exact rfl | exact ⟨rfl, rfl⟩ | exact ⟨rfl, rfl, rfl⟩ | exact ⟨rfl, rfl, rfl, rfl⟩ | exact ⟨rfl, rfl, rfl, rfl, rfl⟩ | exact ⟨rfl, rfl, rfl, rfl, rfl, rfl⟩⟩
          | exact ⟨bs.length - (k + 1), by omega, k + 1, s13, rfl, by omega, (by rw [marks_succ bs k (by omega), if_neg (by simp_all)]; exact Sub.refl _), by simp only [Knows, upd_apply, Nat.reduceEqDiff, ↓reduceIte, and_true, true_and, eq_self] <;> first | exact rfl | exact ⟨rfl, rfl⟩ | exact ⟨rfl, rfl, rfl⟩ | exact ⟨rfl, rfl, rfl, rfl⟩ | exact ⟨rfl, rfl, rfl, rfl, rfl⟩ | exact ⟨rfl, rfl, rfl, rfl, rfl, rfl⟩⟩
      · skip
        have h4' := h4; (try simp only [decide_eq_true_eq, decide_eq_false_iff_not, Bool.not_eq_true', Bool.not_false, Bool.not_true, Bool.not_eq_false'] at h4')
        refine w_exit ?_
        refine k_seq_exit ?_
        refine k_seq_exit ?_
        refine k_blk_here ?_
        refine k_seq_normal ?_
        refine w_seq ?_
        refine w_freezeTop 13 ?_
        refine w_region ?_
        refine l_cons rfl (p_move ?_)
        refine l_cons rfl (p_assign ?_)
        refine l_nil ?_
        refine k_seq_normal ?_
        refine w_ret ?_
        exact ret1 rfl (by simp only [ev_tmp, ev_const, ev_func, ofConst_int, ofConst_bool, ofConst_str, ofConst_nil, upd_apply, Nat.reduceEqDiff, ↓reduceIte] <;> exact rfl) (by first | exact Sub.refl _ | exact sub1 _ _ | exact sub2 _ _ _ | exact sub3 _ _ _ _ | exact sub4 _ _ _ _ _ | exact sub5 _ _ _ _ _ _) ⟨by rw [show k = bs.length by omega, marks_closed hci], rfl⟩
end Go.Proofs.YtfdgbghlanbddaaDoor.Av
