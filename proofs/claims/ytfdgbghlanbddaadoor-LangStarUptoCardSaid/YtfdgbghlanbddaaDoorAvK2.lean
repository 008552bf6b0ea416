import Derived.Test.YtfdgbghlanbddaaDoorAvK0
import Derived.Test.YtfdgbghlanbddaaDoorAvK1
set_option linter.unusedVariables false
set_option linter.unusedSimpArgs false
set_option maxRecDepth 8000
namespace Go.Proofs.YtfdgbghlanbddaaDoor.Av
open Go.RowKit Go.Proofs
theorem take6 (r : Rx) : r.cells.take 6 = r.cells := rfl
theorem cleans_u8 (l : List Int) : (l.map fun n => [AV.int .u8 n]).all cleans = true := by
  rw [List.all_eq_true]
  intro x hx
  obtain ⟨r, _, rfl⟩ := List.mem_map.1 hx
  rfl
theorem add_at {s : W4} {b : Int} {q : Nat} (h : b / 64 = (q : Int)) : s.add b = s.setWd q (orI (s.wd q) (2 ^ (b % 64).toNat)) := by
  unfold W4.add
  rw [h, Int.toNat_natCast]
theorem listW_app (a b : W4) : ∀ x ∈ listW a ++ listW b, 0 ≤ x ∧ x < 256 := by
  intro x hx
  rcases List.mem_append.1 hx with hx | hx <;> (obtain ⟨i, rfl, h1, _⟩ := listW_mem.1 hx; omega)
theorem refList {w0 : World} {es : List Ent} (s : W4) (hs : s.ok) : ACalls Tryd.prog w0 120 [.agg s.row] es fun v es' => v = bytesAV (listW s) ∧ es' = es := by
  unfold W4.row bytesAV
  refine calls1 (N := 19) Tryd.func120 rfl rfl (by decide) ?_
  refine w_seq ?_
  refine w_region ?_
  refine l_cons rfl (p_box fun s1 => ?_)
  refine l_cons rfl (p_assign ?_)
  refine l_nil ?_
  refine k_seq_normal ?_
  refine w_seq ?_
  refine w_region ?_
  refine l_cons rfl (p_assign ?_)
  refine l_nil ?_
  refine k_seq_normal ?_
  refine w_seq ?_
  refine w_seq ?_
  refine w_adopt 3 5 1 rfl fun s3 => ?_
  simp only [upd_upd]
  refine w_region ?_
  refine l_cons rfl (p_assign ?_)
  refine l_nil ?_
  refine k_seq_normal ?_
  refine w_block ?_
  refine w_loop (fun m f es' => ∃ k s3, m = 256 - k ∧ k ≤ 256 ∧ es' = .row s3 5 1 ((listTo s k).map fun n => [.int .u8 n]) :: .row s1 26 4 [[.int .u64 s.w0, .int .u64 s.w1, .int .u64 s.w2, .int .u64 s.w3]] :: es ∧ Knows f [(1, .ptr es.length s1 0 0), (3, .own (es.length + 1) s3), (4, .int .i64 k)]) (256) (⟨0, s3, rfl, Nat.zero_le _, rfl, by simp only [Knows, put, upd_apply, Nat.reduceEqDiff, ↓reduceIte, and_true, true_and, eq_self] <;> and_intros <;> rfl⟩) ?_
  rintro m f es' ⟨k, s3, rfl, hk1, rfl, hk⟩
  refine w_pins _ (Sub.refl _) (hk) ?_
  simp only [pins]
  refine w_seq ?_
  refine w_seq ?_
  refine w_region ?_
  refine l_cons rfl (p_move ?_)
  refine l_cons rfl (p_cmp ?_)
  refine l_nil ?_
  refine k_seq_normal ?_
  refine w_b (fun h1 => ?_) (fun h1 => ?_)
  · skip
    have h1' := h1; (try simp only [decide_eq_true_eq, decide_eq_false_iff_not, Bool.not_eq_true', Bool.not_false, Bool.not_true, Bool.not_eq_false'] at h1')
    refine w_skip ?_
    refine k_seq_normal ?_
    refine w_seq ?_
    refine w_block ?_
    refine w_seq ?_
    refine w_region ?_
    refine l_cons rfl (p_loadp ty_26 ?_)
    refine l_cons rfl (p_move ?_)
    refine l_cons rfl (p_conv in_3 in_5 ?_ (hb := wrap8 (n := (k : Int)) (by omega) (by omega)))
    refine l_cons rfl (p_callr en_55 (ref1Has s.w0 s.w1 s.w2 s.w3 (k : Int) (by omega) (by omega) hs.1 hs.2.1 hs.2.2.1 hs.2.2.2.1) ?_)
    refine l_nil ?_
    refine k_seq_normal ?_
    refine w_b (fun h2 => ?_) (fun h2 => ?_)
    · skip
      have h2' := h2; (try simp only [decide_eq_true_eq, decide_eq_false_iff_not, Bool.not_eq_true', Bool.not_false, Bool.not_true, Bool.not_eq_false'] at h2')
      have hll := listTo_len s k
      refine w_region ?_
      refine l_cons rfl (p_move ?_)
      refine l_cons rfl (p_move ?_)
      refine l_cons rfl (p_conv in_3 in_5 ?_ (hb := wrap8 (n := (k : Int)) (by omega) (by omega)))
      refine l_cons rfl (p_buildList sl_22 ze_5 ?_)
      refine l_cons rfl (p_append sl_22 by_5 ze_5 (fun s17 => ?_) (hb := by simp only [List.length_map, List.length_take, List.length_drop, List.length_append, List.length_cons, List.length_nil, most]; omega))
      refine l_cons rfl (p_assign ?_)
      refine l_nil ?_
      refine k_blk_normal ?_
      refine k_seq_normal ?_
      refine w_region ?_
      refine l_cons rfl (p_move ?_)
      refine l_cons rfl (p_arith ?_)
      refine l_cons rfl (p_assign ?_)
      refine l_nil ?_
      refine k_seq_normal ?_
      first
      | exact ⟨256 - (k + 1), by omega, k + 1, s17, rfl, by omega, by rw [listTo_succ, if_pos (show s.has k = true from h2'), List.map_append] <;> rfl, by simp only [Knows, put, upd_apply, Nat.reduceEqDiff, ↓reduceIte, and_true, true_and, eq_self] <;> and_intros <;> rfl⟩
      | exact ⟨256 - (k + 1), by omega, k + 1, s3, rfl, by omega, by rw [listTo_succ, if_neg (show ¬ s.has k = true by unfold W4.has; rw [h2']; decide), List.append_nil] <;> rfl, by simp only [Knows, put, upd_apply, Nat.reduceEqDiff, ↓reduceIte, and_true, true_and, eq_self] <;> and_intros <;> rfl⟩
    · skip
      have h2' := h2; (try simp only [decide_eq_true_eq, decide_eq_false_iff_not, Bool.not_eq_true', Bool.not_false, Bool.not_true, Bool.not_eq_false'] at h2')
      refine w_skip ?_
      refine k_blk_normal ?_
      refine k_seq_normal ?_
      refine w_region ?_
      refine l_cons rfl (p_move ?_)
      refine l_cons rfl (p_arith ?_)
      refine l_cons rfl (p_assign ?_)
      refine l_nil ?_
      refine k_seq_normal ?_
      first
      | exact ⟨256 - (k + 1), by omega, k + 1, s17, rfl, by omega, by rw [listTo_succ, if_pos (show s.has k = true from h2'), List.map_append] <;> rfl, by simp only [Knows, put, upd_apply, Nat.reduceEqDiff, ↓reduceIte, and_true, true_and, eq_self] <;> and_intros <;> rfl⟩
      | exact ⟨256 - (k + 1), by omega, k + 1, s3, rfl, by omega, by rw [listTo_succ, if_neg (show ¬ s.has k = true by unfold W4.has; rw [h2']; decide), List.append_nil] <;> rfl, by simp only [Knows, put, upd_apply, Nat.reduceEqDiff, ↓reduceIte, and_true, true_and, eq_self] <;> and_intros <;> rfl⟩
  · skip
    have h1' := h1; (try simp only [decide_eq_true_eq, decide_eq_false_iff_not, Bool.not_eq_true', Bool.not_false, Bool.not_true, Bool.not_eq_false'] at h1')
    refine w_exit ?_
    refine k_seq_exit ?_
    refine k_seq_exit ?_
    refine k_blk_here ?_
    refine k_seq_normal ?_
    refine w_seq ?_
    refine w_freezeTop 3 ?_ (hclean := cleans_u8 _)
    rw [show k = 256 by omega]
    refine w_region ?_
    refine l_cons rfl (p_move ?_)
    refine l_cons rfl (p_assign ?_)
    refine l_nil ?_
    refine k_seq_normal ?_
    refine w_ret ?_
    exact ret1 rfl (by simp only [ev_tmp, ev_const, ev_func, ofConst_int, ofConst_bool, ofConst_str, ofConst_nil, upd_apply, Nat.reduceEqDiff, ↓reduceIte] <;> exact rfl) (by first | exact Sub.refl _ | exact sub1 _ _ | exact sub2 _ _ _ | exact sub3 _ _ _ _ | exact sub4 _ _ _ _ _ | exact sub5 _ _ _ _ _ _) ⟨rfl, rfl⟩
theorem refOf {w0 : World} {es : List Ent} (l : List Int) (hl : ∀ b ∈ l, 0 ≤ b ∧ b < 256) : ACalls Tryd.prog w0 68 [bytesAV l] es fun v es' => v = .agg (ofW l).row ∧ es' = es := by
  unfold bytesAV
  refine calls1 (N := 27) Tryd.func68 rfl rfl (by decide) ?_
  refine w_seq ?_
  refine w_region ?_
  refine l_cons rfl (p_alloc ze_26 fun s2 => ?_)
  refine l_nil ?_
  refine k_seq_normal ?_
  refine w_seq ?_
  refine w_len 0 fun hll => ?_
  rw [List.length_map] at hll
  simp only [most] at hll
  refine w_region ?_
  refine l_cons rfl (p_alloc ze_26 fun s3 => ?_)
  refine l_nil ?_
  refine k_seq_normal ?_
  refine w_seq ?_
  refine w_seq ?_
  refine w_region ?_
  refine l_cons rfl (p_assign ?_)
  refine l_nil ?_
  refine k_seq_normal ?_
  refine w_block ?_
  refine w_loop (fun m f es' => ∃ k, m = l.length - k ∧ k ≤ l.length ∧ es' = .row s3 26 4 [[.int .u64 (ofW (l.take k)).w0, .int .u64 (ofW (l.take k)).w1, .int .u64 (ofW (l.take k)).w2, .int .u64 (ofW (l.take k)).w3]] :: .row s2 26 4 [[.int .u64 0, .int .u64 0, .int .u64 0, .int .u64 0]] :: es ∧ Knows f [(0, .list 1 (l.map fun n => [.int .u8 n])), (2, .ptr es.length s2 0 0), (3, .ptr (es.length + 1) s3 0 0), (4, .int .i64 k)]) (l.length) (⟨0, rfl, Nat.zero_le _, rfl, by simp only [Knows, put, upd_apply, Nat.reduceEqDiff, ↓reduceIte, and_true, true_and, eq_self] <;> and_intros <;> rfl⟩) ?_
  rintro m f es' ⟨k, rfl, hk1, rfl, hk⟩
  refine w_pins _ (Sub.refl _) (hk) ?_
  simp only [pins]
  refine w_seq ?_
  refine w_seq ?_
  refine w_region ?_
  refine l_cons rfl (p_move ?_)
  refine l_cons rfl (p_move ?_)
  refine l_cons rfl (p_lenl sl_22 ?_)
  refine l_cons rfl (p_cmp ?_)
  refine l_nil ?_
  refine k_seq_normal ?_
  refine w_b (fun h1 => ?_) (fun h1 => ?_)
  · skip
    have h1' := h1; (try simp only [decide_eq_true_eq, decide_eq_false_iff_not, Bool.not_eq_true', Bool.not_false, Bool.not_true, Bool.not_eq_false'] at h1')
    refine w_skip ?_
    refine k_seq_normal ?_
    refine w_seq ?_
    refine w_block ?_
    have hb := hl (l[k]'(by omega)) (List.getElem_mem _)
    obtain ⟨q, hq4, hq⟩ : ∃ q : Nat, q < 4 ∧ (l[k]'(by omega)) / 64 = (q : Int) := ⟨((l[k]'(by omega)) / 64).toNat, by omega, by omega⟩
    have hsk : (ofW (l.take k)).ok := ofW_ok fun b hb => hl b (List.mem_of_mem_take hb)
    refine w_drawn 13 [] (fun e => e = _) mixed (by kernel_rfl) rfl ?_
    refine q1 0 (hg := rfl) (hu := rfl) (h := by rintro f _ rfl; exact p_move ⟨rfl, rfl⟩) (k := ?_)
    refine q1 4 (hg := rfl) (hu := rfl) (h := by rintro f _ rfl; exact p_move ⟨rfl, rfl⟩) (k := ?_)
    refine q2 11 12 (hg := rfl) (hu := rfl) (h := by rintro f _ rfl; exact p_ixl sl_22 ⟨rfl, rfl⟩) (k := ?_)
    refine q1 13 (hg := rfl) (hu := rfl) (h := by rintro f _ rfl; exact p_loadf ty_5 ⟨rfl, rfl⟩) (k := ?_)
    refine q1 14 (hg := rfl) (hu := rfl) (h := by rintro f _ rfl; exact p_arith ⟨rfl, rfl⟩ (hb := (quo64 hb.1 hb.2).trans (congrArg some hq))) (k := ?_)
    refine q2 3 15 (hg := rfl) (hu := rfl) (h := by rintro f _ rfl; exact p_ixa ar_26 (a := .ptr (es.length + 1) s3 0 q) ⟨rfl, rfl⟩ (h0 := by omega) (h1 := by omega) (ho := by simp)) (k := ?_)
    refine q1 16 (hg := rfl) (hu := rfl) (h := by rintro f _ rfl; exact p_loadp ty_24 (a := .int .u64 ((ofW (l.take k)).wd q)) ⟨rfl, rfl⟩ (hl := by simp only [List.length_cons, List.length_nil]; omega) (ha := wd_load (ofW (l.take k)) hq4)) (k := ?_)
    refine q1 0 (hg := rfl) (hu := rfl) (h := by rintro f _ rfl; exact p_move ⟨rfl, rfl⟩) (k := ?_)
    refine q1 4 (hg := rfl) (hu := rfl) (h := by rintro f _ rfl; exact p_move ⟨rfl, rfl⟩) (k := ?_)
    refine q2 18 19 (hg := rfl) (hu := rfl) (h := by rintro f _ rfl; exact p_ixl sl_22 ⟨rfl, rfl⟩) (k := ?_)
    refine q1 20 (hg := rfl) (hu := rfl) (h := by rintro f _ rfl; exact p_loadf ty_5 ⟨rfl, rfl⟩) (k := ?_)
    refine q1 21 (hg := rfl) (hu := rfl) (h := by rintro f _ rfl; exact p_arith ⟨rfl, rfl⟩ (hb := rem64 hb.1)) (k := ?_)
    refine q1 22 (hg := rfl) (hu := rfl) (h := by rintro f _ rfl; exact p_shl ⟨rfl, rfl⟩ (hb := shl1 hb.1)) (k := ?_)
    refine q_end ?_
    refine m_end ?_
    refine l_cons rfl (p_arith ?_ (hb := arith_or64 (W4.wd_ok hsk q) (two_lt (by omega))))
    refine l_cons rfl (p_ixa ar_26 (a := .ptr (es.length + 1) s3 0 q) ?_ (h0 := by omega) (h1 := by omega) (ho := by simp))
    refine l_cons rfl (p_store ty_24 (r' := [.int .u64 ((ofW (l.take k)).setWd q (orI ((ofW (l.take k)).wd q) (2 ^ ((l[k]'(by omega)) % 64).toNat))).w0, .int .u64 ((ofW (l.take k)).setWd q (orI ((ofW (l.take k)).wd q) (2 ^ ((l[k]'(by omega)) % 64).toNat))).w1, .int .u64 ((ofW (l.take k)).setWd q (orI ((ofW (l.take k)).wd q) (2 ^ ((l[k]'(by omega)) % 64).toNat))).w2, .int .u64 ((ofW (l.take k)).setWd q (orI ((ofW (l.take k)).wd q) (2 ^ ((l[k]'(by omega)) % 64).toNat))).w3]) ?_ (hl := by simp only [List.length_cons, List.length_nil]; omega) (hr' := store_wd (ofW (l.take k)) hq4 _))
    refine l_nil ?_
    refine k_blk_normal ?_
    refine k_seq_normal ?_
    refine w_region ?_
    refine l_cons rfl (p_move ?_)
    refine l_cons rfl (p_arith ?_)
    refine l_cons rfl (p_assign ?_)
    refine l_nil ?_
    refine k_seq_normal ?_
    exact ⟨l.length - (k + 1), by omega, k + 1, rfl, by omega, by rw [ofW_take (by omega), add_at hq] <;> rfl, by simp only [Knows, put, upd_apply, Nat.reduceEqDiff, ↓reduceIte, and_true, true_and, eq_self] <;> and_intros <;> rfl⟩
  · skip
    have h1' := h1; (try simp only [decide_eq_true_eq, decide_eq_false_iff_not, Bool.not_eq_true', Bool.not_false, Bool.not_true, Bool.not_eq_false'] at h1')
    refine w_exit ?_
    refine k_seq_exit ?_
    refine k_seq_exit ?_
    refine k_blk_here ?_
    refine k_seq_normal ?_
    refine w_seq ?_
    obtain rfl : k = l.length := by omega
    rw [List.take_length]
    refine w_region ?_
    refine l_cons rfl (p_loadp ty_26 ?_)
    refine l_cons rfl (p_store ty_26 ?_)
    refine l_nil ?_
    refine k_seq_normal ?_
    refine w_ret ?_
    exact retc rfl ty_26 (by first | exact Sub.refl _ | exact sub1 _ _ | exact sub2 _ _ _ | exact sub3 _ _ _ _ | exact sub4 _ _ _ _ _ | exact sub5 _ _ _ _ _ _) ⟨rfl, rfl⟩
theorem refInsert {w0 : World} {es : List Ent} (l : List Rx) (r : Rx) (hl : ∀ x ∈ l, x.ok) (hr : r.ok) (hn : l.length ≤ 1048576) : ACalls Tryd.prog w0 87 [.list 6 (l.map Rx.cells), .agg r.cells] es fun v es' => v = .list 6 ((insR l r).map Rx.cells) ∧ es' = es := by
  have hcr : Rx.cells r = [.int .i64 r.kind, .int .u64 r.set.w0, .int .u64 r.set.w1, .int .u64 r.set.w2, .int .u64 r.set.w3, .list 6 (r.args.map Rx.cells)] := Rx.cells_eq r
  refine calls2 (N := 46) Tryd.func87 rfl rfl (by decide) ?_
  refine w_seq ?_
  refine w_region ?_
  refine l_cons rfl (p_box fun s3 => ?_)
  refine l_cons rfl (p_assign ?_)
  refine l_nil ?_
  refine k_seq_normal ?_
  refine w_seq ?_
  refine w_region ?_
  refine l_cons rfl (p_assign ?_)
  refine l_nil ?_
  refine k_seq_normal ?_
  refine w_seq ?_
  refine w_block ?_
  refine w_loop (fun m f es' => ∃ k, m = l.length - k ∧ k ≤ l.length ∧ (∀ j (hj : j < k) (h : j < l.length), l[j].cmp r = -1) ∧ es' = .row s3 29 6 [r.cells] :: es ∧ Knows f [(0, .list 6 (l.map Rx.cells)), (3, .ptr es.length s3 0 0), (5, .int .i64 k)]) (l.length) (⟨0, rfl, Nat.zero_le _, fun j hj => absurd hj (Nat.not_lt_zero _), rfl, by simp only [Knows, put, upd_apply, Nat.reduceEqDiff, ↓reduceIte, and_true, true_and, eq_self] <;> and_intros <;> rfl⟩) ?_
  rintro m f es' ⟨k, rfl, hk1, hk2, rfl, hk⟩
  refine w_pins _ (Sub.refl _) (hk) ?_
  simp only [pins]
  refine w_seq ?_
  refine w_seq ?_
  refine w_drawn 10 [] (fun e => e = _) mixed (by kernel_rfl) rfl ?_
  refine q1 5 (hg := rfl) (hu := rfl) (h := by rintro f _ rfl; exact p_move ⟨rfl, rfl⟩) (k := ?_)
  refine q1 0 (hg := rfl) (hu := rfl) (h := by rintro f _ rfl; exact p_move ⟨rfl, rfl⟩) (k := ?_)
  refine q1 7 (hg := rfl) (hu := rfl) (h := by rintro f _ rfl; exact p_lenl sl_27 ⟨rfl, rfl⟩) (k := ?_)
  refine q2 6 8 (hg := rfl) (hu := rfl) (h := by rintro f _ rfl; exact p_cmp ⟨rfl, rfl⟩) (k := ?_)
  refine q1 9 (hg := rfl) (hu := rfl) (h := by rintro f _ rfl; exact p_move ⟨rfl, rfl⟩) (k := ?_)
  refine qsplit 10 (fun h1 => ?_) (fun h1 => ?_)
  · skip
    have h1' := h1; (try simp only [decide_eq_true_eq, decide_eq_false_iff_not, Bool.not_eq_true', Bool.not_false, Bool.not_true, Bool.not_eq_false'] at h1')
    refine qy1 0 (hg := rfl) (hw := h1) (hu := rfl) (h := by rintro f _ rfl; exact p_move ⟨rfl, rfl⟩) (k := ?_)
    refine qy1 5 (hg := rfl) (hw := h1) (hu := rfl) (h := by rintro f _ rfl; exact p_move ⟨rfl, rfl⟩) (k := ?_)
    refine qy2 11 12 (hg := rfl) (hw := h1) (hu := rfl) (h := by rintro f _ rfl; exact p_ixl sl_27 ⟨rfl, rfl⟩) (k := ?_)
    refine qy1 13 (hg := rfl) (hw := h1) (hu := rfl) (h := by rintro f _ rfl; exact p_loadf ty_29 ⟨rfl, rfl⟩) (k := ?_)
    refine qy1 3 (hg := rfl) (hw := h1) (hu := rfl) (h := by rintro f _ rfl; exact p_loadp ty_29 ⟨rfl, rfl⟩) (k := ?_)
    refine q_end ?_
    refine m_end ?_
    refine g_y rfl h1 (p_callr en_121 (refCompare _ (l[k]'(by omega)) r _ (Nat.le_refl _) (hl _ (List.getElem_mem _)) hr) ?_)
    refine g_y rfl h1 (p_cmp ?_)
    refine l_cons rfl (p_pickt h1 ?_)
    refine l_nil ?_
    refine k_seq_normal ?_
    refine w_b (fun h2 => ?_) (fun h2 => ?_)
    · skip
      have h2' := h2; (try simp only [decide_eq_true_eq, decide_eq_false_iff_not, Bool.not_eq_true', Bool.not_false, Bool.not_true, Bool.not_eq_false'] at h2')
      refine w_skip ?_
      refine k_seq_normal ?_
      refine w_block ?_
      refine w_region ?_
      refine l_cons rfl (p_move ?_)
      refine l_cons rfl (p_arith ?_)
      refine l_cons rfl (p_assign ?_)
      refine l_nil ?_
      refine k_blk_normal ?_
      refine k_seq_normal ?_
      exact ⟨l.length - (k + 1), by omega, k + 1, rfl, by omega, fun j hj h => by
        rcases Nat.lt_or_eq_of_le (Nat.le_of_lt_succ hj) with h9 | h9
        · exact hk2 j h9 h
        · subst h9; have := Rx.cmp_range (l[j]'(by omega)) r; omega, rfl, by simp only [Knows, put, upd_apply, Nat.reduceEqDiff, ↓reduceIte, and_true, true_and, eq_self] <;> and_intros <;> rfl⟩
    · skip
      have h2' := h2; (try simp only [decide_eq_true_eq, decide_eq_false_iff_not, Bool.not_eq_true', Bool.not_false, Bool.not_true, Bool.not_eq_false'] at h2')
      refine w_exit ?_
      refine k_seq_exit ?_
      refine k_seq_exit ?_
      refine k_blk_here ?_
      have hins := insR_at (l := l) (r := r) hk1 hk2 (by intro hx; first | omega | (have := Rx.cmp_range (l[k]'(by omega)) r; omega))
      refine k_seq_normal ?_
      refine w_seq ?_
      refine w_seq ?_
      refine w_drawn 10 [] (fun e => e = _) mixed (by kernel_rfl) rfl ?_
      refine q1 5 (hg := rfl) (hu := rfl) (h := by rintro f _ rfl; exact p_move ⟨rfl, rfl⟩) (k := ?_)
      refine q1 0 (hg := rfl) (hu := rfl) (h := by rintro f _ rfl; exact p_move ⟨rfl, rfl⟩) (k := ?_)
      refine q1 22 (hg := rfl) (hu := rfl) (h := by rintro f _ rfl; exact p_lenl sl_27 ⟨rfl, rfl⟩) (k := ?_)
      refine q2 21 23 (hg := rfl) (hu := rfl) (h := by rintro f _ rfl; exact p_cmp ⟨rfl, rfl⟩) (k := ?_)
      refine q1 24 (hg := rfl) (hu := rfl) (h := by rintro f _ rfl; exact p_move ⟨rfl, rfl⟩) (k := ?_)
      refine qsplit 25 (fun h3 => ?_) (fun h3 => ?_)
      · skip
        have h3' := h3; (try simp only [decide_eq_true_eq, decide_eq_false_iff_not, Bool.not_eq_true', Bool.not_false, Bool.not_true, Bool.not_eq_false'] at h3')
        refine qy1 0 (hg := rfl) (hw := h3) (hu := rfl) (h := by rintro f _ rfl; exact p_move ⟨rfl, rfl⟩) (k := ?_)
        refine qy1 5 (hg := rfl) (hw := h3) (hu := rfl) (h := by rintro f _ rfl; exact p_move ⟨rfl, rfl⟩) (k := ?_)
        refine qy2 26 27 (hg := rfl) (hw := h3) (hu := rfl) (h := by rintro f _ rfl; exact p_ixl sl_27 ⟨rfl, rfl⟩) (k := ?_)
        refine qy1 28 (hg := rfl) (hw := h3) (hu := rfl) (h := by rintro f _ rfl; exact p_loadf ty_29 ⟨rfl, rfl⟩) (k := ?_)
        refine qy1 3 (hg := rfl) (hw := h3) (hu := rfl) (h := by rintro f _ rfl; exact p_loadp ty_29 ⟨rfl, rfl⟩) (k := ?_)
        refine q_end ?_
        refine m_end ?_
        refine g_y rfl h3 (p_callr en_122 (refEqual (l[k]'(by omega)) r (hl _ (List.getElem_mem _)) hr) ?_)
        refine l_cons rfl (p_pickt h3 ?_)
        refine l_nil ?_
        refine k_seq_normal ?_
        refine w_b (fun h4 => ?_) (fun h4 => ?_)
        · skip
          have h4' := h4; (try simp only [decide_eq_true_eq, decide_eq_false_iff_not, Bool.not_eq_true', Bool.not_false, Bool.not_true, Bool.not_eq_false'] at h4')
          refine w_seq ?_
          refine w_region ?_
          refine l_cons rfl (p_move ?_)
          refine l_cons rfl (p_assign ?_)
          refine l_nil ?_
          refine k_seq_normal ?_
          refine w_ret ?_
          refine k_seq_ret ?_
          exact ret1 rfl (by simp only [ev_tmp, ev_const, ev_func, ofConst_int, ofConst_bool, ofConst_str, ofConst_nil, upd_apply, Nat.reduceEqDiff, ↓reduceIte] <;> exact rfl) (by first | exact Sub.refl _ | exact sub1 _ _ | exact sub2 _ _ _ | exact sub3 _ _ _ _ | exact sub4 _ _ _ _ _ | exact sub5 _ _ _ _ _ _) ⟨by rw [hins, if_pos ⟨by omega, by assumption⟩] <;> rfl, rfl⟩
        · skip
          have h4' := h4; (try simp only [decide_eq_true_eq, decide_eq_false_iff_not, Bool.not_eq_true', Bool.not_false, Bool.not_true, Bool.not_eq_false'] at h4')
          refine w_skip ?_
          refine k_seq_normal ?_
          refine w_seq ?_
          refine w_drawn 12 [0, 4, 7, 11] (fun e => at_ e es.length = some (.row s3 29 6 [r.cells])) mixed (by kernel_rfl) (at_hit _ _) ?_
          refine q1 0 (hg := rfl) (hu := rfl) (h := by rintro f _ hG; exact p_move ⟨rfl, rfl⟩) (k := ?_)
          refine q1 5 (hg := rfl) (hu := rfl) (h := by rintro f _ hG; exact p_move ⟨rfl, rfl⟩) (k := ?_)
          refine q2 35 36 (hg := rfl) (hu := rfl) (h := by rintro f _ hG; exact p_slicel (l := 0) (h := k) sl_27 ⟨rfl, rfl⟩) (k := ?_)
          refine q1 3 (hg := rfl) (hu := rfl) (h := by rintro f _ hG; exact p_loadp ty_29 ⟨rfl, rfl⟩) (k := ?_)
          refine q1 39 (hg := rfl) (hu := rfl) (h := by rintro f _ hG; exact p_buildList sl_27 ze_29 ⟨rfl, rfl⟩) (k := ?_)
          refine q1 0 (hg := rfl) (hu := rfl) (h := by rintro f _ hG; exact p_move ⟨rfl, rfl⟩) (k := ?_)
          refine q1 5 (hg := rfl) (hu := rfl) (h := by rintro f _ hG; exact p_move ⟨rfl, rfl⟩) (k := ?_)
          refine q2 42 43 (hg := rfl) (hu := rfl) (h := by rintro f _ hG; exact p_slicel (l := k) (h := (l.map Rx.cells).length) sl_27 ⟨rfl, rfl⟩ (hlh := by simp only [List.length_map]; omega)) (k := ?_)
          refine q_end ?_
          refine m0  (hu := rfl) (h := fun f => p_buildSlice sl_27 ze_29 fun s34 => ?_)
          refine ⟨_, rfl, at_miss _ (at_hit _ _), ?_⟩
          refine m2 34 37 (hu := rfl) (h := fun f => p_append sl_27 by_29 ze_29 (fun s38 => ?_) (hb := by simp only [List.length_map, List.length_take, List.length_drop, List.length_append, List.length_cons, List.length_nil, most]; omega))
          refine ⟨_, rfl, at_miss _ (at_hit _ _), ?_⟩
          refine m2 38 40 (hu := rfl) (h := fun f => p_append sl_27 by_29 ze_29 (fun s41 => ?_) (hb := by simp only [List.length_map, List.length_take, List.length_drop, List.length_append, List.length_cons, List.length_nil, most]; omega))
          refine ⟨_, rfl, at_miss _ (at_hit _ _), ?_⟩
          refine m2 41 44 (hu := rfl) (h := fun f => p_append sl_27 by_29 ze_29 (fun s45 => ?_) (hb := by simp only [List.length_map, List.length_take, List.length_drop, List.length_append, List.length_cons, List.length_nil, most]; omega))
          refine ⟨_, rfl, at_miss _ (at_hit _ _), ?_⟩
          refine m_end ?_
          refine l_cons rfl (p_assign ?_)
          refine l_nil ?_
          refine k_seq_normal ?_
          refine w_freezeTop 4 ?_ (hclean := by simp only [take6, List.take_length, List.nil_append, ← List.map_take, ← List.map_drop, ← List.map_append, ← List.map_cons, List.all_append, cleans_rx, cleans_cells, List.all_cons, List.all_nil, Bool.and_self, Bool.and_true])
          refine w_ret ?_
          exact ret1 rfl (by simp only [ev_tmp, ev_const, ev_func, ofConst_int, ofConst_bool, ofConst_str, ofConst_nil, upd_apply, Nat.reduceEqDiff, ↓reduceIte] <;> exact rfl) (by first | exact Sub.refl _ | exact sub1 _ _ | exact sub2 _ _ _ | exact sub3 _ _ _ _ | exact sub4 _ _ _ _ _ | exact sub5 _ _ _ _ _ _) ⟨by rw [hins, if_neg (by rintro ⟨hx, hy⟩; first | omega | exact absurd hy (by simp_all))]; simp [take6, List.take_of_length_le], rfl⟩
      · skip
        have h3' := h3; (try simp only [decide_eq_true_eq, decide_eq_false_iff_not, Bool.not_eq_true', Bool.not_false, Bool.not_true, Bool.not_eq_false'] at h3')
        refine qn rfl h3 ?_
        refine qn rfl h3 ?_
        refine qn rfl h3 ?_
        refine qn rfl h3 ?_
        refine qn rfl h3 ?_
        refine q_end ?_
        refine m_end ?_
        refine g_n rfl h3 ?_
        refine l_cons rfl (p_pickf h3 ?_)
        refine l_nil ?_
        refine k_seq_normal ?_
        refine w_f rfl ?_
        refine w_skip ?_
        refine k_seq_normal ?_
        refine w_seq ?_
        refine w_drawn 12 [0, 4, 7, 11] (fun e => at_ e es.length = some (.row s3 29 6 [r.cells])) mixed (by kernel_rfl) (at_hit _ _) ?_
        refine q1 0 (hg := rfl) (hu := rfl) (h := by rintro f _ hG; exact p_move ⟨rfl, rfl⟩) (k := ?_)
        refine q1 5 (hg := rfl) (hu := rfl) (h := by rintro f _ hG; exact p_move ⟨rfl, rfl⟩) (k := ?_)
        refine q2 35 36 (hg := rfl) (hu := rfl) (h := by rintro f _ hG; exact p_slicel (l := 0) (h := k) sl_27 ⟨rfl, rfl⟩) (k := ?_)
        refine q1 3 (hg := rfl) (hu := rfl) (h := by rintro f _ hG; exact p_loadp ty_29 ⟨rfl, rfl⟩) (k := ?_)
        refine q1 39 (hg := rfl) (hu := rfl) (h := by rintro f _ hG; exact p_buildList sl_27 ze_29 ⟨rfl, rfl⟩) (k := ?_)
        refine q1 0 (hg := rfl) (hu := rfl) (h := by rintro f _ hG; exact p_move ⟨rfl, rfl⟩) (k := ?_)
        refine q1 5 (hg := rfl) (hu := rfl) (h := by rintro f _ hG; exact p_move ⟨rfl, rfl⟩) (k := ?_)
        refine q2 42 43 (hg := rfl) (hu := rfl) (h := by rintro f _ hG; exact p_slicel (l := k) (h := (l.map Rx.cells).length) sl_27 ⟨rfl, rfl⟩ (hlh := by simp only [List.length_map]; omega)) (k := ?_)
        refine q_end ?_
        refine m0  (hu := rfl) (h := fun f => p_buildSlice sl_27 ze_29 fun s34 => ?_)
        refine ⟨_, rfl, at_miss _ (at_hit _ _), ?_⟩
        refine m2 34 37 (hu := rfl) (h := fun f => p_append sl_27 by_29 ze_29 (fun s38 => ?_) (hb := by simp only [List.length_map, List.length_take, List.length_drop, List.length_append, List.length_cons, List.length_nil, most]; omega))
        refine ⟨_, rfl, at_miss _ (at_hit _ _), ?_⟩
        refine m2 38 40 (hu := rfl) (h := fun f => p_append sl_27 by_29 ze_29 (fun s41 => ?_) (hb := by simp only [List.length_map, List.length_take, List.length_drop, List.length_append, List.length_cons, List.length_nil, most]; omega))
        refine ⟨_, rfl, at_miss _ (at_hit _ _), ?_⟩
        refine m2 41 44 (hu := rfl) (h := fun f => p_append sl_27 by_29 ze_29 (fun s45 => ?_) (hb := by simp only [List.length_map, List.length_take, List.length_drop, List.length_append, List.length_cons, List.length_nil, most]; omega))
        refine ⟨_, rfl, at_miss _ (at_hit _ _), ?_⟩
        refine m_end ?_
        refine l_cons rfl (p_assign ?_)
        refine l_nil ?_
        refine k_seq_normal ?_
        refine w_freezeTop 4 ?_ (hclean := by simp only [take6, List.take_length, List.nil_append, ← List.map_take, ← List.map_drop, ← List.map_append, ← List.map_cons, List.all_append, cleans_rx, cleans_cells, List.all_cons, List.all_nil, Bool.and_self, Bool.and_true])
        refine w_ret ?_
        exact ret1 rfl (by simp only [ev_tmp, ev_const, ev_func, ofConst_int, ofConst_bool, ofConst_str, ofConst_nil, upd_apply, Nat.reduceEqDiff, ↓reduceIte] <;> exact rfl) (by first | exact Sub.refl _ | exact sub1 _ _ | exact sub2 _ _ _ | exact sub3 _ _ _ _ | exact sub4 _ _ _ _ _ | exact sub5 _ _ _ _ _ _) ⟨by rw [hins, if_neg (by rintro ⟨hx, hy⟩; first | omega | exact absurd hy (by simp_all))]; simp [take6, List.take_of_length_le], rfl⟩
  · skip
    have h1' := h1; (try simp only [decide_eq_true_eq, decide_eq_false_iff_not, Bool.not_eq_true', Bool.not_false, Bool.not_true, Bool.not_eq_false'] at h1')
    refine qn rfl h1 ?_
    refine qn rfl h1 ?_
    refine qn rfl h1 ?_
    refine qn rfl h1 ?_
    refine qn rfl h1 ?_
    refine q_end ?_
    refine m_end ?_
    refine g_n rfl h1 ?_
    refine g_n rfl h1 ?_
    refine l_cons rfl (p_pickf h1 ?_)
    refine l_nil ?_
    refine k_seq_normal ?_
    refine w_f rfl ?_
    refine w_exit ?_
    refine k_seq_exit ?_
    refine k_seq_exit ?_
    refine k_blk_here ?_
    have hins := insR_at (l := l) (r := r) hk1 hk2 (by intro hx; first | omega | (have := Rx.cmp_range (l[k]'(by omega)) r; omega))
    refine k_seq_normal ?_
    refine w_seq ?_
    refine w_seq ?_
    refine w_drawn 10 [] (fun e => e = _) mixed (by kernel_rfl) rfl ?_
    refine q1 5 (hg := rfl) (hu := rfl) (h := by rintro f _ rfl; exact p_move ⟨rfl, rfl⟩) (k := ?_)
    refine q1 0 (hg := rfl) (hu := rfl) (h := by rintro f _ rfl; exact p_move ⟨rfl, rfl⟩) (k := ?_)
    refine q1 22 (hg := rfl) (hu := rfl) (h := by rintro f _ rfl; exact p_lenl sl_27 ⟨rfl, rfl⟩) (k := ?_)
    refine q2 21 23 (hg := rfl) (hu := rfl) (h := by rintro f _ rfl; exact p_cmp ⟨rfl, rfl⟩) (k := ?_)
    refine q1 24 (hg := rfl) (hu := rfl) (h := by rintro f _ rfl; exact p_move ⟨rfl, rfl⟩) (k := ?_)
    refine qsplit 25 (fun h5 => ?_) (fun h5 => ?_)
    · skip
      have h5' := h5; (try simp only [decide_eq_true_eq, decide_eq_false_iff_not, Bool.not_eq_true', Bool.not_false, Bool.not_true, Bool.not_eq_false'] at h5')
      refine qy1 0 (hg := rfl) (hw := h5) (hu := rfl) (h := by rintro f _ rfl; exact p_move ⟨rfl, rfl⟩) (k := ?_)
      refine qy1 5 (hg := rfl) (hw := h5) (hu := rfl) (h := by rintro f _ rfl; exact p_move ⟨rfl, rfl⟩) (k := ?_)
      refine qy2 26 27 (hg := rfl) (hw := h5) (hu := rfl) (h := by rintro f _ rfl; exact p_ixl sl_27 ⟨rfl, rfl⟩) (k := ?_)
      refine qy1 28 (hg := rfl) (hw := h5) (hu := rfl) (h := by rintro f _ rfl; exact p_loadf ty_29 ⟨rfl, rfl⟩) (k := ?_)
      refine qy1 3 (hg := rfl) (hw := h5) (hu := rfl) (h := by rintro f _ rfl; exact p_loadp ty_29 ⟨rfl, rfl⟩) (k := ?_)
      refine q_end ?_
      refine m_end ?_
      refine g_y rfl h5 (p_callr en_122 (refEqual (l[k]'(by omega)) r (hl _ (List.getElem_mem _)) hr) ?_)
      refine l_cons rfl (p_pickt h5 ?_)
      refine l_nil ?_
      refine k_seq_normal ?_
      refine w_b (fun h6 => ?_) (fun h6 => ?_)
      · skip
        have h6' := h6; (try simp only [decide_eq_true_eq, decide_eq_false_iff_not, Bool.not_eq_true', Bool.not_false, Bool.not_true, Bool.not_eq_false'] at h6')
        refine w_seq ?_
        refine w_region ?_
        refine l_cons rfl (p_move ?_)
        refine l_cons rfl (p_assign ?_)
        refine l_nil ?_
        refine k_seq_normal ?_
        refine w_ret ?_
        refine k_seq_ret ?_
        exact ret1 rfl (by simp only [ev_tmp, ev_const, ev_func, ofConst_int, ofConst_bool, ofConst_str, ofConst_nil, upd_apply, Nat.reduceEqDiff, ↓reduceIte] <;> exact rfl) (by first | exact Sub.refl _ | exact sub1 _ _ | exact sub2 _ _ _ | exact sub3 _ _ _ _ | exact sub4 _ _ _ _ _ | exact sub5 _ _ _ _ _ _) ⟨by rw [hins, if_pos ⟨by omega, by assumption⟩] <;> rfl, rfl⟩
      · skip
        have h6' := h6; (try simp only [decide_eq_true_eq, decide_eq_false_iff_not, Bool.not_eq_true', Bool.not_false, Bool.not_true, Bool.not_eq_false'] at h6')
        refine w_skip ?_
        refine k_seq_normal ?_
        refine w_seq ?_
        refine w_drawn 12 [0, 4, 7, 11] (fun e => at_ e es.length = some (.row s3 29 6 [r.cells])) mixed (by kernel_rfl) (at_hit _ _) ?_
        refine q1 0 (hg := rfl) (hu := rfl) (h := by rintro f _ hG; exact p_move ⟨rfl, rfl⟩) (k := ?_)
        refine q1 5 (hg := rfl) (hu := rfl) (h := by rintro f _ hG; exact p_move ⟨rfl, rfl⟩) (k := ?_)
        refine q2 35 36 (hg := rfl) (hu := rfl) (h := by rintro f _ hG; exact p_slicel (l := 0) (h := k) sl_27 ⟨rfl, rfl⟩) (k := ?_)
        refine q1 3 (hg := rfl) (hu := rfl) (h := by rintro f _ hG; exact p_loadp ty_29 ⟨rfl, rfl⟩) (k := ?_)
        refine q1 39 (hg := rfl) (hu := rfl) (h := by rintro f _ hG; exact p_buildList sl_27 ze_29 ⟨rfl, rfl⟩) (k := ?_)
        refine q1 0 (hg := rfl) (hu := rfl) (h := by rintro f _ hG; exact p_move ⟨rfl, rfl⟩) (k := ?_)
        refine q1 5 (hg := rfl) (hu := rfl) (h := by rintro f _ hG; exact p_move ⟨rfl, rfl⟩) (k := ?_)
        refine q2 42 43 (hg := rfl) (hu := rfl) (h := by rintro f _ hG; exact p_slicel (l := k) (h := (l.map Rx.cells).length) sl_27 ⟨rfl, rfl⟩ (hlh := by simp only [List.length_map]; omega)) (k := ?_)
        refine q_end ?_
        refine m0  (hu := rfl) (h := fun f => p_buildSlice sl_27 ze_29 fun s34 => ?_)
        refine ⟨_, rfl, at_miss _ (at_hit _ _), ?_⟩
        refine m2 34 37 (hu := rfl) (h := fun f => p_append sl_27 by_29 ze_29 (fun s38 => ?_) (hb := by simp only [List.length_map, List.length_take, List.length_drop, List.length_append, List.length_cons, List.length_nil, most]; omega))
        refine ⟨_, rfl, at_miss _ (at_hit _ _), ?_⟩
        refine m2 38 40 (hu := rfl) (h := fun f => p_append sl_27 by_29 ze_29 (fun s41 => ?_) (hb := by simp only [List.length_map, List.length_take, List.length_drop, List.length_append, List.length_cons, List.length_nil, most]; omega))
        refine ⟨_, rfl, at_miss _ (at_hit _ _), ?_⟩
        refine m2 41 44 (hu := rfl) (h := fun f => p_append sl_27 by_29 ze_29 (fun s45 => ?_) (hb := by simp only [List.length_map, List.length_take, List.length_drop, List.length_append, List.length_cons, List.length_nil, most]; omega))
        refine ⟨_, rfl, at_miss _ (at_hit _ _), ?_⟩
        refine m_end ?_
        refine l_cons rfl (p_assign ?_)
        refine l_nil ?_
        refine k_seq_normal ?_
        refine w_freezeTop 4 ?_ (hclean := by simp only [take6, List.take_length, List.nil_append, ← List.map_take, ← List.map_drop, ← List.map_append, ← List.map_cons, List.all_append, cleans_rx, cleans_cells, List.all_cons, List.all_nil, Bool.and_self, Bool.and_true])
        refine w_ret ?_
        exact ret1 rfl (by simp only [ev_tmp, ev_const, ev_func, ofConst_int, ofConst_bool, ofConst_str, ofConst_nil, upd_apply, Nat.reduceEqDiff, ↓reduceIte] <;> exact rfl) (by first | exact Sub.refl _ | exact sub1 _ _ | exact sub2 _ _ _ | exact sub3 _ _ _ _ | exact sub4 _ _ _ _ _ | exact sub5 _ _ _ _ _ _) ⟨by rw [hins, if_neg (by rintro ⟨hx, hy⟩; first | omega | exact absurd hy (by simp_all))]; simp [take6, List.take_of_length_le], rfl⟩
    · skip
      have h5' := h5; (try simp only [decide_eq_true_eq, decide_eq_false_iff_not, Bool.not_eq_true', Bool.not_false, Bool.not_true, Bool.not_eq_false'] at h5')
      refine qn rfl h5 ?_
      refine qn rfl h5 ?_
      refine qn rfl h5 ?_
      refine qn rfl h5 ?_
      refine qn rfl h5 ?_
      refine q_end ?_
      refine m_end ?_
      refine g_n rfl h5 ?_
      refine l_cons rfl (p_pickf h5 ?_)
      refine l_nil ?_
      refine k_seq_normal ?_
      refine w_f rfl ?_
      refine w_skip ?_
      refine k_seq_normal ?_
      refine w_seq ?_
      refine w_drawn 12 [0, 4, 7, 11] (fun e => at_ e es.length = some (.row s3 29 6 [r.cells])) mixed (by kernel_rfl) (at_hit _ _) ?_
      refine q1 0 (hg := rfl) (hu := rfl) (h := by rintro f _ hG; exact p_move ⟨rfl, rfl⟩) (k := ?_)
      refine q1 5 (hg := rfl) (hu := rfl) (h := by rintro f _ hG; exact p_move ⟨rfl, rfl⟩) (k := ?_)
      refine q2 35 36 (hg := rfl) (hu := rfl) (h := by rintro f _ hG; exact p_slicel (l := 0) (h := k) sl_27 ⟨rfl, rfl⟩) (k := ?_)
      refine q1 3 (hg := rfl) (hu := rfl) (h := by rintro f _ hG; exact p_loadp ty_29 ⟨rfl, rfl⟩) (k := ?_)
      refine q1 39 (hg := rfl) (hu := rfl) (h := by rintro f _ hG; exact p_buildList sl_27 ze_29 ⟨rfl, rfl⟩) (k := ?_)
      refine q1 0 (hg := rfl) (hu := rfl) (h := by rintro f _ hG; exact p_move ⟨rfl, rfl⟩) (k := ?_)
      refine q1 5 (hg := rfl) (hu := rfl) (h := by rintro f _ hG; exact p_move ⟨rfl, rfl⟩) (k := ?_)
      refine q2 42 43 (hg := rfl) (hu := rfl) (h := by rintro f _ hG; exact p_slicel (l := k) (h := (l.map Rx.cells).length) sl_27 ⟨rfl, rfl⟩ (hlh := by simp only [List.length_map]; omega)) (k := ?_)
      refine q_end ?_
      refine m0  (hu := rfl) (h := fun f => p_buildSlice sl_27 ze_29 fun s34 => ?_)
      refine ⟨_, rfl, at_miss _ (at_hit _ _), ?_⟩
      refine m2 34 37 (hu := rfl) (h := fun f => p_append sl_27 by_29 ze_29 (fun s38 => ?_) (hb := by simp only [List.length_map, List.length_take, List.length_drop, List.length_append, List.length_cons, List.length_nil, most]; omega))
      refine ⟨_, rfl, at_miss _ (at_hit _ _), ?_⟩
      refine m2 38 40 (hu := rfl) (h := fun f => p_append sl_27 by_29 ze_29 (fun s41 => ?_) (hb := by simp only [List.length_map, List.length_take, List.length_drop, List.length_append, List.length_cons, List.length_nil, most]; omega))
      refine ⟨_, rfl, at_miss _ (at_hit _ _), ?_⟩
      refine m2 41 44 (hu := rfl) (h := fun f => p_append sl_27 by_29 ze_29 (fun s45 => ?_) (hb := by simp only [List.length_map, List.length_take, List.length_drop, List.length_append, List.length_cons, List.length_nil, most]; omega))
      refine ⟨_, rfl, at_miss _ (at_hit _ _), ?_⟩
      refine m_end ?_
      refine l_cons rfl (p_assign ?_)
      refine l_nil ?_
      refine k_seq_normal ?_
      refine w_freezeTop 4 ?_ (hclean := by simp only [take6, List.take_length, List.nil_append, ← List.map_take, ← List.map_drop, ← List.map_append, ← List.map_cons, List.all_append, cleans_rx, cleans_cells, List.all_cons, List.all_nil, Bool.and_self, Bool.and_true])
      refine w_ret ?_
      exact ret1 rfl (by simp only [ev_tmp, ev_const, ev_func, ofConst_int, ofConst_bool, ofConst_str, ofConst_nil, upd_apply, Nat.reduceEqDiff, ↓reduceIte] <;> exact rfl) (by first | exact Sub.refl _ | exact sub1 _ _ | exact sub2 _ _ _ | exact sub3 _ _ _ _ | exact sub4 _ _ _ _ _ | exact sub5 _ _ _ _ _ _) ⟨by rw [hins, if_neg (by rintro ⟨hx, hy⟩; first | omega | exact absurd hy (by simp_all))]; simp [take6, List.take_of_length_le], rfl⟩
end Go.Proofs.YtfdgbghlanbddaaDoor.Av
set_option linter.unusedVariables false
set_option linter.unusedSimpArgs false
set_option maxRecDepth 8000
namespace Go.Proofs.YtfdgbghlanbddaaDoor.Av
open Go.RowKit Go.Proofs
theorem alt_res_yes {l : List Rx} (h : ¬ altSet noSet ((flatR 5 l).take (flatR 5 l).length) = noSet) : altR l = altOf (insR (altOuts [] ((flatR 5 l).take (flatR 5 l).length)) (bytesR (altSet noSet ((flatR 5 l).take (flatR 5 l).length)))) := by
  rw [List.take_length] at h ⊢
  unfold altR altFin bytesR
  rw [if_neg h, if_neg h]
theorem alt_res_no {l : List Rx} (h : altSet noSet ((flatR 5 l).take (flatR 5 l).length) = noSet) : altR l = altOf (altOuts [] ((flatR 5 l).take (flatR 5 l).length)) := by
  rw [List.take_length] at h ⊢
  unfold altR altFin
  rw [if_pos h]
theorem sub_dead2 (a b : Ent) (es : List Ent) : Sub (a :: .dead :: es) (a :: b :: es) := by
  intro id s e sz rows h
  simp only [at_, List.length_cons] at h ⊢
  by_cases h1 : id = es.length + 1
  · rw [if_pos h1] at h ⊢; exact h
  · rw [if_neg h1] at h ⊢
    by_cases h2 : id = es.length
    · rw [if_pos h2] at h; cases h
    · rw [if_neg h2] at h ⊢; exact h
theorem bytesR_ok {s : W4} (h : s.ok) : (bytesR s).ok := by
  unfold bytesR
  split
  · simp [noneR, Rx.ok, Rx.oks, noSet_ok]
  · simp [Rx.ok, Rx.oks, h]
theorem set_load (r : Rx) : loadAV true 4 r.cells 1 = .agg r.set.row := by rw [Rx.cells_eq]; rfl
theorem refListOwn {w0 : World} {es : List Ent} (s : W4) (hs : s.ok) : ACalls Tryd.prog w0 120 [.agg s.row] es fun v es' => ∃ t, v = .own (es.length + 1) t ∧ es' = .row t 5 1 ((listW s).map fun n => [.int .u8 n]) :: .dead :: es := by
  unfold W4.row
  refine calls1 (N := 19) Tryd.func120 rfl rfl (by decide) ?_
  refine w_seq ?_
  refine w_region ?_
  refine l_cons rfl (p_box fun s1 => ?_)
  refine l_cons rfl (p_assign ?_)
  refine l_nil ?_
  refine k_seq_normal ?_
  refine w_seq ?_
  refine w_region ?_
  refine l_cons rfl (p_assign ?_)
  refine l_nil ?_
  refine k_seq_normal ?_
  refine w_seq ?_
  refine w_seq ?_
  refine w_adopt 3 5 1 rfl fun s3 => ?_
  simp only [upd_upd]
  refine w_region ?_
  refine l_cons rfl (p_assign ?_)
  refine l_nil ?_
  refine k_seq_normal ?_
  refine w_block ?_
  refine w_loop (fun m f es' => ∃ k s3, m = 256 - k ∧ k ≤ 256 ∧ es' = .row s3 5 1 ((listTo s k).map fun n => [.int .u8 n]) :: .row s1 26 4 [[.int .u64 s.w0, .int .u64 s.w1, .int .u64 s.w2, .int .u64 s.w3]] :: es ∧ Knows f [(1, .ptr es.length s1 0 0), (3, .own (es.length + 1) s3), (4, .int .i64 k)]) (256) (⟨0, s3, rfl, Nat.zero_le _, rfl, by simp only [Knows, put, upd_apply, Nat.reduceEqDiff, ↓reduceIte, and_true, true_and, eq_self] <;> and_intros <;> rfl⟩) ?_
  rintro m f es' ⟨k, s3, rfl, hk1, rfl, hk⟩
  refine w_pins _ (Sub.refl _) (hk) ?_
  simp only [pins]
  refine w_seq ?_
  refine w_seq ?_
  refine w_region ?_
  refine l_cons rfl (p_move ?_)
  refine l_cons rfl (p_cmp ?_)
  refine l_nil ?_
  refine k_seq_normal ?_
  refine w_b (fun h1 => ?_) (fun h1 => ?_)
  · skip
    have h1' := h1; (try simp only [decide_eq_true_eq, decide_eq_false_iff_not, Bool.not_eq_true', Bool.not_false, Bool.not_true, Bool.not_eq_false'] at h1')
    refine w_skip ?_
    refine k_seq_normal ?_
    refine w_seq ?_
    refine w_block ?_
    refine w_seq ?_
    refine w_region ?_
    refine l_cons rfl (p_loadp ty_26 ?_)
    refine l_cons rfl (p_move ?_)
    refine l_cons rfl (p_conv in_3 in_5 ?_ (hb := wrap8 (n := (k : Int)) (by omega) (by omega)))
    refine l_cons rfl (p_callr en_55 (ref1Has s.w0 s.w1 s.w2 s.w3 (k : Int) (by omega) (by omega) hs.1 hs.2.1 hs.2.2.1 hs.2.2.2.1) ?_)
    refine l_nil ?_
    refine k_seq_normal ?_
    refine w_b (fun h2 => ?_) (fun h2 => ?_)
    · skip
      have h2' := h2; (try simp only [decide_eq_true_eq, decide_eq_false_iff_not, Bool.not_eq_true', Bool.not_false, Bool.not_true, Bool.not_eq_false'] at h2')
      have hll := listTo_len s k
      refine w_region ?_
      refine l_cons rfl (p_move ?_)
      refine l_cons rfl (p_move ?_)
      refine l_cons rfl (p_conv in_3 in_5 ?_ (hb := wrap8 (n := (k : Int)) (by omega) (by omega)))
      refine l_cons rfl (p_buildList sl_22 ze_5 ?_)
      refine l_cons rfl (p_append sl_22 by_5 ze_5 (fun s17 => ?_) (hb := by simp only [List.length_map, List.length_take, List.length_drop, List.length_append, List.length_cons, List.length_nil, most]; omega))
      refine l_cons rfl (p_assign ?_)
      refine l_nil ?_
      refine k_blk_normal ?_
      refine k_seq_normal ?_
      refine w_region ?_
      refine l_cons rfl (p_move ?_)
      refine l_cons rfl (p_arith ?_)
      refine l_cons rfl (p_assign ?_)
      refine l_nil ?_
      refine k_seq_normal ?_
      first
      | exact ⟨256 - (k + 1), by omega, k + 1, s17, rfl, by omega, by rw [listTo_succ, if_pos (show s.has k = true from h2'), List.map_append] <;> rfl, by simp only [Knows, put, upd_apply, Nat.reduceEqDiff, ↓reduceIte, and_true, true_and, eq_self] <;> and_intros <;> rfl⟩
      | exact ⟨256 - (k + 1), by omega, k + 1, s3, rfl, by omega, by rw [listTo_succ, if_neg (show ¬ s.has k = true by unfold W4.has; rw [h2']; decide), List.append_nil] <;> rfl, by simp only [Knows, put, upd_apply, Nat.reduceEqDiff, ↓reduceIte, and_true, true_and, eq_self] <;> and_intros <;> rfl⟩
    · skip
      have h2' := h2; (try simp only [decide_eq_true_eq, decide_eq_false_iff_not, Bool.not_eq_true', Bool.not_false, Bool.not_true, Bool.not_eq_false'] at h2')
      refine w_skip ?_
      refine k_blk_normal ?_
      refine k_seq_normal ?_
      refine w_region ?_
      refine l_cons rfl (p_move ?_)
      refine l_cons rfl (p_arith ?_)
      refine l_cons rfl (p_assign ?_)
      refine l_nil ?_
      refine k_seq_normal ?_
      first
      | exact ⟨256 - (k + 1), by omega, k + 1, s17, rfl, by omega, by rw [listTo_succ, if_pos (show s.has k = true from h2'), List.map_append] <;> rfl, by simp only [Knows, put, upd_apply, Nat.reduceEqDiff, ↓reduceIte, and_true, true_and, eq_self] <;> and_intros <;> rfl⟩
      | exact ⟨256 - (k + 1), by omega, k + 1, s3, rfl, by omega, by rw [listTo_succ, if_neg (show ¬ s.has k = true by unfold W4.has; rw [h2']; decide), List.append_nil] <;> rfl, by simp only [Knows, put, upd_apply, Nat.reduceEqDiff, ↓reduceIte, and_true, true_and, eq_self] <;> and_intros <;> rfl⟩
  · skip
    have h1' := h1; (try simp only [decide_eq_true_eq, decide_eq_false_iff_not, Bool.not_eq_true', Bool.not_false, Bool.not_true, Bool.not_eq_false'] at h1')
    refine w_exit ?_
    refine k_seq_exit ?_
    refine k_seq_exit ?_
    refine k_blk_here ?_
    refine k_seq_normal ?_
    refine w_seq ?_
    refine w_region ?_
    refine l_cons rfl (p_move ?_)
    refine l_cons rfl (p_assign ?_)
    refine l_nil ?_
    refine k_seq_normal ?_
    refine w_ret ?_
    obtain rfl : k = 256 := by omega
    exact ret1 rfl (by simp only [ev_tmp, ev_const, ev_func, ofConst_int, ofConst_bool, ofConst_str, ofConst_nil, upd_apply, Nat.reduceEqDiff, ↓reduceIte] <;> exact rfl) (sub_dead2 _ _ _) ⟨_, rfl, rfl⟩
theorem refOr {w0 : World} {es : List Ent} (a b : W4) (ha : a.ok) (hb : b.ok) : ACalls Tryd.prog w0 86 [.agg a.row, .agg b.row] es fun v es' => v = .agg (a.or b).row ∧ es' = es := by
  unfold W4.row
  have hx1 := listTo_len a 256
  have hx2 := listTo_len b 256
  refine calls2 (N := 11) Tryd.func86 rfl rfl (by decide) ?_
  refine w_seq ?_
  refine w_region ?_
  refine l_cons rfl (p_box fun s2 => ?_)
  refine l_cons rfl (p_box fun s3 => ?_)
  refine l_cons rfl (p_alloc ze_26 fun s4 => ?_)
  refine l_nil ?_
  refine k_seq_normal ?_
  refine w_seq ?_
  refine w_drawn 4 [1] (fun e => at_ e es.length = some (.row s2 26 4 [[.int .u64 a.w0, .int .u64 a.w1, .int .u64 a.w2, .int .u64 a.w3]]) ∧ at_ e (es.length + 1) = some (.row s3 26 4 [[.int .u64 b.w0, .int .u64 b.w1, .int .u64 b.w2, .int .u64 b.w3]])) mixed (by kernel_rfl) ⟨at_miss _ (at_miss _ (at_hit _ _)), at_miss _ (at_hit _ _)⟩ ?_
  refine q1 2 (hg := rfl) (hu := rfl) (h := by rintro f _ ⟨hG, hG'⟩; exact p_loadp ty_26 ⟨rfl, rfl⟩) (k := ?_)
  refine q1 3 (hg := rfl) (hu := rfl) (h := by rintro f _ ⟨hG, hG'⟩; exact p_loadp ty_26 ⟨rfl, rfl⟩) (k := ?_)
  refine q1 7 (hg := rfl) (hu := rfl) (h := by rintro f _ ⟨hG, hG'⟩; exact p_callr en_120 (refList b hb) ⟨rfl, rfl⟩) (k := ?_)
  refine q_end ?_
  refine m1 5 (hu := rfl) (h := fun f => p_call en_120 ((refListOwn a ha).mono fun v es' hv => ?_))
  obtain ⟨s6, rfl, rfl⟩ := hv
  refine ⟨_, rfl, ⟨at_miss _ (at_miss _ (at_miss _ (at_miss _ (at_hit _ _)))), at_miss _ (at_miss _ (at_miss _ (at_hit _ _)))⟩, ?_⟩
  refine m_end ?_
  refine l_cons rfl (p_append sl_22 by_5 ze_5 (fun s9 => ?_) (hb := by simp only [List.length_map, most]; unfold listW; omega))
  refine l_freeze 9 rfl loc_hit (by rw [List.all_append, cleans_u8, cleans_u8]; rfl) ?_
  refine l_retell 9 (b := bytesAV (listW a ++ listW b)) (fun c m' v h => by simpa [bytesAV] using h) ?_
  refine l_cons rfl (p_callr en_68 (refOf (listW a ++ listW b) (listW_app a b)) ?_)
  refine l_cons rfl (p_store ty_26 ?_)
  refine l_nil ?_
  refine k_seq_normal ?_
  refine w_ret ?_
  rw [ofW_or ha hb]
  exact retc rfl ty_26 (by first | exact Sub.refl _ | exact sub1 _ _ | exact sub2 _ _ _ | exact sub3 _ _ _ _ | exact sub4 _ _ _ _ _ | exact sub5 _ _ _ _ _ _) ⟨rfl, rfl⟩
theorem refCat {w0 : World} {es : List Ent} (l : List Rx) (hn : Rx.nodesL l ≤ 1048576) : ACalls Tryd.prog w0 39 [.list 6 (l.map Rx.cells)] es fun v es' => v = .agg (catR l).cells ∧ es' = es := by
  refine calls1 (N := 47) Tryd.func39 rfl rfl (by decide) ?_
  refine w_seq ?_
  refine w_region ?_
  refine l_cons rfl (p_alloc ze_29 fun s2 => ?_)
  refine l_nil ?_
  refine k_seq_normal ?_
  refine w_seq ?_
  have hfn := flat_nodes 4 l
  have hfl := Rx.len_le (flatR 4 l)
  refine w_region ?_
  refine l_cons rfl (p_assign ?_)
  refine l_nil ?_
  refine k_seq_normal ?_
  refine w_seq ?_
  refine w_adopt 3 29 6 rfl fun s3 => ?_
  simp only [upd_upd]
  refine w_region ?_
  refine l_cons rfl (p_move ?_)
  refine l_cons rfl (p_callr en_83 (refFlat 4 l hn) ?_)
  refine l_cons rfl (p_assign ?_)
  refine l_nil ?_
  refine k_seq_normal ?_
  refine w_seq ?_
  refine w_seq ?_
  refine w_region ?_
  refine l_cons rfl (p_assign ?_)
  refine l_nil ?_
  refine k_seq_normal ?_
  refine w_block ?_
  refine w_loop (fun m f es' => ∃ k s3, m = (flatR 4 l).length - k ∧ k ≤ (flatR 4 l).length ∧ (∀ j (hj : j < k) (h : j < (flatR 4 l).length), ((flatR 4 l)[j]).kind ≠ 1) ∧ es' = .row s3 29 6 ((catOuts ((flatR 4 l).take k)).map Rx.cells) :: .row s2 29 6 [[.int .i64 0, .int .u64 0, .int .u64 0, .int .u64 0, .int .u64 0, .nil]] :: es ∧ Knows f [(2, .ptr es.length s2 0 0), (3, .own (es.length + 1) s3), (4, .list 6 ((flatR 4 l).map Rx.cells)), (5, .int .i64 k)]) ((flatR 4 l).length) (⟨0, s3, rfl, Nat.zero_le _, fun j hj => absurd hj (Nat.not_lt_zero _), rfl, by simp only [Knows, put, upd_apply, Nat.reduceEqDiff, ↓reduceIte, and_true, true_and, eq_self] <;> and_intros <;> rfl⟩) ?_
  rintro m f es' ⟨k, s3, rfl, hk1, hk2, rfl, hk⟩
  refine w_pins _ (Sub.refl _) (hk) ?_
  simp only [pins]
  refine w_seq ?_
  refine w_seq ?_
  refine w_region ?_
  refine l_cons rfl (p_move ?_)
  refine l_cons rfl (p_move ?_)
  refine l_cons rfl (p_lenl sl_27 ?_)
  refine l_cons rfl (p_cmp ?_)
  refine l_nil ?_
  refine k_seq_normal ?_
  refine w_b (fun h1 => ?_) (fun h1 => ?_)
  · skip
    have h1' := h1; (try simp only [decide_eq_true_eq, decide_eq_false_iff_not, Bool.not_eq_true', Bool.not_false, Bool.not_true, Bool.not_eq_false'] at h1')
    refine w_skip ?_
    refine k_seq_normal ?_
    refine w_seq ?_
    refine w_block ?_
    refine w_seq ?_
    refine w_seq ?_
    refine w_region ?_
    refine l_cons rfl (p_move ?_)
    refine l_cons rfl (p_move ?_)
    refine l_cons rfl (p_ixl sl_27 ?_)
    refine l_cons rfl (p_faf fa_29_0 ?_)
    refine l_cons rfl (p_loadf ty_3 ?_)
    refine l_cons rfl (p_cmp ?_)
    refine l_nil ?_
    refine k_seq_normal ?_
    refine w_b (fun h2 => ?_) (fun h2 => ?_)
    · skip
      have h2' := h2; (try simp only [decide_eq_true_eq, decide_eq_false_iff_not, Bool.not_eq_true', Bool.not_false, Bool.not_true, Bool.not_eq_false'] at h2')
      refine w_seq ?_
      refine w_region ?_
      refine l_cons rfl (p_callr en_84 (refNone) ?_)
      refine l_cons rfl (p_store ty_29 ?_)
      refine l_nil ?_
      refine k_seq_normal ?_
      refine w_ret ?_
      refine k_seq_ret ?_
      refine k_blk_ret ?_
      refine k_seq_ret ?_
      refine k_seq_ret ?_
      refine k_blk_ret ?_
      refine k_seq_ret ?_
      rw [← cat_none (l := l) (k := k) (by omega) h2']
      exact retc rfl ty_29 (by first | exact Sub.refl _ | exact sub1 _ _ | exact sub2 _ _ _ | exact sub3 _ _ _ _ | exact sub4 _ _ _ _ _ | exact sub5 _ _ _ _ _ _) ⟨rfl, rfl⟩
    · skip
      have h2' := h2; (try simp only [decide_eq_true_eq, decide_eq_false_iff_not, Bool.not_eq_true', Bool.not_false, Bool.not_true, Bool.not_eq_false'] at h2')
      refine w_skip ?_
      refine k_seq_normal ?_
      refine w_seq ?_
      refine w_region ?_
      refine l_cons rfl (p_move ?_)
      refine l_cons rfl (p_move ?_)
      refine l_cons rfl (p_ixl sl_27 ?_)
      refine l_cons rfl (p_faf fa_29_0 ?_)
      refine l_cons rfl (p_loadf ty_3 ?_)
      refine l_cons rfl (p_cmp ?_)
      refine l_nil ?_
      refine k_seq_normal ?_
      refine w_b (fun h3 => ?_) (fun h3 => ?_)
      · skip
        have h3' := h3; (try simp only [decide_eq_true_eq, decide_eq_false_iff_not, Bool.not_eq_true', Bool.not_false, Bool.not_true, Bool.not_eq_false'] at h3')
        have hcl := catOuts_nodes ((flatR 4 l).take k)
        have hcl2 := Rx.len_le (catOuts ((flatR 4 l).take k))
        have hcl3 := Rx.nodesL_le (flatR 4 l) k
        refine w_region ?_
        refine l_cons rfl (p_move ?_)
        refine l_cons rfl (p_move ?_)
        refine l_cons rfl (p_move ?_)
        refine l_cons rfl (p_ixl sl_27 ?_)
        refine l_cons rfl (p_loadf ty_29 ?_)
        refine l_cons rfl (p_callr en_63 (refCopy _ ((flatR 4 l)[k]'(by omega)) _ (Nat.le_refl _) (by have := Rx.nodes_mem (l := (flatR 4 l)) (k := k) (by omega); omega)) ?_)
        refine l_cons rfl (p_buildList sl_27 ze_29 ?_)
        refine l_cons rfl (p_append sl_27 by_29 ze_29 (fun s34 => ?_) (hb := by simp only [List.length_map, List.length_take, List.length_drop, List.length_append, List.length_cons, List.length_nil, most]; omega))
        refine l_cons rfl (p_assign ?_)
        refine l_nil ?_
        refine k_blk_normal ?_
        refine k_seq_normal ?_
        refine w_region ?_
        refine l_cons rfl (p_move ?_)
        refine l_cons rfl (p_arith ?_)
        refine l_cons rfl (p_assign ?_)
        refine l_nil ?_
        refine k_seq_normal ?_
        have hk2' : ∀ j (hj : j < k + 1) (h : j < (flatR 4 l).length), ((flatR 4 l)[j]).kind ≠ 1 := fun j hj h => by
          rcases Nat.lt_or_eq_of_le (Nat.le_of_lt_succ hj) with h9 | h9
          · exact hk2 j h9 h
          · subst h9; assumption
        first
        | exact ⟨(flatR 4 l).length - (k + 1), by omega, k + 1, s34, rfl, by omega, hk2', by rw [catOuts_succ _ (by omega), if_neg h3', List.map_append] <;> rfl, by simp only [Knows, put, upd_apply, Nat.reduceEqDiff, ↓reduceIte, and_true, true_and, eq_self] <;> and_intros <;> rfl⟩
        | exact ⟨(flatR 4 l).length - (k + 1), by omega, k + 1, s3, rfl, by omega, hk2', by rw [catOuts_succ _ (by omega), if_pos h3', List.append_nil] <;> rfl, by simp only [Knows, put, upd_apply, Nat.reduceEqDiff, ↓reduceIte, and_true, true_and, eq_self] <;> and_intros <;> rfl⟩
      · skip
        have h3' := h3; (try simp only [decide_eq_true_eq, decide_eq_false_iff_not, Bool.not_eq_true', Bool.not_false, Bool.not_true, Bool.not_eq_false'] at h3')
        refine w_skip ?_
        refine k_blk_normal ?_
        refine k_seq_normal ?_
        refine w_region ?_
        refine l_cons rfl (p_move ?_)
        refine l_cons rfl (p_arith ?_)
        refine l_cons rfl (p_assign ?_)
        refine l_nil ?_
        refine k_seq_normal ?_
        have hk2' : ∀ j (hj : j < k + 1) (h : j < (flatR 4 l).length), ((flatR 4 l)[j]).kind ≠ 1 := fun j hj h => by
          rcases Nat.lt_or_eq_of_le (Nat.le_of_lt_succ hj) with h9 | h9
          · exact hk2 j h9 h
          · subst h9; assumption
        first
        | exact ⟨(flatR 4 l).length - (k + 1), by omega, k + 1, s34, rfl, by omega, hk2', by rw [catOuts_succ _ (by omega), if_neg h3', List.map_append] <;> rfl, by simp only [Knows, put, upd_apply, Nat.reduceEqDiff, ↓reduceIte, and_true, true_and, eq_self] <;> and_intros <;> rfl⟩
        | exact ⟨(flatR 4 l).length - (k + 1), by omega, k + 1, s3, rfl, by omega, hk2', by rw [catOuts_succ _ (by omega), if_pos h3', List.append_nil] <;> rfl, by simp only [Knows, put, upd_apply, Nat.reduceEqDiff, ↓reduceIte, and_true, true_and, eq_self] <;> and_intros <;> rfl⟩
  · skip
    have h1' := h1; (try simp only [decide_eq_true_eq, decide_eq_false_iff_not, Bool.not_eq_true', Bool.not_false, Bool.not_true, Bool.not_eq_false'] at h1')
    refine w_exit ?_
    refine k_seq_exit ?_
    refine k_seq_exit ?_
    refine k_blk_here ?_
    refine k_seq_normal ?_
    refine w_seq ?_
    refine w_seq ?_
    refine w_freezeTop 3 ?_ (hclean := cleans_rx _)
    obtain rfl : k = (flatR 4 l).length := by omega
    rw [List.take_length]
    have hcs := cat_some (l := l) (fun j hj => hk2 j hj hj)
    refine w_region ?_
    refine l_cons rfl (p_move ?_)
    refine l_cons rfl (p_lenl sl_27 ?_)
    refine l_cons rfl (p_cmp ?_)
    refine l_nil ?_
    refine k_seq_normal ?_
    refine w_b (fun h4 => ?_) (fun h4 => ?_)
    · skip
      have h4' := h4; (try simp only [decide_eq_true_eq, decide_eq_false_iff_not, Bool.not_eq_true', Bool.not_false, Bool.not_true, Bool.not_eq_false'] at h4')
      refine w_seq ?_
      refine w_region ?_
      refine l_cons rfl (p_callr en_85 (refEmpty) ?_)
      refine l_cons rfl (p_store ty_29 ?_)
      refine l_nil ?_
      refine k_seq_normal ?_
      refine w_ret ?_
      refine k_seq_ret ?_
      rw [← catOf_nil (l := catOuts (flatR 4 l)) (by omega), ← hcs]
      exact retc rfl ty_29 (by first | exact Sub.refl _ | exact sub1 _ _ | exact sub2 _ _ _ | exact sub3 _ _ _ _ | exact sub4 _ _ _ _ _ | exact sub5 _ _ _ _ _ _) ⟨rfl, rfl⟩
    · skip
      have h4' := h4; (try simp only [decide_eq_true_eq, decide_eq_false_iff_not, Bool.not_eq_true', Bool.not_false, Bool.not_true, Bool.not_eq_false'] at h4')
      refine w_skip ?_
      refine k_seq_normal ?_
      refine w_seq ?_
      refine w_seq ?_
      refine w_region ?_
      refine l_cons rfl (p_move ?_)
      refine l_cons rfl (p_lenl sl_27 ?_)
      refine l_cons rfl (p_cmp ?_)
      refine l_nil ?_
      refine k_seq_normal ?_
      refine w_b (fun h5 => ?_) (fun h5 => ?_)
      · skip
        have h5' := h5; (try simp only [decide_eq_true_eq, decide_eq_false_iff_not, Bool.not_eq_true', Bool.not_false, Bool.not_true, Bool.not_eq_false'] at h5')
        refine w_seq ?_
        refine w_region ?_
        refine l_cons rfl (p_move ?_)
        refine l_cons rfl (p_ixl sl_27 ?_)
        refine l_cons rfl (p_loadf ty_29 ?_)
        refine l_cons rfl (p_store ty_29 ?_)
        refine l_nil ?_
        refine k_seq_normal ?_
        refine w_ret ?_
        refine k_seq_ret ?_
        rw [hcs, catOf_one (by omega)]
        exact retc rfl ty_29 (by first | exact Sub.refl _ | exact sub1 _ _ | exact sub2 _ _ _ | exact sub3 _ _ _ _ | exact sub4 _ _ _ _ _ | exact sub5 _ _ _ _ _ _) ⟨rfl, rfl⟩
      · skip
        have h5' := h5; (try simp only [decide_eq_true_eq, decide_eq_false_iff_not, Bool.not_eq_true', Bool.not_false, Bool.not_true, Bool.not_eq_false'] at h5')
        refine w_skip ?_
        refine k_seq_normal ?_
        refine w_seq ?_
        refine w_region ?_
        refine l_cons rfl (p_move ?_)
        refine l_cons rfl (p_build ze_29 pl_29 ?_)
        refine l_cons rfl (p_store ty_29 ?_)
        refine l_nil ?_
        refine k_seq_normal ?_
        refine w_ret ?_
        rw [hcs, catOf_two (by omega), Rx.cells_eq]
        exact retc rfl ty_29 (by first | exact Sub.refl _ | exact sub1 _ _ | exact sub2 _ _ _ | exact sub3 _ _ _ _ | exact sub4 _ _ _ _ _ | exact sub5 _ _ _ _ _ _) ⟨rfl, rfl⟩
theorem refAlt {w0 : World} {es : List Ent} (l : List Rx) (ho : ∀ r ∈ l, r.ok) (hn : Rx.nodesL l ≤ 1048000) : ACalls Tryd.prog w0 40 [.list 6 (l.map Rx.cells)] es fun v es' => v = .agg (altR l).cells ∧ es' = es := by
  refine calls1 (N := 57) Tryd.func40 rfl rfl (by decide) ?_
  refine w_seq ?_
  refine w_region ?_
  refine l_cons rfl (p_alloc ze_29 fun s2 => ?_)
  refine l_nil ?_
  refine k_seq_normal ?_
  refine w_seq ?_
  have hfn := flat_nodes 5 l
  have hfl := Rx.len_le (flatR 5 l)
  have hfo := flat_ok (k := 5) ho
  refine w_region ?_
  refine l_cons rfl (p_assign ?_)
  refine l_nil ?_
  refine k_seq_normal ?_
  refine w_seq ?_
  refine w_nilList 3 6 ?_
  simp only [upd_upd]
  refine w_region ?_
  refine l_cons rfl (p_alloc ze_26 fun s4 => ?_)
  refine l_nil ?_
  refine k_seq_normal ?_
  refine w_seq ?_
  refine w_region ?_
  refine l_cons rfl (p_move ?_)
  refine l_cons rfl (p_callr en_83 (refFlat 5 l (by omega)) ?_)
  refine l_cons rfl (p_assign ?_)
  refine l_nil ?_
  refine k_seq_normal ?_
  refine w_seq ?_
  refine w_seq ?_
  refine w_region ?_
  refine l_cons rfl (p_assign ?_)
  refine l_nil ?_
  refine k_seq_normal ?_
  refine w_block ?_
  refine w_loop (fun m f es' => ∃ k, m = (flatR 5 l).length - k ∧ k ≤ (flatR 5 l).length ∧ es' = .row s4 26 4 [[.int .u64 (altSet noSet ((flatR 5 l).take k)).w0, .int .u64 (altSet noSet ((flatR 5 l).take k)).w1, .int .u64 (altSet noSet ((flatR 5 l).take k)).w2, .int .u64 (altSet noSet ((flatR 5 l).take k)).w3]] :: .row s2 29 6 [[.int .i64 0, .int .u64 0, .int .u64 0, .int .u64 0, .int .u64 0, .nil]] :: es ∧ Knows f [(2, .ptr es.length s2 0 0), (3, .list 6 ((altOuts [] ((flatR 5 l).take k)).map Rx.cells)), (4, .ptr (es.length + 1) s4 0 0), (5, .list 6 ((flatR 5 l).map Rx.cells)), (6, .int .i64 k)]) ((flatR 5 l).length) (⟨0, rfl, Nat.zero_le _, rfl, by simp only [Knows, put, upd_apply, Nat.reduceEqDiff, ↓reduceIte, and_true, true_and, eq_self] <;> and_intros <;> rfl⟩) ?_
  rintro m f es' ⟨k, rfl, hk1, rfl, hk⟩
  obtain ⟨hi1, hi2, hi3⟩ := altOuts_inv (flatR 5 l) hfo k hk1
  have hi4 := Rx.nodesL_le (flatR 5 l) k
  have hi5 := Rx.len_le (altOuts [] ((flatR 5 l).take k))
  refine w_pins _ (Sub.refl _) (hk) ?_
  simp only [pins]
  refine w_seq ?_
  refine w_seq ?_
  refine w_region ?_
  refine l_cons rfl (p_move ?_)
  refine l_cons rfl (p_move ?_)
  refine l_cons rfl (p_lenl sl_27 ?_)
  refine l_cons rfl (p_cmp ?_)
  refine l_nil ?_
  refine k_seq_normal ?_
  refine w_b (fun h1 => ?_) (fun h1 => ?_)
  · skip
    have h1' := h1; (try simp only [decide_eq_true_eq, decide_eq_false_iff_not, Bool.not_eq_true', Bool.not_false, Bool.not_true, Bool.not_eq_false'] at h1')
    refine w_skip ?_
    refine k_seq_normal ?_
    refine w_seq ?_
    refine w_block ?_
    refine w_seq ?_
    refine w_region ?_
    refine l_cons rfl (p_move ?_)
    refine l_cons rfl (p_move ?_)
    refine l_cons rfl (p_ixl sl_27 ?_)
    refine l_cons rfl (p_faf fa_29_0 ?_)
    refine l_cons rfl (p_loadf ty_3 ?_)
    refine l_nil ?_
    refine k_seq_normal ?_
    refine w_block ?_
    refine w_seq ?_
    refine w_region ?_
    refine l_cons rfl (p_cmp ?_)
    refine l_cons rfl (p_assign ?_)
    refine l_nil ?_
    refine k_seq_normal ?_
    refine w_b (fun h2 => ?_) (fun h2 => ?_)
    · skip
      have h2' := h2; (try simp only [decide_eq_true_eq, decide_eq_false_iff_not, Bool.not_eq_true', Bool.not_false, Bool.not_true, Bool.not_eq_false'] at h2')
      refine w_skip ?_
      refine k_blk_normal ?_
      refine k_blk_normal ?_
      refine k_seq_normal ?_
      refine w_region ?_
      refine l_cons rfl (p_move ?_)
      refine l_cons rfl (p_arith ?_)
      refine l_cons rfl (p_assign ?_)
      refine l_nil ?_
      refine k_seq_normal ?_
      refine ⟨(flatR 5 l).length - (k + 1), by omega, k + 1, rfl, by omega, ?_, ?_⟩
      · rw [altSet_succ _ (by omega)]
        first | rw [if_neg (by omega)] | (rw [if_pos (by omega)] <;> rfl)
      · rw [altOuts_succ _ (by omega)]
        first
        | (rw [if_pos (by omega)]; exact by simp only [Knows, put, upd_apply, Nat.reduceEqDiff, ↓reduceIte, and_true, true_and, eq_self] <;> and_intros <;> rfl)
        | (rw [if_neg (by omega)]; exact by simp only [Knows, put, upd_apply, Nat.reduceEqDiff, ↓reduceIte, and_true, true_and, eq_self] <;> and_intros <;> rfl)
    · skip
      have h2' := h2; (try simp only [decide_eq_true_eq, decide_eq_false_iff_not, Bool.not_eq_true', Bool.not_false, Bool.not_true, Bool.not_eq_false'] at h2')
      refine w_seq ?_
      refine w_region ?_
      refine l_cons rfl (p_cmp ?_)
      refine l_cons rfl (p_assign ?_)
      refine l_nil ?_
      refine k_seq_normal ?_
      refine w_b (fun h3 => ?_) (fun h3 => ?_)
      · skip
        have h3' := h3; (try simp only [decide_eq_true_eq, decide_eq_false_iff_not, Bool.not_eq_true', Bool.not_false, Bool.not_true, Bool.not_eq_false'] at h3')
        refine w_drawn 6 [] (fun e => e = _) mixed (by kernel_rfl) rfl ?_
        refine q1 4 (hg := rfl) (hu := rfl) (h := by rintro f _ rfl; exact p_loadp ty_26 ⟨rfl, rfl⟩) (k := ?_)
        refine q1 5 (hg := rfl) (hu := rfl) (h := by rintro f _ rfl; exact p_move ⟨rfl, rfl⟩) (k := ?_)
        refine q1 6 (hg := rfl) (hu := rfl) (h := by rintro f _ rfl; exact p_move ⟨rfl, rfl⟩) (k := ?_)
        refine q2 32 33 (hg := rfl) (hu := rfl) (h := by rintro f _ rfl; exact p_ixl sl_27 ⟨rfl, rfl⟩) (k := ?_)
        refine q1 34 (hg := rfl) (hu := rfl) (h := by rintro f _ rfl; exact p_faf fa_29_1 ⟨rfl, rfl⟩) (k := ?_)
        refine q1 35 (hg := rfl) (hu := rfl) (h := by rintro f _ rfl; exact p_loadf ty_26 (a := .agg ((flatR 5 l)[k]'(by omega)).set.row) ⟨rfl, rfl⟩ (ha := set_load _)) (k := ?_)
        refine q_end ?_
        refine m_end ?_
        refine l_cons rfl (p_callr en_86 (refOr (altSet noSet ((flatR 5 l).take k)) ((flatR 5 l)[k]'(by omega)).set hi3 (hfo _ (List.getElem_mem _)).set) ?_)
        refine l_cons rfl (p_store ty_26 ?_)
        refine l_nil ?_
        refine k_blk_normal ?_
        refine k_blk_normal ?_
        refine k_seq_normal ?_
        refine w_region ?_
        refine l_cons rfl (p_move ?_)
        refine l_cons rfl (p_arith ?_)
        refine l_cons rfl (p_assign ?_)
        refine l_nil ?_
        refine k_seq_normal ?_
        refine ⟨(flatR 5 l).length - (k + 1), by omega, k + 1, rfl, by omega, ?_, ?_⟩
        · rw [altSet_succ _ (by omega)]
          first | rw [if_neg (by omega)] | (rw [if_pos (by omega)] <;> rfl)
        · rw [altOuts_succ _ (by omega)]
          first
          | (rw [if_pos (by omega)]; exact by simp only [Knows, put, upd_apply, Nat.reduceEqDiff, ↓reduceIte, and_true, true_and, eq_self] <;> and_intros <;> rfl)
          | (rw [if_neg (by omega)]; exact by simp only [Knows, put, upd_apply, Nat.reduceEqDiff, ↓reduceIte, and_true, true_and, eq_self] <;> and_intros <;> rfl)
      · skip
        have h3' := h3; (try simp only [decide_eq_true_eq, decide_eq_false_iff_not, Bool.not_eq_true', Bool.not_false, Bool.not_true, Bool.not_eq_false'] at h3')
        refine w_region ?_
        refine l_cons rfl (p_move ?_)
        refine l_cons rfl (p_move ?_)
        refine l_cons rfl (p_move ?_)
        refine l_cons rfl (p_ixl sl_27 ?_)
        refine l_cons rfl (p_loadf ty_29 ?_)
        refine l_cons rfl (p_callr en_63 (refCopy _ ((flatR 5 l)[k]'(by omega)) _ (Nat.le_refl _) (by have := Rx.nodes_mem (l := (flatR 5 l)) (k := k) (by omega); omega)) ?_)
        refine l_cons rfl (p_callr en_87 (refInsert (altOuts [] ((flatR 5 l).take k)) ((flatR 5 l)[k]'(by omega)) hi1 (hfo _ (List.getElem_mem _)) (by omega)) ?_)
        refine l_cons rfl (p_assign ?_)
        refine l_nil ?_
        refine k_blk_normal ?_
        refine k_blk_normal ?_
        refine k_seq_normal ?_
        refine w_region ?_
        refine l_cons rfl (p_move ?_)
        refine l_cons rfl (p_arith ?_)
        refine l_cons rfl (p_assign ?_)
        refine l_nil ?_
        refine k_seq_normal ?_
        refine ⟨(flatR 5 l).length - (k + 1), by omega, k + 1, rfl, by omega, ?_, ?_⟩
        · rw [altSet_succ _ (by omega)]
          first | rw [if_neg (by omega)] | (rw [if_pos (by omega)] <;> rfl)
        · rw [altOuts_succ _ (by omega)]
          first
          | (rw [if_pos (by omega)]; exact by simp only [Knows, put, upd_apply, Nat.reduceEqDiff, ↓reduceIte, and_true, true_and, eq_self] <;> and_intros <;> rfl)
          | (rw [if_neg (by omega)]; exact by simp only [Knows, put, upd_apply, Nat.reduceEqDiff, ↓reduceIte, and_true, true_and, eq_self] <;> and_intros <;> rfl)
  · skip
    have h1' := h1; (try simp only [decide_eq_true_eq, decide_eq_false_iff_not, Bool.not_eq_true', Bool.not_false, Bool.not_true, Bool.not_eq_false'] at h1')
    refine w_exit ?_
    refine k_seq_exit ?_
    refine k_seq_exit ?_
    refine k_blk_here ?_
    refine k_seq_normal ?_
    refine w_seq ?_
    refine w_seq ?_
    obtain rfl : k = (flatR 5 l).length := by omega
    refine w_region ?_
    refine l_cons rfl (p_loadp ty_26 ?_)
    refine l_cons rfl (p_buildArr ze_26 ar_26 ?_)
    refine l_cons rfl (p_nea ai_26 ?_ (hb := neA (altSet noSet ((flatR 5 l).take (flatR 5 l).length)) noSet))
    refine l_nil ?_
    refine k_seq_normal ?_
    refine w_b (fun h4 => ?_) (fun h4 => ?_)
    · skip
      have h4' := h4; (try simp only [decide_eq_true_eq, decide_eq_false_iff_not, Bool.not_eq_true', Bool.not_false, Bool.not_true, Bool.not_eq_false'] at h4')
      have hfin := alt_res_yes (l := l) h4'
      refine w_region ?_
      refine l_cons rfl (p_move ?_)
      refine l_cons rfl (p_loadp ty_26 ?_)
      refine l_cons rfl (p_callr en_67 (refBytes (altSet noSet ((flatR 5 l).take (flatR 5 l).length))) ?_)
      refine l_cons rfl (p_callr en_87 (refInsert (altOuts [] ((flatR 5 l).take (flatR 5 l).length)) (bytesR (altSet noSet ((flatR 5 l).take (flatR 5 l).length))) hi1 (bytesR_ok hi3) (by omega)) ?_)
      refine l_cons rfl (p_assign ?_)
      refine l_nil ?_
      refine k_seq_normal ?_
      refine w_seq ?_
      refine w_seq ?_
      refine w_region ?_
      refine l_cons rfl (p_move ?_)
      refine l_cons rfl (p_lenl sl_27 ?_)
      refine l_cons rfl (p_cmp ?_)
      refine l_nil ?_
      refine k_seq_normal ?_
      refine w_b (fun h5 => ?_) (fun h5 => ?_)
      · skip
        have h5' := h5; (try simp only [decide_eq_true_eq, decide_eq_false_iff_not, Bool.not_eq_true', Bool.not_false, Bool.not_true, Bool.not_eq_false'] at h5')
        refine w_seq ?_
        refine w_region ?_
        refine l_cons rfl (p_callr en_84 (refNone) ?_)
        refine l_cons rfl (p_store ty_29 ?_)
        refine l_nil ?_
        refine k_seq_normal ?_
        refine w_ret ?_
        refine k_seq_ret ?_
        rw [hfin, altOf_nil (by omega)]
        exact retc rfl ty_29 (by first | exact Sub.refl _ | exact sub1 _ _ | exact sub2 _ _ _ | exact sub3 _ _ _ _ | exact sub4 _ _ _ _ _ | exact sub5 _ _ _ _ _ _) ⟨rfl, rfl⟩
      · skip
        have h5' := h5; (try simp only [decide_eq_true_eq, decide_eq_false_iff_not, Bool.not_eq_true', Bool.not_false, Bool.not_true, Bool.not_eq_false'] at h5')
        refine w_skip ?_
        refine k_seq_normal ?_
        refine w_seq ?_
        refine w_seq ?_
        refine w_region ?_
        refine l_cons rfl (p_move ?_)
        refine l_cons rfl (p_lenl sl_27 ?_)
        refine l_cons rfl (p_cmp ?_)
        refine l_nil ?_
        refine k_seq_normal ?_
        refine w_b (fun h6 => ?_) (fun h6 => ?_)
        · skip
          have h6' := h6; (try simp only [decide_eq_true_eq, decide_eq_false_iff_not, Bool.not_eq_true', Bool.not_false, Bool.not_true, Bool.not_eq_false'] at h6')
          refine w_seq ?_
          refine w_region ?_
          refine l_cons rfl (p_move ?_)
          refine l_cons rfl (p_ixl sl_27 ?_)
          refine l_cons rfl (p_loadf ty_29 ?_)
          refine l_cons rfl (p_store ty_29 ?_)
          refine l_nil ?_
          refine k_seq_normal ?_
          refine w_ret ?_
          refine k_seq_ret ?_
          rw [hfin, altOf_one (by omega)]
          exact retc rfl ty_29 (by first | exact Sub.refl _ | exact sub1 _ _ | exact sub2 _ _ _ | exact sub3 _ _ _ _ | exact sub4 _ _ _ _ _ | exact sub5 _ _ _ _ _ _) ⟨rfl, rfl⟩
        · skip
          have h6' := h6; (try simp only [decide_eq_true_eq, decide_eq_false_iff_not, Bool.not_eq_true', Bool.not_false, Bool.not_true, Bool.not_eq_false'] at h6')
          refine w_skip ?_
          refine k_seq_normal ?_
          refine w_seq ?_
          refine w_region ?_
          refine l_cons rfl (p_move ?_)
          refine l_cons rfl (p_build ze_29 pl_29 ?_)
          refine l_cons rfl (p_store ty_29 ?_)
          refine l_nil ?_
          refine k_seq_normal ?_
          refine w_ret ?_
          rw [hfin, altOf_two (by omega), Rx.cells_eq]
          exact retc rfl ty_29 (by first | exact Sub.refl _ | exact sub1 _ _ | exact sub2 _ _ _ | exact sub3 _ _ _ _ | exact sub4 _ _ _ _ _ | exact sub5 _ _ _ _ _ _) ⟨rfl, rfl⟩
    · skip
      have h4' := h4; (try simp only [decide_eq_true_eq, decide_eq_false_iff_not, Bool.not_eq_true', Bool.not_false, Bool.not_true, Bool.not_eq_false'] at h4')
      have hfin := alt_res_no (l := l) h4'
      refine w_skip ?_
      refine k_seq_normal ?_
      refine w_seq ?_
      refine w_seq ?_
      refine w_region ?_
      refine l_cons rfl (p_move ?_)
      refine l_cons rfl (p_lenl sl_27 ?_)
      refine l_cons rfl (p_cmp ?_)
      refine l_nil ?_
      refine k_seq_normal ?_
      refine w_b (fun h7 => ?_) (fun h7 => ?_)
      · skip
        have h7' := h7; (try simp only [decide_eq_true_eq, decide_eq_false_iff_not, Bool.not_eq_true', Bool.not_false, Bool.not_true, Bool.not_eq_false'] at h7')
        refine w_seq ?_
        refine w_region ?_
        refine l_cons rfl (p_callr en_84 (refNone) ?_)
        refine l_cons rfl (p_store ty_29 ?_)
        refine l_nil ?_
        refine k_seq_normal ?_
        refine w_ret ?_
        refine k_seq_ret ?_
        rw [hfin, altOf_nil (by omega)]
        exact retc rfl ty_29 (by first | exact Sub.refl _ | exact sub1 _ _ | exact sub2 _ _ _ | exact sub3 _ _ _ _ | exact sub4 _ _ _ _ _ | exact sub5 _ _ _ _ _ _) ⟨rfl, rfl⟩
      · skip
        have h7' := h7; (try simp only [decide_eq_true_eq, decide_eq_false_iff_not, Bool.not_eq_true', Bool.not_false, Bool.not_true, Bool.not_eq_false'] at h7')
        refine w_skip ?_
        refine k_seq_normal ?_
        refine w_seq ?_
        refine w_seq ?_
        refine w_region ?_
        refine l_cons rfl (p_move ?_)
        refine l_cons rfl (p_lenl sl_27 ?_)
        refine l_cons rfl (p_cmp ?_)
        refine l_nil ?_
        refine k_seq_normal ?_
        refine w_b (fun h8 => ?_) (fun h8 => ?_)
        · skip
          have h8' := h8; (try simp only [decide_eq_true_eq, decide_eq_false_iff_not, Bool.not_eq_true', Bool.not_false, Bool.not_true, Bool.not_eq_false'] at h8')
          refine w_seq ?_
          refine w_region ?_
          refine l_cons rfl (p_move ?_)
          refine l_cons rfl (p_ixl sl_27 ?_)
          refine l_cons rfl (p_loadf ty_29 ?_)
          refine l_cons rfl (p_store ty_29 ?_)
          refine l_nil ?_
          refine k_seq_normal ?_
          refine w_ret ?_
          refine k_seq_ret ?_
          rw [hfin, altOf_one (by omega)]
          exact retc rfl ty_29 (by first | exact Sub.refl _ | exact sub1 _ _ | exact sub2 _ _ _ | exact sub3 _ _ _ _ | exact sub4 _ _ _ _ _ | exact sub5 _ _ _ _ _ _) ⟨rfl, rfl⟩
        · skip
          have h8' := h8; (try simp only [decide_eq_true_eq, decide_eq_false_iff_not, Bool.not_eq_true', Bool.not_false, Bool.not_true, Bool.not_eq_false'] at h8')
          refine w_skip ?_
          refine k_seq_normal ?_
          refine w_seq ?_
          refine w_region ?_
          refine l_cons rfl (p_move ?_)
          refine l_cons rfl (p_build ze_29 pl_29 ?_)
          refine l_cons rfl (p_store ty_29 ?_)
          refine l_nil ?_
          refine k_seq_normal ?_
          refine w_ret ?_
          rw [hfin, altOf_two (by omega), Rx.cells_eq]
          exact retc rfl ty_29 (by first | exact Sub.refl _ | exact sub1 _ _ | exact sub2 _ _ _ | exact sub3 _ _ _ _ | exact sub4 _ _ _ _ _ | exact sub5 _ _ _ _ _ _) ⟨rfl, rfl⟩
end Go.Proofs.YtfdgbghlanbddaaDoor.Av
set_option linter.unusedVariables false
set_option linter.unusedSimpArgs false
set_option maxRecDepth 8000
namespace Go.Proofs.YtfdgbghlanbddaaDoor.Av
open Go.RowKit Go.Proofs
theorem cells1 {P : Program} {w0 : World} {fid : FuncId} {r : Rx} {es : List Ent} {R : AV → List Ent → Prop} (h : ACalls P w0 fid [.agg r.cells] es R) : ACalls P w0 fid [.agg [.int .i64 r.kind, .int .u64 r.set.w0, .int .u64 r.set.w1, .int .u64 r.set.w2, .int .u64 r.set.w3, .list 6 (r.args.map Rx.cells)]] es R := by
  rw [← Rx.cells_eq r]; exact h
end Go.Proofs.YtfdgbghlanbddaaDoor.Av
set_option linter.unusedVariables false
set_option linter.unusedSimpArgs false
namespace Go.Proofs.YtfdgbghlanbddaaDoor.Av
/-! ### the machine of an expression -/
def stF (l : List Int) : St := ⟨0, 0, 0, 0, -1, l⟩
def st0 : St := stF []
def addFree (s : St) (j : Nat) : St := ⟨s.w0, s.w1, s.w2, s.w3, s.to, s.free ++ [(j : Int)]⟩
def bFree (ns : List St) (i j : Nat) : List St := match ns[i]? with
  | some s => ns.set i (addFree s j)
  | none => ns
theorem bFree_len (ns : List St) (i j : Nat) : (bFree ns i j).length = ns.length := by
  unfold bFree
  split
  · rw [List.length_set]
  · rfl
theorem bFree_eq {ns : List St} {i : Nat} (h : i < ns.length) (j : Nat) : bFree ns i j = ns.set i (addFree ns[i] j) := by
  unfold bFree
  rw [List.getElem?_eq_getElem h]
mutual
def bPart : Rx → List St → List St × Nat × Nat
  | .mk k s l, ns =>
    if k = 3 then (ns ++ [st0, ⟨s.w0, s.w1, s.w2, s.w3, (ns.length : Int), []⟩], ns.length + 1, ns.length)
    else if k = 4 then bCat l ns
    else if k = 5 then bAltGo l (ns ++ [st0]) none ns.length
    else if k = 6 then bStar l ns
    else if k = 2 then (bFree (ns ++ [st0, st0]) ns.length (ns.length + 1), ns.length, ns.length + 1)
    else (ns ++ [st0, st0], ns.length, ns.length + 1)
def bStar : List Rx → List St → List St × Nat × Nat
  | [], ns => (ns, 0, 0)
  | a :: _, ns => (bFree (bFree (bFree (bPart a (ns ++ [st0, st0])).1 ns.length (bPart a (ns ++ [st0, st0])).2.1) (bPart a (ns ++ [st0, st0])).2.2 ns.length) ns.length (ns.length + 1), ns.length, ns.length + 1)
def bCat : List Rx → List St → List St × Nat × Nat
  | [], ns => (ns, 0, 0)
  | a :: t, ns => bCatGo t (bPart a ns).1 (bPart a ns).2.1 (bPart a ns).2.2
def bCatGo : List Rx → List St → Nat → Nat → List St × Nat × Nat
  | [], ns, f, t => (ns, f, t)
  | a :: r, ns, f, t => bCatGo r (bFree (bPart a ns).1 t (bPart a ns).2.1) f (bPart a ns).2.2
def bAltGo : List Rx → List St → Option (Nat × Nat) → Nat → List St × Nat × Nat
  | [], ns, fl, t => (ns, (fl.getD (0, 0)).1, t)
  | a :: r, ns, none, t => bAltGo r (bFree (bPart a ns).1 (bPart a ns).2.2 t ++ [stF [((bPart a ns).2.1 : Int)]]) (some ((bPart a ns).1.length, (bPart a ns).1.length)) t
  | a :: r, ns, some (f, l), t => bAltGo r (bFree (bFree (bPart a ns).1 (bPart a ns).2.2 t ++ [stF [((bPart a ns).2.1 : Int)]]) l (bPart a ns).1.length) (some (f, (bPart a ns).1.length)) t
end
/-- How great a machine is: its states, and their ways. -/
def wt (ns : List St) : Nat := ns.length + (ns.map fun s => s.free.length).sum
theorem wt_append (a b : List St) : wt (a ++ b) = wt a + wt b := by
  unfold wt
  rw [List.length_append, List.map_append, List.sum_append]
  omega
theorem wt_free (ns : List St) (i j : Nat) : wt (bFree ns i j) ≤ wt ns + 1 := by
  by_cases h : i < ns.length
  · rw [bFree_eq h]
    unfold wt
    rw [List.length_set]
    have : ∀ (l : List St) (i : Nat) (h : i < l.length) (s : St), ((l.set i s).map fun s => s.free.length).sum + l[i].free.length = (l.map fun s => s.free.length).sum + s.free.length := by
      intro l
      induction l with
      | nil => intro i h; simp at h
      | cons a t ih =>
        intro i h s
        cases i with
        | zero => simp; omega
        | succ i =>
          have := ih i (by simpa using h) s
          simp only [List.set_cons_succ, List.map_cons, List.sum_cons, List.getElem_cons_succ]
          omega
    have h2 := this ns i h (addFree ns[i] j)
    simp only [addFree, List.length_append, List.length_cons, List.length_nil] at h2
    simp only [addFree]
    omega
  · unfold bFree
    rw [List.getElem?_eq_none (by omega)]
    simp only
    omega
theorem wt_st0 : wt [st0] = 1 := rfl
theorem wt_st00 : wt [st0, st0] = 2 := rfl
/-- Whatever must have a part has one. -/
def okArgs (k : Int) (l : List Rx) : Prop := (k = 4 → l ≠ []) ∧ (k = 5 → l ≠ []) ∧ (k = 6 → l ≠ [])
mutual
def Rx.fit : Rx → Prop
  | .mk k _ l => okArgs k l ∧ Rx.fitL l
def Rx.fitL : List Rx → Prop
  | [] => True
  | r :: t => r.fit ∧ Rx.fitL t
end
/-- What is so of each step of the building. -/
structure Built (ns : List St) (B : Nat) (p : List St × Nat × Nat) : Prop where
  len : ns.length ≤ p.1.length
  f : p.2.1 < p.1.length
  t : p.2.2 < p.1.length
  wt : wt p.1 ≤ wt ns + B
mutual
theorem built_part : ∀ (r : Rx) (ns : List St), r.fit → Built ns (8 * r.nodes - 4) (bPart r ns)
  | .mk k s l, ns, h => by
    simp only [Rx.fit] at h
    simp only [bPart, Rx.nodes]
    split
    · refine ⟨by simp, by simp, by simp, ?_⟩
      rw [wt_append]
      have : wt [st0, ⟨s.w0, s.w1, s.w2, s.w3, (ns.length : Int), []⟩] = 2 := rfl
      omega
    · split
      · rename_i hk
        have := built_cat l ns h.2 (h.1.1 hk)
        exact ⟨this.len, this.f, this.t, by have := this.wt; omega⟩
      · split
        · rename_i hk
          have := built_alt l (ns ++ [st0]) none ns.length h.2 (by simp) (.inl (h.1.2.1 hk)) (fun f l e => by cases e)
          have h2 := this.len
          rw [List.length_append] at h2
          refine ⟨by simp at h2; omega, this.f, this.t, ?_⟩
          have h3 := this.wt
          rw [wt_append, wt_st0] at h3
          omega
        · split
          · rename_i hk
            have := built_star l ns h.2 (h.1.2.2 hk)
            exact ⟨this.len, this.f, this.t, by have := this.wt; omega⟩
          · split
            · refine ⟨by simp [bFree_len], by simp [bFree_len], by simp [bFree_len], ?_⟩
              have := wt_free (ns ++ [st0, st0]) ns.length (ns.length + 1)
              rw [wt_append, wt_st00] at this
              simp only
              omega
            · refine ⟨by simp, by simp, by simp, ?_⟩
              rw [wt_append, wt_st00]
              omega
theorem built_star : ∀ (l : List Rx) (ns : List St), Rx.fitL l → l ≠ [] → Built ns (8 * Rx.nodesL l + 4) (bStar l ns)
  | [], ns, _, h => absurd rfl h
  | a :: t, ns, h, _ => by
    simp only [Rx.fitL] at h
    have p := built_part a (ns ++ [st0, st0]) h.1
    have hnp := a.nodes_pos
    have h1 := p.len
    have h2 := p.wt
    rw [wt_append, wt_st00] at h2
    simp only [List.length_append, List.length_cons, List.length_nil] at h1
    simp only [bStar, Rx.nodesL]
    refine ⟨by simp only [bFree_len]; omega, by simp only [bFree_len]; omega, by simp only [bFree_len]; omega, ?_⟩
    simp only
    have w1 := wt_free (bPart a (ns ++ [st0, st0])).1 ns.length (bPart a (ns ++ [st0, st0])).2.1
    have w2 := wt_free (bFree (bPart a (ns ++ [st0, st0])).1 ns.length (bPart a (ns ++ [st0, st0])).2.1) (bPart a (ns ++ [st0, st0])).2.2 ns.length
    have w3 := wt_free (bFree (bFree (bPart a (ns ++ [st0, st0])).1 ns.length (bPart a (ns ++ [st0, st0])).2.1) (bPart a (ns ++ [st0, st0])).2.2 ns.length) ns.length (ns.length + 1)
    omega
theorem built_cat : ∀ (l : List Rx) (ns : List St), Rx.fitL l → l ≠ [] → Built ns (8 * Rx.nodesL l) (bCat l ns)
  | [], ns, _, h => absurd rfl h
  | a :: t, ns, h, _ => by
    simp only [Rx.fitL] at h
    have p := built_part a ns h.1
    have hnp := a.nodes_pos
    have q := built_catGo t (bPart a ns).1 (bPart a ns).2.1 (bPart a ns).2.2 h.2 p.f p.t
    simp only [bCat, Rx.nodesL, List.length_cons]
    exact ⟨Nat.le_trans p.len q.len, q.f, q.t, by have := p.wt; have := q.wt; omega⟩
theorem built_catGo : ∀ (l : List Rx) (ns : List St) (f t : Nat), Rx.fitL l → f < ns.length → t < ns.length → Built ns (8 * Rx.nodesL l) (bCatGo l ns f t)
  | [], ns, f, t, _, hf, ht => by simp only [bCatGo]; exact ⟨Nat.le_refl _, hf, ht, Nat.le_add_right _ _⟩
  | a :: r, ns, f, t, h, hf, ht => by
    simp only [Rx.fitL] at h
    have p := built_part a ns h.1
    have hnp := a.nodes_pos
    have h1 := p.len
    have h2 := p.f
    have h3 := p.t
    have q := built_catGo r (bFree (bPart a ns).1 t (bPart a ns).2.1) f (bPart a ns).2.2 h.2 (by rw [bFree_len]; omega) (by rw [bFree_len]; omega)
    simp only [bCatGo, Rx.nodesL, List.length_cons]
    have h4 := q.len
    rw [bFree_len] at h4
    have w1 := wt_free (bPart a ns).1 t (bPart a ns).2.1
    exact ⟨by omega, q.f, q.t, by have := p.wt; have := q.wt; omega⟩
theorem built_alt : ∀ (l : List Rx) (ns : List St) (fl : Option (Nat × Nat)) (t : Nat), Rx.fitL l → t < ns.length → (l ≠ [] ∨ fl ≠ none) → (∀ f l, fl = some (f, l) → f < ns.length ∧ l < ns.length) → Built ns (8 * Rx.nodesL l) (bAltGo l ns fl t)
  | [], ns, fl, t, _, ht, he, hfl => by
    simp only [bAltGo]
    match fl, he, hfl with
    | none, he, _ => simp at he
    | some (f, l), _, hfl => exact ⟨Nat.le_refl _, (hfl f l rfl).1, ht, Nat.le_add_right _ _⟩
  | a :: r, ns, none, t, h, ht, _, _ => by
    simp only [Rx.fitL] at h
    have p := built_part a ns h.1
    have hnp := a.nodes_pos
    have h1 := p.len
    have q := built_alt r (bFree (bPart a ns).1 (bPart a ns).2.2 t ++ [stF [((bPart a ns).2.1 : Int)]]) (some ((bPart a ns).1.length, (bPart a ns).1.length)) t h.2 (by simp [bFree_len]; omega) (.inr (by simp)) (fun f l e => by
      simp only [Option.some.injEq, Prod.mk.injEq] at e
      obtain ⟨rfl, rfl⟩ := e
      simp [bFree_len])
    simp only [bAltGo, Rx.nodesL, List.length_cons]
    have h4 := q.len
    simp only [List.length_append, bFree_len, List.length_cons, List.length_nil] at h4
    have h5 := q.wt
    rw [wt_append] at h5
    have w1 := wt_free (bPart a ns).1 (bPart a ns).2.2 t
    have w2 : wt [stF [((bPart a ns).2.1 : Int)]] = 2 := rfl
    exact ⟨by omega, q.f, q.t, by have := p.wt; omega⟩
  | a :: r, ns, some (f0, l0), t, h, ht, _, hfl => by
    simp only [Rx.fitL] at h
    have p := built_part a ns h.1
    have hnp := a.nodes_pos
    have h1 := p.len
    obtain ⟨g1, g2⟩ := hfl f0 l0 rfl
    have q := built_alt r (bFree (bFree (bPart a ns).1 (bPart a ns).2.2 t ++ [stF [((bPart a ns).2.1 : Int)]]) l0 (bPart a ns).1.length) (some (f0, (bPart a ns).1.length)) t h.2 (by simp [bFree_len]; omega) (.inr (by simp)) (fun f l e => by
      simp only [Option.some.injEq, Prod.mk.injEq] at e
      obtain ⟨rfl, rfl⟩ := e
      simp [bFree_len]; omega)
    simp only [bAltGo, Rx.nodesL, List.length_cons]
    have h4 := q.len
    simp only [List.length_append, bFree_len, List.length_cons, List.length_nil] at h4
    have h5 := q.wt
    have w0 := wt_free (bFree (bPart a ns).1 (bPart a ns).2.2 t ++ [stF [((bPart a ns).2.1 : Int)]]) l0 (bPart a ns).1.length
    rw [wt_append] at w0
    have w1 := wt_free (bPart a ns).1 (bPart a ns).2.2 t
    have w2 : wt [stF [((bPart a ns).2.1 : Int)]] = 2 := rfl
    exact ⟨by omega, q.f, q.t, by have := p.wt; omega⟩
end
mutual
theorem plain_fit : ∀ r : Rx, r.plain = true → r.fit
  | .mk k s l, h => by
    simp only [Rx.plain, Bool.and_eq_true] at h
    simp only [Rx.fit]
    refine ⟨⟨fun hk => ?_, fun hk => ?_, fun hk => ?_⟩, plain_fitL l h.2⟩
    · subst hk; have := h.1; simp [right] at this; intro e; simp [e] at this
    · subst hk; have := h.1; simp [right] at this; intro e; simp [e] at this
    · subst hk; have := h.1; simp [right] at this; intro e; simp [e] at this
theorem plain_fitL : ∀ l : List Rx, Rx.plainL l = true → Rx.fitL l
  | [], _ => by simp [Rx.fitL]
  | r :: t, h => by
    simp only [Rx.plainL, Bool.and_eq_true] at h
    simp only [Rx.fitL]
    exact ⟨plain_fit r h.1, plain_fitL t h.2⟩
end
end Go.Proofs.YtfdgbghlanbddaaDoor.Av
set_option linter.unusedVariables false
set_option linter.unusedSimpArgs false
namespace Go.Proofs.YtfdgbghlanbddaaDoor.Av
open Go.RowKit
/-! ### the builder's rows -/
def bRow (s : St) (m : Nat × Nat) : List AV := [.int .u64 s.w0, .int .u64 s.w1, .int .u64 s.w2, .int .u64 s.w3, .int .i64 s.to, .own m.1 m.2]
def bRows (ns : List St) (ms : List (Nat × Nat)) : List (List AV) := List.zipWith bRow ns ms
def frow (l : List Int) : List (List AV) := l.map fun n => [.int .i64 n]
def ids (ib iS : Nat) (ms : List (Nat × Nat)) : List Nat := ib :: iS :: ms.map Prod.fst
structure BI (es : List Ent) (ib sb iS sS : Nat) (ms : List (Nat × Nat)) (ns : List St) : Prop where
  b : at_ es ib = some (.row sb 94 1 [[.own iS sS]])
  s : at_ es iS = some (.row sS 75 6 (bRows ns ms))
  len : ms.length = ns.length
  f : ∀ k (h1 : k < ns.length) (h2 : k < ms.length), at_ es ms[k].1 = some (.row ms[k].2 3 1 (frow ns[k].free))
  nd : (ids ib iS ms).Nodup
def BF (es : List Ent) (ib sb : Nat) (F : List Nat) (ns : List St) : Prop := ∃ iS sS ms, BI es ib sb iS sS ms ns ∧ F = ids ib iS ms
/-- From es on to es', where the builder has ns: its rows were F, are F'. -/
structure BG (es es' : List Ent) (ib sb : Nat) (F F' : List Nat) (ns : List St) : Prop where
  bf : BF es' ib sb F' ns
  keep : ∀ id, id ∉ F → id < es.length → at_ es' id = at_ es id ∧ id ∉ F'
  len : es.length ≤ es'.length
theorem BF.lt {es : List Ent} {ib sb : Nat} {F : List Nat} {ns : List St} (h : BF es ib sb F ns) : ∀ id ∈ F, id < es.length := by
  obtain ⟨iS, sS, ms, hb, rfl⟩ := h
  intro id hid
  simp only [ids, List.mem_cons, List.mem_map] at hid
  rcases hid with rfl | rfl | ⟨m, hm, rfl⟩
  · exact at_lt hb.b
  · exact at_lt hb.s
  · obtain ⟨k, hk, rfl⟩ := List.mem_iff_getElem.1 hm
    exact at_lt (hb.f k (by have := hb.len; omega) hk)
theorem BI.push {es : List Ent} {ib sb iS sS : Nat} {ms : List (Nat × Nat)} {ns : List St} (x : Ent) (h : BI es ib sb iS sS ms ns) : BI (x :: es) ib sb iS sS ms ns :=
  ⟨at_miss _ h.b, at_miss _ h.s, h.len, fun k h1 h2 => at_miss _ (h.f k h1 h2), h.nd⟩
theorem BF.push {es : List Ent} {ib sb : Nat} {F : List Nat} {ns : List St} (x : Ent) (h : BF es ib sb F ns) : BF (x :: es) ib sb F ns := by
  obtain ⟨iS, sS, ms, hb, rfl⟩ := h
  exact ⟨iS, sS, ms, hb.push x, rfl⟩
theorem at_push {es : List Ent} {id : Nat} (x : Ent) (h : id < es.length) : at_ (x :: es) id = at_ es id := by
  simp only [at_]
  rw [if_neg (by omega)]
theorem BG.refl {es : List Ent} {ib sb : Nat} {F : List Nat} {ns : List St} (h : BF es ib sb F ns) : BG es es ib sb F F ns := ⟨h, fun _ hid _ => ⟨rfl, hid⟩, Nat.le_refl _⟩
theorem BG.trans {es1 es2 es3 : List Ent} {ib sb : Nat} {F1 F2 F3 : List Nat} {n2 n3 : List St} (h : BG es1 es2 ib sb F1 F2 n2) (k : BG es2 es3 ib sb F2 F3 n3) : BG es1 es3 ib sb F1 F3 n3 := by
  refine ⟨k.bf, fun id hid hl => ?_, Nat.le_trans h.len k.len⟩
  obtain ⟨a1, a2⟩ := h.keep id hid hl
  obtain ⟨b1, b2⟩ := k.keep id a2 (Nat.lt_of_lt_of_le hl h.len)
  exact ⟨b1.trans a1, b2⟩
/-- The same, seen from below. -/
theorem BG.pop {x : Ent} {es es' : List Ent} {ib sb : Nat} {F F' : List Nat} {ns : List St} (h : BG (x :: es) es' ib sb F F' ns) : BG es es' ib sb F F' ns := by
  refine ⟨h.bf, fun id hid hl => ?_, by have := h.len; simp only [List.length_cons] at this; omega⟩
  obtain ⟨a1, a2⟩ := h.keep id hid (by simp only [List.length_cons]; omega)
  exact ⟨a1.trans (at_push x hl), a2⟩
theorem BG.top {x : Ent} {es es' : List Ent} {ib sb : Nat} {F F' : List Nat} {ns n0 : List St} (h0 : BF es ib sb F n0) (h : BG (x :: es) es' ib sb F F' ns) : at_ es' es.length = some x ∧ es.length ∉ F' := by
  obtain ⟨a1, a2⟩ := h.keep es.length (fun hm => absurd (h0.lt _ hm) (Nat.lt_irrefl _)) (by simp)
  exact ⟨a1.trans (at_hit _ _), a2⟩
/-- What is pushed on top is not the builder's. -/
theorem BG.up {es es' : List Ent} {ib sb : Nat} {F F' : List Nat} {ns : List St} (x : Ent) (h : BG es es' ib sb F F' ns) : BG es (x :: es') ib sb F F' ns := by
  refine ⟨h.bf.push x, fun id hid hl => ?_, by have := h.len; simp only [List.length_cons]; omega⟩
  obtain ⟨a1, a2⟩ := h.keep id hid hl
  exact ⟨(at_push x (Nat.lt_of_lt_of_le hl h.len)).trans a1, a2⟩
end Go.Proofs.YtfdgbghlanbddaaDoor.Av
set_option linter.unusedVariables false
set_option linter.unusedSimpArgs false
namespace Go.Proofs.YtfdgbghlanbddaaDoor.Av
open Go.RowKit
/-! ### all of the builder's rows are written no more -/
def killAll : List Nat → List Ent → List Ent
  | [], es => es
  | id :: t, es => killAll t (setAt es id .dead)
def freezeAll : List Nat → Core → Core
  | [], c => c
  | id :: t, c => freezeAll t (c.freeze id)
section
variable {P : Program} {w0 : World} {N : Nat} {ops : Array Oper} {rest : List Oper} {f : Frame} {es : List Ent} {K : Frame → List Ent → Prop}
theorem BI.rows {ib sb iS sS : Nat} {ms : List (Nat × Nat)} {ns : List St} (h : BI es ib sb iS sS ms ns) : ∀ id ∈ ids ib iS ms, ∃ s e sz rows, at_ es id = some (.row s e sz rows) := by
  intro id hid
  simp only [ids, List.mem_cons, List.mem_map] at hid
  rcases hid with rfl | rfl | ⟨m, hm, rfl⟩
  · exact ⟨_, _, _, _, h.b⟩
  · exact ⟨_, _, _, _, h.s⟩
  · obtain ⟨k, hk, rfl⟩ := List.mem_iff_getElem.1 hm
    exact ⟨_, _, _, _, h.f k (by have := h.len; omega) hk⟩
theorem sub_of {es es' : List Ent} (h : ∀ id, id < es.length → at_ es' id = at_ es id) : Sub es es' := fun id s e sz rows hr => by rw [h id (at_lt hr)]; exact hr
end
end Go.Proofs.YtfdgbghlanbddaaDoor.Av
set_option linter.unusedVariables false
set_option linter.unusedSimpArgs false
set_option maxRecDepth 8000
namespace Go.Proofs.YtfdgbghlanbddaaDoor.Av
open Go.RowKit Go.Proofs
end Go.Proofs.YtfdgbghlanbddaaDoor.Av
set_option linter.unusedVariables false
set_option linter.unusedSimpArgs false
set_option maxRecDepth 8000
namespace Go.Proofs.YtfdgbghlanbddaaDoor.Av
open Go.RowKit Go.Proofs
/-- What part answers, of expressions that are not greater than B. -/
def PartOk (w0 : World) (B : Nat) : Prop := ∀ (r : Rx) (es : List Ent) (ib sb : Nat) (F : List Nat) (ns : List St), r.nodes ≤ B → r.fit → BF es ib sb F ns → wt ns + 8 * r.nodes ≤ 1000000000 →
  ACalls Tryd.prog w0 72 [.ptr ib sb 0 0, .agg r.cells] es fun v es' => v = .tup [.int .i64 ((bPart r ns).2.1 : Int), .int .i64 ((bPart r ns).2.2 : Int)] ∧ ∃ F', BG es es' ib sb F F' (bPart r ns).1
def lastOf : Option (Nat × Nat) → Int
  | none => -1
  | some p => p.2
end Go.Proofs.YtfdgbghlanbddaaDoor.Av
set_option linter.unusedVariables false
set_option linter.unusedSimpArgs false
set_option maxRecDepth 8000
namespace Go.Proofs.YtfdgbghlanbddaaDoor.Av
open Go.RowKit Go.Proofs
end Go.Proofs.YtfdgbghlanbddaaDoor.Av
set_option linter.unusedVariables false
set_option linter.unusedSimpArgs false
set_option maxRecDepth 8000
namespace Go.Proofs.YtfdgbghlanbddaaDoor.Av
open Go.RowKit Go.Proofs
/-- The machine of an expression, if it may be. -/
def buildN (r : Rx) : Nf := if mayR r = 0 then ⟨(bPart r []).1, ((bPart r []).2.1 : Int), ((bPart r []).2.2 : Int)⟩ else ⟨[], 0, 0⟩
end Go.Proofs.YtfdgbghlanbddaaDoor.Av
set_option linter.unusedVariables false
set_option linter.unusedSimpArgs false
namespace Go.Proofs.YtfdgbghlanbddaaDoor.Av
/-! ### expressions out of numbers -/
theorem mem_filt {α : Type} {p : α → Bool} {l : List α} {x : α} (h : x ∈ l.filter p) : x ∈ l := (List.mem_filter.1 h).1
def starN : Nat → Rx → Rx
  | 0, r => r
  | n + 1, r => if r.kind = 6 then r else if r.kind = 1 ∨ r.kind = 2 then emptyR else if r.kind = 5 ∧ (catOuts r.args).length < r.args.length then starN n (altR (catOuts r.args)) else .mk 6 noSet [r]
def starR (r : Rx) : Rx := starN 2000 r
/-- The next number, and what is left. -/
def num (m : Int) (q : List Int) : Int := (q.headD 0) % m
def rangeW (a b : Int) : W4 := ofW (((List.range 256).filter fun i : Nat => decide (a ≤ (i : Int)) && decide ((i : Int) ≤ b)).map Int.ofNat)
def notW (s : W4) : W4 := ofW (((List.range 256).filter fun i => !(s.has i)).map Int.ofNat)
def pSet (q : List Int) : W4 × List Int :=
  if num 8 q = 0 then (rangeW 97 100, q.tail)
  else if num 8 q = 1 then (rangeW (num 256 q.tail) (num 256 q.tail.tail), q.tail.tail.tail)
  else if num 8 q = 2 then (notW (ofW [97 + num 4 q.tail]), q.tail.tail)
  else if num 8 q = 3 then (ofW [97 + num 4 q.tail, 97 + num 4 q.tail.tail, num 256 q.tail.tail.tail], q.tail.tail.tail.tail)
  else if num 8 q = 4 then (rangeW 0 255, q.tail)
  else (ofW [97 + num 4 q.tail], q.tail.tail)
def pLeaf (k : Int) (q : List Int) : Rx × List Int :=
  if q = [] ∨ 0 < k then (bytesR (pSet q).1, (pSet q).2) else (if num 3 q = 0 then noneR else emptyR, q.tail)
def pRx : Nat → List Int → Rx × List Int
  | 0, q => pLeaf (num 9 q) q.tail
  | f + 1, q =>
    if q.tail = [] ∨ num 9 q < 3 then pLeaf (num 9 q) q.tail
    else if num 9 q = 3 ∨ num 9 q = 4 ∨ num 9 q = 5 then (catR [(pRx f q.tail).1, (pRx f (pRx f q.tail).2).1], (pRx f (pRx f q.tail).2).2)
    else if num 9 q = 6 ∨ num 9 q = 7 then (altR [(pRx f q.tail).1, (pRx f (pRx f q.tail).2).1], (pRx f (pRx f q.tail).2).2)
    else (starR (pRx f q.tail).1, (pRx f q.tail).2)
def pByte (q : List Int) : Int × List Int := if num 8 q = 0 then (num 256 q.tail, q.tail.tail) else (97 + num 4 q.tail, q.tail.tail)
def pWordGo : Nat → List Int → List Int
  | 0, _ => []
  | n + 1, q => (pByte q).1 :: pWordGo n (pByte q).2
def pWordQ : Nat → List Int → List Int
  | 0, q => q
  | n + 1, q => pWordQ n (pByte q).2
def pWord (most : Nat) (q : List Int) : List Int := pWordGo (num (most + 1) q).toNat q.tail
def bytesOk (l : List Int) : Prop := ∀ b ∈ l, 0 ≤ b ∧ b < 256
theorem num_range {q : List Int} {m : Int} (hm : 0 < m) : 0 ≤ num m q ∧ num m q < m := ⟨Int.emod_nonneg _ (by omega), Int.emod_lt_of_pos _ hm⟩
theorem bytesOk.tail {q : List Int} (h : bytesOk q) : bytesOk q.tail := fun b hb => h b (List.mem_of_mem_tail hb)
theorem ok_mkset {s : W4} (h : s.ok) : (Rx.mk 3 s []).ok := by simp [Rx.ok, Rx.oks, h]
theorem ok_none : noneR.ok := by simp [noneR, Rx.ok, Rx.oks, noSet_ok]
theorem ok_empty : emptyR.ok := by simp [emptyR, Rx.ok, Rx.oks, noSet_ok]
theorem ok_mk {k : Int} (hk : -9223372036854775808 ≤ k ∧ k < 9223372036854775808) {l : List Rx} (h : ∀ x ∈ l, x.ok) : (Rx.mk k noSet l).ok := by
  simp only [Rx.ok, Rx.oks_iff]
  exact ⟨hk, noSet_ok, h⟩
theorem catOf_ok {l : List Rx} (h : ∀ x ∈ l, x.ok) : (catOf l).ok := by
  match l, h with
  | [], _ => exact ok_empty
  | [x], h => exact h x (by simp)
  | x :: y :: t, h => exact ok_mk (by omega) h
theorem altOf_ok {l : List Rx} (h : ∀ x ∈ l, x.ok) : (altOf l).ok := by
  match l, h with
  | [], _ => exact ok_none
  | [x], h => exact h x (by simp)
  | x :: y :: t, h => exact ok_mk (by omega) h
theorem catR_ok {l : List Rx} (h : ∀ x ∈ l, x.ok) : (catR l).ok := by
  unfold catR
  split
  · exact ok_none
  · exact catOf_ok fun x hx => flat_ok h x (mem_filt hx)
theorem altFin_ok {o : List Rx} {s : W4} (h : ∀ x ∈ o, x.ok) (hs : s.ok) : ∀ x ∈ altFin o s, x.ok := by
  unfold altFin
  split
  · exact h
  · exact insR_ok h (ok_mkset hs)
theorem altR_ok {l : List Rx} (h : ∀ x ∈ l, x.ok) : (altR l).ok := by
  obtain ⟨h1, h2, h3⟩ := altOuts_inv (flatR 5 l) (flat_ok h) (flatR 5 l).length (Nat.le_refl _)
  rw [List.take_length] at h1 h3
  exact altOf_ok (altFin_ok h1 h3)
theorem catOf_nodes (l : List Rx) : (catOf l).nodes ≤ 1 + Rx.nodesL l := by
  match l with
  | [] => simp [catOf, emptyR, Rx.nodes, Rx.nodesL]
  | [x] => simp [catOf, Rx.nodesL]
  | x :: y :: t => simp only [catOf, Rx.nodes]; omega
theorem altOf_nodes (l : List Rx) : (altOf l).nodes ≤ 1 + Rx.nodesL l := by
  match l with
  | [] => simp [altOf, noneR, Rx.nodes, Rx.nodesL]
  | [x] => simp [altOf, Rx.nodesL]
  | x :: y :: t => simp only [altOf, Rx.nodes]; omega
theorem catR_nodes (l : List Rx) : (catR l).nodes ≤ 1 + Rx.nodesL l := by
  unfold catR
  split
  · simp [noneR, Rx.nodes, Rx.nodesL]
  · have h1 := catOf_nodes (catOuts (flatR 4 l))
    have h2 := catOuts_nodes (flatR 4 l)
    have h3 := flat_nodes 4 l
    unfold catOuts at h1 h2
    omega
/-- The sets that are laid together were there. -/
theorem altAll_nodes : ∀ (l : List Rx) (o : List Rx) (s : W4), Rx.nodesL (altOuts o l) + (if altSet s l = noSet then 0 else 1) ≤ Rx.nodesL o + (if s = noSet then 0 else 1) + Rx.nodesL l
  | [], o, s => by
    simp [altOuts, altSet, Rx.nodesL]
    exact Nat.le_refl _
  | r :: t, o, s => by
    have e1 : altOuts o (r :: t) = altOuts (if r.kind = 1 ∨ r.kind = 3 then o else insR o r) t := rfl
    have e2 : altSet s (r :: t) = altSet (if r.kind = 3 then s.or r.set else s) t := rfl
    have ih := altAll_nodes t (if r.kind = 1 ∨ r.kind = 3 then o else insR o r) (if r.kind = 3 then s.or r.set else s)
    have h1 := insR_nodes o r
    have h2 := r.nodes_pos
    rw [e1, e2]
    simp only [Rx.nodesL]
    by_cases h3 : r.kind = 3
    · rw [if_pos (.inr h3), if_pos h3] at ih ⊢
      have : (if s.or r.set = noSet then 0 else 1) ≤ 1 := by split <;> omega
      omega
    · rw [if_neg h3] at ih ⊢
      by_cases h4 : r.kind = 1 ∨ r.kind = 3
      · rw [if_pos h4] at ih ⊢; omega
      · rw [if_neg h4] at ih ⊢; omega
theorem altR_nodes (l : List Rx) : (altR l).nodes ≤ 1 + Rx.nodesL l := by
  unfold altR
  have h1 := altOf_nodes (altFin (altOuts [] (flatR 5 l)) (altSet noSet (flatR 5 l)))
  have h2 := altAll_nodes (flatR 5 l) [] noSet
  have h3 := flat_nodes 5 l
  simp only [if_true, Rx.nodesL] at h2
  unfold altFin at h1 ⊢
  split at h1
  · rename_i h
    rw [if_pos h] at h2 ⊢
    omega
  · rename_i h
    rw [if_neg h] at h2 ⊢
    have h4 := insR_nodes (altOuts [] (flatR 5 l)) (.mk 3 (altSet noSet (flatR 5 l)) [])
    simp only [Rx.nodes, Rx.nodesL] at h4
    omega
theorem catOuts_mem {l : List Rx} {x : Rx} (h : x ∈ catOuts l) : x ∈ l := mem_filt h
theorem catOuts_less : ∀ {l : List Rx}, (catOuts l).length < l.length → Rx.nodesL (catOuts l) < Rx.nodesL l
  | [], h => by simp [catOuts] at h
  | a :: t, h => by
    unfold catOuts at h ⊢
    rw [List.filter_cons] at h ⊢
    have ha := a.nodes_pos
    have hle := catOuts_nodes t
    unfold catOuts at hle
    split
    · rename_i hk
      rw [if_pos hk] at h
      have := catOuts_less (l := t) (by unfold catOuts; simpa using h)
      unfold catOuts at this
      simp only [Rx.nodesL]
      omega
    · simp only [Rx.nodesL]
      omega
theorem starN_ok : ∀ (n : Nat) {r : Rx}, r.ok → (starN n r).ok
  | 0, r, h => h
  | n + 1, r, h => by
    simp only [starN]
    split
    · exact h
    · split
      · exact ok_empty
      · split
        · exact starN_ok n (altR_ok fun x hx => h.args x (catOuts_mem hx))
        · exact ok_mk (by omega) (by simpa using h)
theorem starN_nodes : ∀ (n : Nat) (r : Rx), (starN n r).nodes ≤ r.nodes + 1
  | 0, r => by simp [starN]
  | n + 1, r => by
    simp only [starN]
    split
    · omega
    · split
      · simp [emptyR, Rx.nodes, Rx.nodesL]
      · split
        · rename_i h
          have h1 := starN_nodes n (altR (catOuts r.args))
          have h2 := altR_nodes (catOuts r.args)
          have h3 := catOuts_less h.2
          have h4 := r.nodes_eq
          omega
        · simp [Rx.nodes, Rx.nodesL]; omega
theorem starR_ok {r : Rx} (h : r.ok) : (starR r).ok := starN_ok 2000 h
theorem starR_nodes (r : Rx) : (starR r).nodes ≤ r.nodes + 1 := starN_nodes 2000 r
theorem filt_ok (p : Nat → Bool) : ∀ b ∈ ((List.range 256).filter p).map Int.ofNat, 0 ≤ b ∧ b < 256 := by
  intro b hb
  obtain ⟨i, hi, rfl⟩ := List.mem_map.1 hb
  have := List.mem_range.1 (mem_filt hi)
  exact ⟨Int.natCast_nonneg _, by show (i : Int) < 256; omega⟩
theorem rangeW_ok (a b : Int) : (rangeW a b).ok := ofW_ok (filt_ok _)
theorem notW_ok (s : W4) : (notW s).ok := ofW_ok (filt_ok _)
theorem ofW_one {b : Int} (h0 : 0 ≤ b) (h1 : b < 256) : (ofW [b]).ok := ofW_ok fun x hx => by
  simp only [List.mem_cons, List.not_mem_nil, or_false] at hx
  omega
theorem ofW_three {a b c : Int} (h0 : 0 ≤ a ∧ a < 256) (h1 : 0 ≤ b ∧ b < 256) (h2 : 0 ≤ c ∧ c < 256) : (ofW [a, b, c]).ok := ofW_ok fun x hx => by
  simp only [List.mem_cons, List.not_mem_nil, or_false] at hx
  omega
theorem pSet_ok {q : List Int} (hq : bytesOk q) : (pSet q).1.ok ∧ bytesOk (pSet q).2 := by
  have n4 : ∀ q : List Int, 0 ≤ num 4 q ∧ num 4 q < 4 := fun q => num_range (by omega)
  have n256 : ∀ q : List Int, 0 ≤ num 256 q ∧ num 256 q < 256 := fun q => num_range (by omega)
  have h1 := n4 q.tail
  have h2 := n4 q.tail.tail
  have h3 := n256 q.tail.tail.tail
  unfold pSet
  split
  · exact And.intro (rangeW_ok 97 100) hq.tail
  · split
    · exact And.intro (rangeW_ok (num 256 q.tail) (num 256 q.tail.tail)) hq.tail.tail.tail
    · split
      · exact And.intro (notW_ok (ofW [97 + num 4 q.tail])) hq.tail.tail
      · split
        · exact And.intro (ofW_three (a := 97 + num 4 q.tail) (b := 97 + num 4 q.tail.tail) (c := num 256 q.tail.tail.tail) (by omega) (by omega) h3) hq.tail.tail.tail.tail
        · split
          · dsimp only
            have h9 := rangeW_ok 0 255
            generalize rangeW 0 255 = z at h9 ⊢
            exact ⟨h9, hq.tail⟩
          · exact And.intro (ofW_one (b := 97 + num 4 q.tail) (by omega) (by omega)) hq.tail.tail
theorem bytesR_nodes (s : W4) : (bytesR s).nodes = 1 := by
  unfold bytesR
  split <;> simp [noneR, Rx.nodes, Rx.nodesL]
theorem pLeaf_ok {k : Int} {q : List Int} (hq : bytesOk q) : (pLeaf k q).1.ok ∧ bytesOk (pLeaf k q).2 ∧ (pLeaf k q).1.nodes = 1 := by
  obtain ⟨h1, h2⟩ := pSet_ok hq
  unfold pLeaf
  split
  · exact ⟨bytesR_ok h1, h2, bytesR_nodes _⟩
  · refine ⟨?_, hq.tail, ?_⟩
    · simp only; split
      · exact ok_none
      · exact ok_empty
    · simp only; split <;> simp [noneR, emptyR, Rx.nodes, Rx.nodesL]
theorem pRx_ok : ∀ (f : Nat) {q : List Int}, bytesOk q → (pRx f q).1.ok ∧ bytesOk (pRx f q).2 ∧ (pRx f q).1.nodes + 1 ≤ 2 ^ (f + 1)
  | 0, q, hq => by
    obtain ⟨h1, h2, h3⟩ := pLeaf_ok (k := num 9 q) hq.tail
    simp only [pRx]
    exact ⟨h1, h2, by omega⟩
  | f + 1, q, hq => by
    obtain ⟨h1, h2, h3⟩ := pLeaf_ok (k := num 9 q) hq.tail
    obtain ⟨a1, a2, a3⟩ := pRx_ok f hq.tail
    obtain ⟨b1, b2, b3⟩ := pRx_ok f a2
    have e : 2 ^ (f + 1 + 1) = 2 * 2 ^ (f + 1) := by rw [Nat.pow_succ]; omega
    have hp : 2 ≤ 2 ^ (f + 1) := by rw [Nat.pow_succ]; have := Nat.pos_of_ne_zero (show 2 ^ f ≠ 0 by simp); omega
    have hl : ∀ x ∈ [(pRx f q.tail).1, (pRx f (pRx f q.tail).2).1], x.ok := by
      intro x hx
      simp only [List.mem_cons, List.not_mem_nil, or_false] at hx
      rcases hx with rfl | rfl
      · exact a1
      · exact b1
    simp only [pRx]
    split
    · exact ⟨h1, h2, by omega⟩
    · split
      · refine ⟨catR_ok hl, b2, ?_⟩
        have := catR_nodes [(pRx f q.tail).1, (pRx f (pRx f q.tail).2).1]
        simp only [Rx.nodesL] at this
        simp only
        omega
      · split
        · refine ⟨altR_ok hl, b2, ?_⟩
          have := altR_nodes [(pRx f q.tail).1, (pRx f (pRx f q.tail).2).1]
          simp only [Rx.nodesL] at this
          simp only
          omega
        · dsimp only
          have h8 := starR_ok a1
          have h9 := starR_nodes (pRx f q.tail).1
          generalize starR (pRx f q.tail).1 = z at h8 h9 ⊢
          exact ⟨h8, a2, by omega⟩
end Go.Proofs.YtfdgbghlanbddaaDoor.Av
set_option linter.unusedVariables false
set_option linter.unusedSimpArgs false
set_option maxRecDepth 8000
namespace Go.Proofs.YtfdgbghlanbddaaDoor.Av
open Go.RowKit Go.Proofs
def boolT (p : Nat → Bool) : List AV := (List.range 256).map fun i => .bool (p i)
theorem boolT_len (p : Nat → Bool) : (boolT p).length = 256 := by simp [boolT]
theorem boolT_load {p : Nat → Bool} {k : Nat} (hk : k < 256) : loadAV false 1 (boolT p) k = .bool (p k) := by
  simp [loadAV, boolT, List.getD, hk]
theorem boolT_all (p : Nat → Bool) : loadAV true 256 (boolT p) 0 = .agg (boolT p) := by
  simp only [loadAV, if_true, List.drop_zero]
  rw [List.take_of_length_le (by rw [boolT_len]; exact Nat.le_refl _)]
theorem boolT_none {p : Nat → Bool} (h : ∀ i, i < 256 → p i = false) : boolT p = List.replicate 256 (.bool false) := by
  unfold boolT
  refine List.ext_getElem (by simp) fun i h1 h2 => ?_
  simp only [List.getElem_map, List.getElem_range, List.getElem_replicate]
  rw [h i (by simpa using h1)]
theorem boolT_congr {p q : Nat → Bool} (h : ∀ i, i < 256 → p i = q i) : boolT p = boolT q := by
  unfold boolT
  refine List.map_congr_left fun i hi => ?_
  rw [h i (List.mem_range.1 hi)]
theorem boolT_store {p : Nat → Bool} {k : Nat} {v : Bool} (hk : k < 256) : (boolT p).take k ++ [.bool v] ++ (boolT p).drop (k + 1) = boolT (fun i => if i = k then v else p i) := by
  have e : (boolT p).take k ++ [AV.bool v] ++ (boolT p).drop (k + 1) = (boolT p).set k (.bool v) := by
    rw [List.set_eq_take_append_cons_drop, if_pos (by rw [boolT_len]; exact hk)]
    simp
  rw [e]
  refine List.ext_getElem (by simp [boolT]) fun i h1 h2 => ?_
  simp only [boolT, List.getElem_set, List.getElem_map, List.getElem_range]
  by_cases hi : k = i
  · subst hi; simp
  · rw [if_neg hi, if_neg (Ne.symm hi)]
theorem filt_len (p : Nat → Bool) (k : Nat) : (((List.range k).filter p).map Int.ofNat).length ≤ k := by
  rw [List.length_map]
  have := List.length_filter_le p (List.range k)
  simpa using this
theorem filt_yes {p : Nat → Bool} {k : Nat} (h : p k = true) : ((List.range (k + 1)).filter p).map Int.ofNat = ((List.range k).filter p).map Int.ofNat ++ [(k : Int)] := by
  rw [List.range_succ, List.filter_append, List.map_append, List.filter_cons_of_pos (by simpa using h)]
  rfl
theorem filt_no {p : Nat → Bool} {k : Nat} (h : p k = false) : ((List.range (k + 1)).filter p).map Int.ofNat = ((List.range k).filter p).map Int.ofNat := by
  rw [List.range_succ, List.filter_append, List.map_append, List.filter_cons_of_neg (by simp [h])]
  simp
theorem range_step {a k : Int} {i : Nat} (h0 : a ≤ k) (h1 : 0 ≤ k) : (if i = k.toNat then true else (decide (a ≤ (i : Int)) && decide ((i : Int) < k))) = (decide (a ≤ (i : Int)) && decide ((i : Int) < k + 1)) := by
  by_cases h : i = k.toNat
  · rw [if_pos h]
    have e1 : decide (a ≤ (i : Int)) = true := decide_eq_true (by omega)
    have e2 : decide ((i : Int) < k + 1) = true := decide_eq_true (by omega)
    rw [e1, e2]; rfl
  · rw [if_neg h]
    congr 1
    rw [decide_eq_decide]
    omega
theorem not_step {s : W4} {k i : Nat} : (if i = k then !(s.has k) else (decide (i < k) && !(s.has i))) = (decide (i < k + 1) && !(s.has i)) := by
  by_cases h : i = k
  · subst h; simp
  · rw [if_neg h]
    congr 1
    rw [decide_eq_decide]
    omega
theorem rangeW_of {a b k : Int} (h : (k = b + 1 ∨ (b < a ∧ k = a))) : rangeW a b = ofW (((List.range 256).filter fun i : Nat => decide (a ≤ (i : Int)) && decide ((i : Int) < k)).map Int.ofNat) := by
  unfold rangeW
  congr 2
  refine List.filter_congr fun i _ => ?_
  rw [Bool.eq_iff_iff]
  simp only [Bool.and_eq_true, decide_eq_true_eq]
  omega
theorem notW_of (s : W4) : notW s = ofW (((List.range 256).filter fun i : Nat => decide (i < 256) && !(s.has i)).map Int.ofNat) := by
  have e : (List.range 256).filter (fun i : Nat => decide (i < 256) && !(s.has i)) = (List.range 256).filter fun i => !(s.has i) := by
    refine List.filter_congr fun i hi => ?_
    rw [show decide (i < 256) = true from decide_eq_true (List.mem_range.1 hi)]
    rfl
  unfold notW
  rw [e]
theorem star_6 {n : Nat} {r : Rx} (h : r.kind = 6) : starN (n + 1) r = r := by rw [starN, if_pos h]
theorem star_12 {n : Nat} {r : Rx} (h : r.kind = 1 ∨ r.kind = 2) : starN (n + 1) r = emptyR := by rw [starN, if_neg (by omega), if_pos h]
theorem star_alt {n : Nat} {r : Rx} (h : r.kind = 5) (hl : (catOuts r.args).length < r.args.length) : starN (n + 1) r = starN n (altR (catOuts r.args)) := by rw [starN, if_neg (by omega), if_neg (by omega), if_pos ⟨h, hl⟩]
theorem star_else {n : Nat} {r : Rx} (h : ¬ r.kind = 6 ∧ ¬ r.kind = 1 ∧ ¬ r.kind = 2) (hl : ¬ (r.kind = 5 ∧ (catOuts r.args).length < r.args.length)) : starN (n + 1) r = .mk 6 noSet [r] := by rw [starN, if_neg (by omega), if_neg (by omega), if_neg hl]
theorem refWhere {w0 : World} {es : List Ent} (p : Nat → Bool) : ACalls Tryd.prog w0 158 [.agg (boolT p)] es fun v es' => v = .agg (ofW (((List.range 256).filter p).map Int.ofNat)).row ∧ es' = es := by
  refine calls1 (N := 19) Tryd.func158 rfl rfl (by decide) ?_
  refine w_seq ?_
  refine w_region ?_
  refine l_cons rfl (p_box fun s1 => ?_)
  refine l_cons rfl (p_alloc ze_26 fun s2 => ?_)
  refine l_nil ?_
  refine k_seq_normal ?_
  refine w_seq ?_
  refine w_region ?_
  refine l_cons rfl (p_assign ?_)
  refine l_nil ?_
  refine k_seq_normal ?_
  refine w_seq ?_
  refine w_seq ?_
  refine w_adopt 3 5 1 rfl fun s3 => ?_
  simp only [upd_upd]
  refine w_region ?_
  refine l_cons rfl (p_assign ?_)
  refine l_nil ?_
  refine k_seq_normal ?_
  refine w_block ?_
  refine w_loop (fun m f es' => ∃ k s3, m = 256 - k ∧ k ≤ 256 ∧ es' = .row s3 5 1 ((((List.range k).filter p).map Int.ofNat).map fun n => [.int .u8 n]) :: .row s2 26 4 [[.int .u64 0, .int .u64 0, .int .u64 0, .int .u64 0]] :: .row s1 153 (boolT p).length [boolT p] :: es ∧ Knows f [(1, .ptr es.length s1 0 0), (2, .ptr (es.length + 1) s2 0 0), (3, .own (es.length + 2) s3), (4, .int .i64 k)]) (256) (⟨0, s3, rfl, Nat.zero_le _, rfl, by simp only [Knows, put, upd_apply, Nat.reduceEqDiff, ↓reduceIte, and_true, true_and, eq_self] <;> and_intros <;> rfl⟩) ?_
  rintro m f es' ⟨k, s3, rfl, hk1, rfl, hk⟩
  refine w_pins _ (Sub.refl _) (hk) ?_
  simp only [pins]
  refine w_seq ?_
  refine w_seq ?_
  refine w_region ?_
  refine l_cons rfl (p_move ?_)
  refine l_cons rfl (p_cmp ?_)
  refine l_nil ?_
  refine k_seq_normal ?_
  refine w_b (fun h1 => ?_) (fun h1 => ?_)
  · skip
    have h1' := h1; (try simp only [decide_eq_true_eq, decide_eq_false_iff_not, Bool.not_eq_true', Bool.not_false, Bool.not_true, Bool.not_eq_false'] at h1')
    refine w_skip ?_
    refine k_seq_normal ?_
    refine w_seq ?_
    refine w_block ?_
    refine w_seq ?_
    refine w_region ?_
    refine l_cons rfl (p_move ?_)
    refine l_cons rfl (p_ixa ar_153 (a := .ptr es.length s1 0 k) ?_ (h0 := by omega) (h1 := by omega) (ho := by simp))
    refine l_cons rfl (p_loadp ty_4 (a := .bool (p k)) ?_ (hl := by simp only [boolT_len]; omega) (ha := boolT_load (by omega)))
    refine l_nil ?_
    refine k_seq_normal ?_
    refine w_b (fun h2 => ?_) (fun h2 => ?_)
    · skip
      have h2' := h2; (try simp only [decide_eq_true_eq, decide_eq_false_iff_not, Bool.not_eq_true', Bool.not_false, Bool.not_true, Bool.not_eq_false'] at h2')
      have hfl := filt_len p k
      rw [List.length_map] at hfl
      refine w_region ?_
      refine l_cons rfl (p_move ?_)
      refine l_cons rfl (p_move ?_)
      refine l_cons rfl (p_conv in_3 in_5 ?_ (hb := wrap8 (n := (k : Int)) (by omega) (by omega)))
      refine l_cons rfl (p_buildList sl_22 ze_5 ?_)
      refine l_cons rfl (p_append sl_22 by_5 ze_5 (fun s16 => ?_) (hb := by simp only [List.length_map, List.length_take, List.length_drop, List.length_append, List.length_cons, List.length_nil, most]; omega))
      refine l_cons rfl (p_assign ?_)
      refine l_nil ?_
      refine k_blk_normal ?_
      refine k_seq_normal ?_
      refine w_region ?_
      refine l_cons rfl (p_move ?_)
      refine l_cons rfl (p_arith ?_)
      refine l_cons rfl (p_assign ?_)
      refine l_nil ?_
      refine k_seq_normal ?_
      first
      | exact ⟨256 - (k + 1), by omega, k + 1, s16, rfl, by omega, by rw [filt_yes h2', List.map_append] <;> rfl, by simp only [Knows, put, upd_apply, Nat.reduceEqDiff, ↓reduceIte, and_true, true_and, eq_self] <;> and_intros <;> rfl⟩
      | exact ⟨256 - (k + 1), by omega, k + 1, s3, rfl, by omega, by rw [filt_no h2'] <;> rfl, by simp only [Knows, put, upd_apply, Nat.reduceEqDiff, ↓reduceIte, and_true, true_and, eq_self] <;> and_intros <;> rfl⟩
    · skip
      have h2' := h2; (try simp only [decide_eq_true_eq, decide_eq_false_iff_not, Bool.not_eq_true', Bool.not_false, Bool.not_true, Bool.not_eq_false'] at h2')
      refine w_skip ?_
      refine k_blk_normal ?_
      refine k_seq_normal ?_
      refine w_region ?_
      refine l_cons rfl (p_move ?_)
      refine l_cons rfl (p_arith ?_)
      refine l_cons rfl (p_assign ?_)
      refine l_nil ?_
      refine k_seq_normal ?_
      first
      | exact ⟨256 - (k + 1), by omega, k + 1, s16, rfl, by omega, by rw [filt_yes h2', List.map_append] <;> rfl, by simp only [Knows, put, upd_apply, Nat.reduceEqDiff, ↓reduceIte, and_true, true_and, eq_self] <;> and_intros <;> rfl⟩
      | exact ⟨256 - (k + 1), by omega, k + 1, s3, rfl, by omega, by rw [filt_no h2'] <;> rfl, by simp only [Knows, put, upd_apply, Nat.reduceEqDiff, ↓reduceIte, and_true, true_and, eq_self] <;> and_intros <;> rfl⟩
  · skip
    have h1' := h1; (try simp only [decide_eq_true_eq, decide_eq_false_iff_not, Bool.not_eq_true', Bool.not_false, Bool.not_true, Bool.not_eq_false'] at h1')
    refine w_exit ?_
    refine k_seq_exit ?_
    refine k_seq_exit ?_
    refine k_blk_here ?_
    refine k_seq_normal ?_
    refine w_seq ?_
    refine w_freezeTop 3 ?_ (hclean := cleans_u8 _)
    obtain rfl : k = 256 := by omega
    refine w_region ?_
    refine l_cons rfl (p_move ?_)
    refine l_cons rfl (p_callr en_68 (refOf _ (filt_ok p)) ?_)
    refine l_cons rfl (p_store ty_26 ?_)
    refine l_nil ?_
    refine k_seq_normal ?_
    refine w_ret ?_
    exact retc rfl ty_26 (by first | exact Sub.refl _ | exact sub1 _ _ | exact sub2 _ _ _ | exact sub3 _ _ _ _ | exact sub4 _ _ _ _ _ | exact sub5 _ _ _ _ _ _) ⟨rfl, rfl⟩
theorem refRange {w0 : World} {es : List Ent} (a b : Int) (ha : 0 ≤ a ∧ a < 256) (hb : 0 ≤ b ∧ b < 256) : ACalls Tryd.prog w0 143 [.int .u8 a, .int .u8 b] es fun v es' => v = .agg (rangeW a b).row ∧ es' = es := by
  refine calls2 (N := 19) Tryd.func143 rfl rfl (by decide) ?_
  refine w_seq ?_
  refine w_region ?_
  refine l_cons rfl (p_alloc ze_26 fun s4 => ?_)
  refine l_nil ?_
  refine k_seq_normal ?_
  refine w_seq ?_
  refine w_region ?_
  refine l_cons rfl (p_alloc ze_153 fun s5 => ?_)
  refine l_nil ?_
  refine k_seq_normal ?_
  refine w_seq ?_
  refine w_seq ?_
  refine w_region ?_
  refine l_cons rfl (p_move ?_)
  refine l_cons rfl (p_conv in_5 in_3 ?_ (hb := wrap_i64 (n := a) (by omega) (by omega)))
  refine l_cons rfl (p_assign ?_)
  refine l_nil ?_
  refine k_seq_normal ?_
  refine w_block ?_
  refine w_loop (fun m f es' => ∃ k : Int, m = (b + 1 - k).toNat ∧ a ≤ k ∧ k ≤ 256 ∧ (k ≤ b + 1 ∨ k = a) ∧ es' = .row s5 153 256 [boolT (fun i : Nat => decide (a ≤ (i : Int)) && decide ((i : Int) < k))] :: .row s4 26 4 [[.int .u64 0, .int .u64 0, .int .u64 0, .int .u64 0]] :: es ∧ Knows f [(1, .int .u8 b), (4, .ptr es.length s4 0 0), (5, .ptr (es.length + 1) s5 0 0), (6, .int .i64 k)]) (_) (⟨a, rfl, by omega, by omega, .inr rfl, by rw [boolT_none (p := fun i : Nat => decide (a ≤ (i : Int)) && decide ((i : Int) < a)) (fun i _ => by by_cases h : a ≤ (i : Int) <;> simp <;> omega)] <;> rfl, by simp only [Knows, put, upd_apply, Nat.reduceEqDiff, ↓reduceIte, and_true, true_and, eq_self] <;> and_intros <;> rfl⟩) ?_
  rintro m f es' ⟨k, rfl, hk1, hk2, hk3, rfl, hk⟩
  refine w_pins _ (Sub.refl _) (hk) ?_
  simp only [pins]
  refine w_seq ?_
  refine w_seq ?_
  refine w_region ?_
  refine l_cons rfl (p_move ?_)
  refine l_cons rfl (p_move ?_)
  refine l_cons rfl (p_conv in_5 in_3 ?_ (hb := wrap_i64 (n := b) (by omega) (by omega)))
  refine l_cons rfl (p_cmp ?_)
  refine l_nil ?_
  refine k_seq_normal ?_
  refine w_b (fun h1 => ?_) (fun h1 => ?_)
  · skip
    have h1' := h1; (try simp only [decide_eq_true_eq, decide_eq_false_iff_not, Bool.not_eq_true', Bool.not_false, Bool.not_true, Bool.not_eq_false'] at h1')
    refine w_skip ?_
    refine k_seq_normal ?_
    refine w_seq ?_
    refine w_block ?_
    refine w_region ?_
    refine l_cons rfl (p_move ?_)
    refine l_cons rfl (p_ixa ar_153 (a := .ptr (es.length + 1) s5 0 k.toNat) ?_ (h0 := by omega) (h1 := by omega) (ho := by simp))
    refine l_cons rfl (p_store ty_4 (r' := boolT (fun i => if i = k.toNat then true else (fun i : Nat => decide (a ≤ (i : Int)) && decide ((i : Int) < k)) i)) ?_ (hl := by simp only [boolT_len]; omega) (hr' := boolT_store (by omega)))
    refine l_nil ?_
    refine k_blk_normal ?_
    refine k_seq_normal ?_
    refine w_region ?_
    refine l_cons rfl (p_move ?_)
    refine l_cons rfl (p_arith ?_)
    refine l_cons rfl (p_assign ?_)
    refine l_nil ?_
    refine k_seq_normal ?_
    exact ⟨(b + 1 - (k + 1)).toNat, by omega, k + 1, rfl, by omega, by omega, .inl (by omega), by rw [boolT_congr (p := fun i => if i = k.toNat then true else (decide (a ≤ (i : Int)) && decide ((i : Int) < k))) (q := fun i : Nat => decide (a ≤ (i : Int)) && decide ((i : Int) < k + 1)) (fun i _ => range_step (by omega) (by omega))] <;> rfl, by simp only [Knows, put, upd_apply, Nat.reduceEqDiff, ↓reduceIte, and_true, true_and, eq_self] <;> and_intros <;> rfl⟩
  · skip
    have h1' := h1; (try simp only [decide_eq_true_eq, decide_eq_false_iff_not, Bool.not_eq_true', Bool.not_false, Bool.not_true, Bool.not_eq_false'] at h1')
    refine w_exit ?_
    refine k_seq_exit ?_
    refine k_seq_exit ?_
    refine k_blk_here ?_
    refine k_seq_normal ?_
    refine w_seq ?_
    refine w_region ?_
    refine l_cons rfl (p_loadp ty_153 (a := .agg (boolT (fun i : Nat => decide (a ≤ (i : Int)) && decide ((i : Int) < k)))) ?_ (hl := by simp only [boolT_len]; omega) (ha := boolT_all _))
    refine l_cons rfl (p_callr en_158 (refWhere (fun i : Nat => decide (a ≤ (i : Int)) && decide ((i : Int) < k))) ?_)
    refine l_cons rfl (p_store ty_26 ?_)
    refine l_nil ?_
    refine k_seq_normal ?_
    refine w_ret ?_
    rw [rangeW_of (a := a) (b := b) (k := k) (by omega)]
    exact retc rfl ty_26 (by first | exact Sub.refl _ | exact sub1 _ _ | exact sub2 _ _ _ | exact sub3 _ _ _ _ | exact sub4 _ _ _ _ _ | exact sub5 _ _ _ _ _ _) ⟨rfl, rfl⟩
theorem refNot {w0 : World} {es : List Ent} (s : W4) (hs : s.ok) : ACalls Tryd.prog w0 144 [.agg s.row] es fun v es' => v = .agg (notW s).row ∧ es' = es := by
  unfold W4.row
  refine calls1 (N := 18) Tryd.func144 rfl rfl (by decide) ?_
  refine w_seq ?_
  refine w_region ?_
  refine l_cons rfl (p_box fun s1 => ?_)
  refine l_cons rfl (p_alloc ze_26 fun s2 => ?_)
  refine l_nil ?_
  refine k_seq_normal ?_
  refine w_seq ?_
  refine w_region ?_
  refine l_cons rfl (p_alloc ze_153 fun s3 => ?_)
  refine l_nil ?_
  refine k_seq_normal ?_
  refine w_seq ?_
  refine w_seq ?_
  refine w_region ?_
  refine l_cons rfl (p_assign ?_)
  refine l_nil ?_
  refine k_seq_normal ?_
  refine w_block ?_
  refine w_loop (fun m f es' => ∃ k, m = 256 - k ∧ k ≤ 256 ∧ es' = .row s3 153 256 [boolT (fun i : Nat => decide (i < k) && !(s.has i))] :: .row s2 26 4 [[.int .u64 0, .int .u64 0, .int .u64 0, .int .u64 0]] :: .row s1 26 4 [[.int .u64 s.w0, .int .u64 s.w1, .int .u64 s.w2, .int .u64 s.w3]] :: es ∧ Knows f [(1, .ptr es.length s1 0 0), (2, .ptr (es.length + 1) s2 0 0), (3, .ptr (es.length + 2) s3 0 0), (4, .int .i64 k)]) (256) (⟨0, rfl, by omega, by rw [boolT_none (p := fun i : Nat => decide (i < 0) && !(s.has i)) (fun i _ => by simp)] <;> rfl, by simp only [Knows, put, upd_apply, Nat.reduceEqDiff, ↓reduceIte, and_true, true_and, eq_self] <;> and_intros <;> rfl⟩) ?_
  rintro m f es' ⟨k, rfl, hk1, rfl, hk⟩
  refine w_pins _ (Sub.refl _) (hk) ?_
  simp only [pins]
  refine w_seq ?_
  refine w_seq ?_
  refine w_region ?_
  refine l_cons rfl (p_move ?_)
  refine l_cons rfl (p_cmp ?_)
  refine l_nil ?_
  refine k_seq_normal ?_
  refine w_b (fun h1 => ?_) (fun h1 => ?_)
  · skip
    have h1' := h1; (try simp only [decide_eq_true_eq, decide_eq_false_iff_not, Bool.not_eq_true', Bool.not_false, Bool.not_true, Bool.not_eq_false'] at h1')
    refine w_skip ?_
    refine k_seq_normal ?_
    refine w_seq ?_
    refine w_block ?_
    refine w_region ?_
    refine l_cons rfl (p_move ?_)
    refine l_cons rfl (p_loadp ty_26 ?_)
    refine l_cons rfl (p_move ?_)
    refine l_cons rfl (p_conv in_3 in_5 ?_ (hb := wrap8 (n := (k : Int)) (by omega) (by omega)))
    refine l_cons rfl (p_callr en_55 (ref1Has s.w0 s.w1 s.w2 s.w3 (k : Int) (by omega) (by omega) hs.1 hs.2.1 hs.2.2.1 hs.2.2.2.1) ?_)
    refine l_cons rfl (p_not ?_)
    refine l_cons rfl (p_ixa ar_153 (a := .ptr (es.length + 2) s3 0 k) ?_ (h0 := by omega) (h1 := by omega) (ho := by simp))
    refine l_cons rfl (p_store ty_4 (r' := boolT (fun i => if i = k then !(s.has k) else (fun i : Nat => decide (i < k) && !(s.has i)) i)) ?_ (hl := by simp only [boolT_len]; omega) (hr' := boolT_store (by omega)))
    refine l_nil ?_
    refine k_blk_normal ?_
    refine k_seq_normal ?_
    refine w_region ?_
    refine l_cons rfl (p_move ?_)
    refine l_cons rfl (p_arith ?_)
    refine l_cons rfl (p_assign ?_)
    refine l_nil ?_
    refine k_seq_normal ?_
    exact ⟨256 - (k + 1), by omega, k + 1, rfl, by omega, by rw [boolT_congr (p := fun i => if i = k then !(s.has k) else (decide (i < k) && !(s.has i))) (q := fun i : Nat => decide (i < k + 1) && !(s.has i)) (fun i _ => not_step)] <;> rfl, by simp only [Knows, put, upd_apply, Nat.reduceEqDiff, ↓reduceIte, and_true, true_and, eq_self] <;> and_intros <;> rfl⟩
  · skip
    have h1' := h1; (try simp only [decide_eq_true_eq, decide_eq_false_iff_not, Bool.not_eq_true', Bool.not_false, Bool.not_true, Bool.not_eq_false'] at h1')
    refine w_exit ?_
    refine k_seq_exit ?_
    refine k_seq_exit ?_
    refine k_blk_here ?_
    refine k_seq_normal ?_
    refine w_seq ?_
    obtain rfl : k = 256 := by omega
    refine w_region ?_
    refine l_cons rfl (p_loadp ty_153 (a := .agg (boolT (fun i : Nat => decide (i < 256) && !(s.has i)))) ?_ (hl := by simp only [boolT_len]; omega) (ha := boolT_all _))
    refine l_cons rfl (p_callr en_158 (refWhere (fun i : Nat => decide (i < 256) && !(s.has i))) ?_)
    refine l_cons rfl (p_store ty_26 ?_)
    refine l_nil ?_
    refine k_seq_normal ?_
    refine w_ret ?_
    rw [notW_of s]
    exact retc rfl ty_26 (by first | exact Sub.refl _ | exact sub1 _ _ | exact sub2 _ _ _ | exact sub3 _ _ _ _ | exact sub4 _ _ _ _ _ | exact sub5 _ _ _ _ _ _) ⟨rfl, rfl⟩
theorem refStarN {w0 : World} : ∀ (n : Nat) (r : Rx) (es : List Ent), r.nodes ≤ n + 1 → n ≤ 1000000 → r.ok → ACalls Tryd.prog w0 41 [.agg r.cells] es fun v es' => v = .agg (starN (n + 1) r).cells ∧ es' = es := by
  intro n
  induction n using Nat.strongRecOn with
  | _ n ih => ?_
  intro r es hB hB2 ho
  rw [Rx.cells_eq r]
  have hne := r.nodes_eq
  have hal := Rx.len_le r.args
  refine calls1 (N := 52) Tryd.func41 rfl rfl (by decide) ?_
  refine w_seq ?_
  refine w_region ?_
  refine l_cons rfl (p_box fun s1 => ?_)
  refine l_cons rfl (p_alloc ze_29 fun s2 => ?_)
  refine l_nil ?_
  refine k_seq_normal ?_
  refine w_seq ?_
  refine w_seq ?_
  refine w_region ?_
  refine l_cons rfl (p_fap fa_29_0 ?_)
  refine l_cons rfl (p_loadp ty_3 ?_)
  refine l_nil ?_
  refine k_seq_normal ?_
  refine w_block ?_
  refine w_seq ?_
  refine w_region ?_
  refine l_cons rfl (p_cmp ?_)
  refine l_cons rfl (p_assign ?_)
  refine l_nil ?_
  refine k_seq_normal ?_
  refine w_b (fun h1 => ?_) (fun h1 => ?_)
  · skip
    have h1' := h1; (try simp only [decide_eq_true_eq, decide_eq_false_iff_not, Bool.not_eq_true', Bool.not_false, Bool.not_true, Bool.not_eq_false'] at h1')
    refine w_seq ?_
    refine w_region ?_
    refine l_cons rfl (p_loadp ty_29 ?_)
    refine l_cons rfl (p_callr en_63 (cells1 (refCopy _ r _ (Nat.le_refl _) (by omega))) ?_)
    refine l_cons rfl (p_store ty_29 ?_)
    refine l_nil ?_
    refine k_seq_normal ?_
    refine w_ret ?_
    refine k_blk_ret ?_
    refine k_seq_ret ?_
    rw [star_6 (by omega)]
    exact retc rfl ty_29 (by first | exact Sub.refl _ | exact sub1 _ _ | exact sub2 _ _ _ | exact sub3 _ _ _ _ | exact sub4 _ _ _ _ _ | exact sub5 _ _ _ _ _ _) ⟨rfl, rfl⟩
  · skip
    have h1' := h1; (try simp only [decide_eq_true_eq, decide_eq_false_iff_not, Bool.not_eq_true', Bool.not_false, Bool.not_true, Bool.not_eq_false'] at h1')
    refine w_seq ?_
    refine w_seq ?_
    refine w_region ?_
    refine l_cons rfl (p_cmp ?_)
    refine l_cons rfl (p_assign ?_)
    refine l_nil ?_
    refine k_seq_normal ?_
    refine w_b (fun h2 => ?_) (fun h2 => ?_)
    · skip
      have h2' := h2; (try simp only [decide_eq_true_eq, decide_eq_false_iff_not, Bool.not_eq_true', Bool.not_false, Bool.not_true, Bool.not_eq_false'] at h2')
      refine w_skip ?_
      refine k_seq_normal ?_
      refine w_t h2 ?_
      refine w_seq ?_
      refine w_region ?_
      refine l_cons rfl (p_callr en_85 (refEmpty) ?_)
      refine l_cons rfl (p_store ty_29 ?_)
      refine l_nil ?_
      refine k_seq_normal ?_
      refine w_ret ?_
      refine k_blk_ret ?_
      refine k_seq_ret ?_
      rw [star_12 (by omega)]
      exact retc rfl ty_29 (by first | exact Sub.refl _ | exact sub1 _ _ | exact sub2 _ _ _ | exact sub3 _ _ _ _ | exact sub4 _ _ _ _ _ | exact sub5 _ _ _ _ _ _) ⟨rfl, rfl⟩
    · skip
      have h2' := h2; (try simp only [decide_eq_true_eq, decide_eq_false_iff_not, Bool.not_eq_true', Bool.not_false, Bool.not_true, Bool.not_eq_false'] at h2')
      refine w_region ?_
      refine l_cons rfl (p_cmp ?_)
      refine l_cons rfl (p_assign ?_)
      refine l_nil ?_
      refine k_seq_normal ?_
      refine w_b (fun h3 => ?_) (fun h3 => ?_)
      · skip
        have h3' := h3; (try simp only [decide_eq_true_eq, decide_eq_false_iff_not, Bool.not_eq_true', Bool.not_false, Bool.not_true, Bool.not_eq_false'] at h3')
        refine w_seq ?_
        refine w_region ?_
        refine l_cons rfl (p_callr en_85 (refEmpty) ?_)
        refine l_cons rfl (p_store ty_29 ?_)
        refine l_nil ?_
        refine k_seq_normal ?_
        refine w_ret ?_
        refine k_blk_ret ?_
        refine k_seq_ret ?_
        rw [star_12 (by omega)]
        exact retc rfl ty_29 (by first | exact Sub.refl _ | exact sub1 _ _ | exact sub2 _ _ _ | exact sub3 _ _ _ _ | exact sub4 _ _ _ _ _ | exact sub5 _ _ _ _ _ _) ⟨rfl, rfl⟩
      · skip
        have h3' := h3; (try simp only [decide_eq_true_eq, decide_eq_false_iff_not, Bool.not_eq_true', Bool.not_false, Bool.not_true, Bool.not_eq_false'] at h3')
        refine w_seq ?_
        refine w_region ?_
        refine l_cons rfl (p_cmp ?_)
        refine l_cons rfl (p_assign ?_)
        refine l_nil ?_
        refine k_seq_normal ?_
        refine w_b (fun h4 => ?_) (fun h4 => ?_)
        · skip
          have h4' := h4; (try simp only [decide_eq_true_eq, decide_eq_false_iff_not, Bool.not_eq_true', Bool.not_false, Bool.not_true, Bool.not_eq_false'] at h4')
          refine w_seq ?_
          refine w_region ?_
          refine l_cons rfl (p_assign ?_)
          refine l_nil ?_
          refine k_seq_normal ?_
          refine w_seq ?_
          refine w_seq ?_
          refine w_adopt 3 29 6 rfl fun s3 => ?_
          simp only [upd_upd]
          refine w_region ?_
          refine l_cons rfl (p_assign ?_)
          refine l_nil ?_
          refine k_seq_normal ?_
          refine w_block ?_
          refine w_loop (fun m f es' => ∃ k s3, m = r.args.length - k ∧ k ≤ r.args.length ∧ es' = .row s3 29 6 ((catOuts (r.args.take k)).map Rx.cells) :: .row s2 29 6 [[.int .i64 0, .int .u64 0, .int .u64 0, .int .u64 0, .int .u64 0, .nil]] :: .row s1 29 6 [[.int .i64 r.kind, .int .u64 r.set.w0, .int .u64 r.set.w1, .int .u64 r.set.w2, .int .u64 r.set.w3, .list 6 (r.args.map Rx.cells)]] :: es ∧ Knows f [(1, .ptr es.length s1 0 0), (2, .ptr (es.length + 1) s2 0 0), (3, .own (es.length + 2) s3), (4, .int .i64 k)]) (r.args.length) (⟨0, s3, rfl, Nat.zero_le _, rfl, by simp only [Knows, put, upd_apply, Nat.reduceEqDiff, ↓reduceIte, and_true, true_and, eq_self] <;> and_intros <;> rfl⟩) ?_
          rintro m f es' ⟨k, s3, rfl, hk1, rfl, hk⟩
          refine w_pins _ (Sub.refl _) (hk) ?_
          simp only [pins]
          refine w_seq ?_
          refine w_seq ?_
          refine w_region ?_
          refine l_cons rfl (p_move ?_)
          refine l_cons rfl (p_fap fa_29_2 ?_)
          refine l_cons rfl (p_loadp ty_27 ?_)
          first | refine l_cons rfl (p_lenl sl_27 ?_) | refine l_cons rfl (p_leno sl_27 ?_) | refine l_cons rfl (p_lenn sl_27 ?_)
          refine l_cons rfl (p_cmp ?_)
          refine l_nil ?_
          refine k_seq_normal ?_
          refine w_b (fun h5 => ?_) (fun h5 => ?_)
          · skip
            have h5' := h5; (try simp only [decide_eq_true_eq, decide_eq_false_iff_not, Bool.not_eq_true', Bool.not_false, Bool.not_true, Bool.not_eq_false'] at h5')
            refine w_skip ?_
            refine k_seq_normal ?_
            refine w_seq ?_
            refine w_block ?_
            refine w_seq ?_
            refine w_region ?_
            refine l_cons rfl (p_fap fa_29_2 ?_)
            refine l_cons rfl (p_loadp ty_27 ?_)
            refine l_cons rfl (p_move ?_)
            first | refine l_cons rfl (p_ixl sl_27 ?_) | refine l_cons rfl (p_ixo sl_27 ?_)
            first | refine l_cons rfl (p_fap fa_29_0 ?_) | refine l_cons rfl (p_faf fa_29_0 ?_)
            first | refine l_cons rfl (p_loadf ty_3 ?_) | refine l_cons rfl (p_loadp ty_3 ?_)
            refine l_cons rfl (p_cmp ?_)
            refine l_nil ?_
            refine k_seq_normal ?_
            refine w_b (fun h6 => ?_) (fun h6 => ?_)
            · skip
              have h6' := h6; (try simp only [decide_eq_true_eq, decide_eq_false_iff_not, Bool.not_eq_true', Bool.not_false, Bool.not_true, Bool.not_eq_false'] at h6')
              have hcl := catOuts_nodes (r.args.take k)
              have hcl2 := Rx.len_le (catOuts (r.args.take k))
              have hcl3 := Rx.nodesL_le r.args k
              refine w_region ?_
              refine l_cons rfl (p_move ?_)
              refine l_cons rfl (p_fap fa_29_2 ?_)
              refine l_cons rfl (p_loadp ty_27 ?_)
              refine l_cons rfl (p_move ?_)
              first | refine l_cons rfl (p_ixl sl_27 ?_) | refine l_cons rfl (p_ixo sl_27 ?_)
              first | refine l_cons rfl (p_loadf ty_29 ?_) | refine l_cons rfl (p_loadp ty_29 ?_)
              refine l_cons rfl (p_buildList sl_27 ze_29 ?_)
              refine l_cons rfl (p_append sl_27 by_29 ze_29 (fun s38 => ?_) (hb := by simp only [List.length_map, List.length_take, List.length_drop, List.length_append, List.length_cons, List.length_nil, most]; omega))
              refine l_cons rfl (p_assign ?_)
              refine l_nil ?_
              refine k_blk_normal ?_
              refine k_seq_normal ?_
              refine w_region ?_
              refine l_cons rfl (p_move ?_)
              refine l_cons rfl (p_arith ?_)
              refine l_cons rfl (p_assign ?_)
              refine l_nil ?_
              refine k_seq_normal ?_
              first
              | exact ⟨r.args.length - (k + 1), by omega, k + 1, s38, rfl, by omega, by rw [catOuts_succ _ (by omega), if_neg (by simp_all), List.map_append] <;> rfl, by simp only [Knows, put, upd_apply, Nat.reduceEqDiff, ↓reduceIte, and_true, true_and, eq_self] <;> and_intros <;> rfl⟩
              | exact ⟨r.args.length - (k + 1), by omega, k + 1, s3, rfl, by omega, by rw [catOuts_succ _ (by omega), if_pos (by simp_all), List.append_nil] <;> rfl, by simp only [Knows, put, upd_apply, Nat.reduceEqDiff, ↓reduceIte, and_true, true_and, eq_self] <;> and_intros <;> rfl⟩
            · skip
              have h6' := h6; (try simp only [decide_eq_true_eq, decide_eq_false_iff_not, Bool.not_eq_true', Bool.not_false, Bool.not_true, Bool.not_eq_false'] at h6')
              refine w_skip ?_
              refine k_blk_normal ?_
              refine k_seq_normal ?_
              refine w_region ?_
              refine l_cons rfl (p_move ?_)
              refine l_cons rfl (p_arith ?_)
              refine l_cons rfl (p_assign ?_)
              refine l_nil ?_
              refine k_seq_normal ?_
              first
              | exact ⟨r.args.length - (k + 1), by omega, k + 1, s38, rfl, by omega, by rw [catOuts_succ _ (by omega), if_neg (by simp_all), List.map_append] <;> rfl, by simp only [Knows, put, upd_apply, Nat.reduceEqDiff, ↓reduceIte, and_true, true_and, eq_self] <;> and_intros <;> rfl⟩
              | exact ⟨r.args.length - (k + 1), by omega, k + 1, s3, rfl, by omega, by rw [catOuts_succ _ (by omega), if_pos (by simp_all), List.append_nil] <;> rfl, by simp only [Knows, put, upd_apply, Nat.reduceEqDiff, ↓reduceIte, and_true, true_and, eq_self] <;> and_intros <;> rfl⟩
          · skip
            have h5' := h5; (try simp only [decide_eq_true_eq, decide_eq_false_iff_not, Bool.not_eq_true', Bool.not_false, Bool.not_true, Bool.not_eq_false'] at h5')
            refine w_exit ?_
            refine k_seq_exit ?_
            refine k_seq_exit ?_
            refine k_blk_here ?_
            refine k_seq_normal ?_
            refine w_seq ?_
            refine w_freezeTop 3 ?_ (hclean := cleans_rx _)
            obtain rfl : k = r.args.length := by omega
            rw [List.take_length]
            refine w_region ?_
            refine l_cons rfl (p_move ?_)
            refine l_cons rfl (p_lenl sl_27 ?_)
            refine l_cons rfl (p_fap fa_29_2 ?_)
            refine l_cons rfl (p_loadp ty_27 ?_)
            first | refine l_cons rfl (p_lenl sl_27 ?_) | refine l_cons rfl (p_leno sl_27 ?_) | refine l_cons rfl (p_lenn sl_27 ?_)
            refine l_cons rfl (p_cmp ?_)
            refine l_nil ?_
            refine k_seq_normal ?_
            refine w_b (fun h7 => ?_) (fun h7 => ?_)
            · skip
              have h7' := h7; (try simp only [decide_eq_true_eq, decide_eq_false_iff_not, Bool.not_eq_true', Bool.not_false, Bool.not_true, Bool.not_eq_false'] at h7')
              refine w_seq ?_
              have hcs := catOuts_less (l := r.args) (by omega)
              obtain ⟨m, rfl⟩ : ∃ m, n = m + 1 := ⟨n - 1, by omega⟩
              refine w_region ?_
              refine l_cons rfl (p_move ?_)
              refine l_cons rfl (p_callr en_40 (refAlt (catOuts r.args) (fun x hx => ho.args x (catOuts_mem hx)) (by omega)) ?_)
              refine l_cons rfl (p_callr en_41 (ih m (by omega) (altR (catOuts r.args)) _ (by have := altR_nodes (catOuts r.args); omega) (by omega) (altR_ok fun x hx => ho.args x (catOuts_mem hx))) ?_)
              refine l_cons rfl (p_store ty_29 ?_)
              refine l_nil ?_
              refine k_seq_normal ?_
              refine w_ret ?_
              refine k_blk_ret ?_
              refine k_seq_ret ?_
              rw [star_alt (by omega) (by omega)]
              exact retc rfl ty_29 (by first | exact Sub.refl _ | exact sub1 _ _ | exact sub2 _ _ _ | exact sub3 _ _ _ _ | exact sub4 _ _ _ _ _ | exact sub5 _ _ _ _ _ _) ⟨rfl, rfl⟩
            · skip
              have h7' := h7; (try simp only [decide_eq_true_eq, decide_eq_false_iff_not, Bool.not_eq_true', Bool.not_false, Bool.not_true, Bool.not_eq_false'] at h7')
              refine w_skip ?_
              refine k_blk_normal ?_
              refine k_seq_normal ?_
              refine w_seq ?_
              refine w_region ?_
              refine l_cons rfl (p_loadp ty_29 ?_)
              refine l_cons rfl (p_callr en_63 (cells1 (refCopy _ r _ (Nat.le_refl _) (by omega))) ?_)
              refine l_cons rfl (p_buildList sl_27 ze_29 ?_)
              refine l_cons rfl (p_build ze_29 pl_29 ?_)
              refine l_cons rfl (p_store ty_29 ?_)
              refine l_nil ?_
              refine k_seq_normal ?_
              refine w_ret ?_
              rw [star_else (by omega) (by omega), Rx.cells_eq]
              exact retc rfl ty_29 (by first | exact Sub.refl _ | exact sub1 _ _ | exact sub2 _ _ _ | exact sub3 _ _ _ _ | exact sub4 _ _ _ _ _ | exact sub5 _ _ _ _ _ _) ⟨rfl, rfl⟩
        · skip
          have h4' := h4; (try simp only [decide_eq_true_eq, decide_eq_false_iff_not, Bool.not_eq_true', Bool.not_false, Bool.not_true, Bool.not_eq_false'] at h4')
          refine w_skip ?_
          refine k_blk_normal ?_
          refine k_seq_normal ?_
          refine w_seq ?_
          refine w_region ?_
          refine l_cons rfl (p_loadp ty_29 ?_)
          refine l_cons rfl (p_callr en_63 (cells1 (refCopy _ r _ (Nat.le_refl _) (by omega))) ?_)
          refine l_cons rfl (p_buildList sl_27 ze_29 ?_)
          refine l_cons rfl (p_build ze_29 pl_29 ?_)
          refine l_cons rfl (p_store ty_29 ?_)
          refine l_nil ?_
          refine k_seq_normal ?_
          refine w_ret ?_
          rw [star_else (by omega) (by omega), Rx.cells_eq]
          exact retc rfl ty_29 (by first | exact Sub.refl _ | exact sub1 _ _ | exact sub2 _ _ _ | exact sub3 _ _ _ _ | exact sub4 _ _ _ _ _ | exact sub5 _ _ _ _ _ _) ⟨rfl, rfl⟩
theorem refStarR {w0 : World} {es : List Ent} (r : Rx) (hn : r.nodes ≤ 2000) (ho : r.ok) : ACalls Tryd.prog w0 41 [.agg r.cells] es fun v es' => v = .agg (starR r).cells ∧ es' = es := refStarN 1999 r es hn (by omega) ho
end Go.Proofs.YtfdgbghlanbddaaDoor.Av
set_option linter.unusedVariables false
set_option linter.unusedSimpArgs false
set_option maxRecDepth 8000
namespace Go.Proofs.YtfdgbghlanbddaaDoor.Av
open Go.RowKit Go.Proofs
/-- The numbers that are left. -/
def PK (es : List Ent) (ip sp : Nat) (q : List Int) : Prop := ∃ (l : List Int) (n : Nat), n ≤ l.length ∧ q = l.drop n ∧ bytesOk l ∧ l.length ≤ 1000000 ∧ at_ es ip = some (.row sp 89 2 [[bytesAV l, .int .i64 (n : Int)]])
theorem PK.mk' {es : List Ent} {ip sp n : Nat} {l : List Int} (h1 : n ≤ l.length) (h2 : bytesOk l) (h3 : l.length ≤ 1000000) (h4 : at_ es ip = some (.row sp 89 2 [[bytesAV l, .int .i64 (n : Int)]])) : PK es ip sp (l.drop n) := ⟨l, n, h1, rfl, h2, h3, h4⟩
theorem PK.lt {es : List Ent} {ip sp : Nat} {q : List Int} (h : PK es ip sp q) : ip < es.length := by
  obtain ⟨_, _, _, _, _, _, h⟩ := h
  exact at_lt h
theorem PK.push {es : List Ent} {ip sp : Nat} {q : List Int} (x : Ent) (h : PK es ip sp q) : PK (x :: es) ip sp q := by
  obtain ⟨l, n, h1, h2, h3, h4, h5⟩ := h
  exact ⟨l, n, h1, h2, h3, h4, at_miss _ h5⟩
theorem PK.bytes {es : List Ent} {ip sp : Nat} {q : List Int} (h : PK es ip sp q) : bytesOk q := by
  obtain ⟨l, n, _, rfl, h3, _, _⟩ := h
  exact fun b hb => h3 b (List.mem_of_mem_drop hb)
/-- From es on to es': all else is al' it was. -/
def PG (es es' : List Ent) (ip sp : Nat) (q : List Int) : Prop := PK es' ip sp q ∧ (∀ id, id ≠ ip → id < es.length → at_ es' id = at_ es id) ∧ es.length ≤ es'.length
theorem PG.refl {es : List Ent} {ip sp : Nat} {q : List Int} (h : PK es ip sp q) : PG es es ip sp q := ⟨h, fun _ _ _ => rfl, Nat.le_refl _⟩
theorem PG.trans {a b c : List Ent} {ip sp : Nat} {q1 q2 : List Int} (h : PG a b ip sp q1) (k : PG b c ip sp q2) : PG a c ip sp q2 :=
  ⟨k.1, fun id h1 h2 => (k.2.1 id h1 (Nat.lt_of_lt_of_le h2 h.2.2)).trans (h.2.1 id h1 h2), Nat.le_trans h.2.2 k.2.2⟩
theorem PG.pop {x : Ent} {es es' : List Ent} {ip sp : Nat} {q : List Int} (h : PG (x :: es) es' ip sp q) (hl : ip < es.length) : PG es es' ip sp q :=
  ⟨h.1, fun id h1 h2 => (h.2.1 id h1 (by simp only [List.length_cons]; omega)).trans (at_push x h2), by have := h.2.2; simp only [List.length_cons] at this; omega⟩
theorem PG.top {x : Ent} {es es' : List Ent} {ip sp : Nat} {q : List Int} (h : PG (x :: es) es' ip sp q) (hl : ip < es.length) : at_ es' es.length = some x :=
  (h.2.1 es.length (by omega) (by simp)).trans (at_hit _ _)
theorem PG.put {es es' : List Ent} {ip sp : Nat} {q : List Int} (h : PG es es' ip sp q) {id : Nat} (hid : es.length ≤ id) (y : Ent) (hl : ip < es.length := by omega) : PG es (setAt es' id y) ip sp q := by
  obtain ⟨⟨l, n, h1, h2, h3, h4, h5⟩, h6, h7⟩ := h
  exact ⟨⟨l, n, h1, h2, h3, h4, by rw [at_setAt_ne _ (by omega)]; exact h5⟩, fun i hi1 hi2 => by rw [at_setAt_ne _ (by omega)]; exact h6 i hi1 hi2, by rw [setAt_len]; exact h7⟩
theorem PG.up {es es' : List Ent} {ip sp : Nat} {q : List Int} (x : Ent) (h : PG es es' ip sp q) : PG es (x :: es') ip sp q :=
  ⟨h.1.push x, fun id h1 h2 => (at_push x (Nat.lt_of_lt_of_le h2 h.2.2)).trans (h.2.1 id h1 h2), by have := h.2.2; simp only [List.length_cons]; omega⟩
theorem pg_next {es : List Ent} {ip sp n : Nat} {l : List Int} (h1 : n < l.length) (h2 : bytesOk l) (h3 : l.length ≤ 1000000) (h4 : at_ es ip = some (.row sp 89 2 [[bytesAV l, .int .i64 (n : Int)]])) :
    PG es (setAt es ip (.row sp 89 2 [[bytesAV l, .int .i64 ((n : Int) + 1)]])) ip sp (l.drop n).tail := by
  refine ⟨⟨l, n + 1, by omega, by rw [List.tail_drop], h2, h3, at_setAt_same _ h4⟩, fun id h _ => at_setAt_ne _ h, by rw [setAt_len]; exact Nat.le_refl _⟩
theorem num_end {l : List Int} {n : Nat} {m : Int} (h : l.length ≤ n) : num m (l.drop n) = 0 := by
  rw [List.drop_eq_nil_of_le h]
  simp [num]
theorem num_at {l : List Int} {n : Nat} {m : Int} (h : n < l.length) : num m (l.drop n) = l[n] % m := by
  rw [drop_cons h]
  rfl
theorem rem_pos {x m : Int} (h0 : 0 ≤ x) (hm : 0 < m) : arithI .rem .i64 x m = some (x % m) := by
  have : x.tmod m = x % m := Int.tmod_eq_emod_of_nonneg h0
  simp only [arithI, this]
  rw [if_neg (by omega)]
theorem row_u8 {l : List Int} {k : Nat} (h : k < l.length) : (l.map fun n => [AV.int .u8 n])[k]? = some [.int .u8 l[k]] := by simp [h]
theorem one_byte {b : Int} (h : 0 ≤ b ∧ b < 256) : ∀ x ∈ [b], 0 ≤ x ∧ x < 256 := fun x hx => by
  simp only [List.mem_cons, List.not_mem_nil, or_false] at hx
  omega
theorem three_bytes {a b c : Int} (h0 : 0 ≤ a ∧ a < 256) (h1 : 0 ≤ b ∧ b < 256) (h2 : 0 ≤ c ∧ c < 256) : ∀ x ∈ [a, b, c], 0 ≤ x ∧ x < 256 := fun x hx => by
  simp only [List.mem_cons, List.not_mem_nil, or_false] at hx
  omega
theorem pSet_0 {q : List Int} (h : num 8 q = 0) : pSet q = (rangeW 97 100, q.tail) := by unfold pSet; rw [if_pos h]
theorem pSet_1 {q : List Int} (h : num 8 q = 1) : pSet q = (rangeW (num 256 q.tail) (num 256 q.tail.tail), q.tail.tail.tail) := by unfold pSet; rw [if_neg (by omega), if_pos h]
theorem pSet_2 {q : List Int} (h : num 8 q = 2) : pSet q = (notW (ofW [97 + num 4 q.tail]), q.tail.tail) := by unfold pSet; rw [if_neg (by omega), if_neg (by omega), if_pos h]
theorem pSet_3 {q : List Int} (h : num 8 q = 3) : pSet q = (ofW [97 + num 4 q.tail, 97 + num 4 q.tail.tail, num 256 q.tail.tail.tail], q.tail.tail.tail.tail) := by unfold pSet; rw [if_neg (by omega), if_neg (by omega), if_neg (by omega), if_pos h]
theorem pSet_4 {q : List Int} (h : num 8 q = 4) : pSet q = (rangeW 0 255, q.tail) := by unfold pSet; rw [if_neg (by omega), if_neg (by omega), if_neg (by omega), if_neg (by omega), if_pos h]
theorem pSet_5 {q : List Int} (h : ¬ num 8 q = 0 ∧ ¬ num 8 q = 1 ∧ ¬ num 8 q = 2 ∧ ¬ num 8 q = 3 ∧ ¬ num 8 q = 4) : pSet q = (ofW [97 + num 4 q.tail], q.tail.tail) := by unfold pSet; rw [if_neg (by omega), if_neg (by omega), if_neg (by omega), if_neg (by omega), if_neg (by omega)]
theorem num_walk {w0 : World} {es : List Ent} {ip sp : Nat} {q : List Int} (m : Int) (hm : 0 < m) (h : PK es ip sp q) : ACalls Tryd.prog w0 70 [.ptr ip sp 0 0, .int .i64 m] es fun v es' => v = .int .i64 (num m q) ∧ PG es es' ip sp q.tail := by
  obtain ⟨l, n, hnl, rfl, hbl, hll, hp⟩ := h
  have hq0 := PK.mk' hnl hbl hll hp
  refine calls2 (N := 36) Tryd.func70 rfl rfl (by decide) ?_
  refine w_seq ?_
  refine w_region ?_
  refine l_cons rfl (p_assign ?_)
  refine l_nil ?_
  refine k_seq_normal ?_
  refine w_seq ?_
  refine w_seq ?_
  refine w_drawn 9 [] (fun e => at_ e ip = some (.row sp 89 2 [[bytesAV l, .int .i64 (n : Int)]])) mixed (by kernel_rfl) hp ?_
  refine q1 0 (hg := rfl) (hu := rfl) (h := by rintro f _ hG; exact p_move ⟨rfl, rfl⟩) (k := ?_)
  first | refine q1 5 (hg := rfl) (hu := rfl) (h := by rintro f _ hG; exact p_ncp ⟨rfl, rfl⟩) (k := ?_) | refine q1 5 (hg := rfl) (hu := rfl) (h := by rintro f _ hG; exact p_ncf ⟨rfl, rfl⟩) (k := ?_)
  refine q1 6 (hg := rfl) (hu := rfl) (h := by rintro f _ hG; exact p_fap fa_89_1 ⟨rfl, rfl⟩) (k := ?_)
  refine q1 7 (hg := rfl) (hu := rfl) (h := by rintro f _ hG; exact p_loadp ty_3 ⟨rfl, rfl⟩) (k := ?_)
  refine q1 0 (hg := rfl) (hu := rfl) (h := by rintro f _ hG; exact p_move ⟨rfl, rfl⟩) (k := ?_)
  first | refine q1 9 (hg := rfl) (hu := rfl) (h := by rintro f _ hG; exact p_ncp ⟨rfl, rfl⟩) (k := ?_) | refine q1 9 (hg := rfl) (hu := rfl) (h := by rintro f _ hG; exact p_ncf ⟨rfl, rfl⟩) (k := ?_)
  refine q1 10 (hg := rfl) (hu := rfl) (h := by rintro f _ hG; exact p_fap fa_89_0 ⟨rfl, rfl⟩) (k := ?_)
  refine q1 11 (hg := rfl) (hu := rfl) (h := by rintro f _ hG; exact p_loadp ty_22 (a := .list 1 (l.map fun n => [.int .u8 n])) ⟨rfl, rfl⟩) (k := ?_)
  refine q1 12 (hg := rfl) (hu := rfl) (h := by rintro f _ hG; exact p_lenl sl_22 ⟨rfl, rfl⟩) (k := ?_)
  refine q_end ?_
  refine m_end ?_
  refine l_cons rfl (p_cmp ?_)
  refine l_nil ?_
  refine k_seq_normal ?_
  refine w_b (fun h1 => ?_) (fun h1 => ?_)
  · skip
    have h1' := h1; (try simp only [decide_eq_true_eq, decide_eq_false_iff_not, Bool.not_eq_true', Bool.not_false, Bool.not_true, Bool.not_eq_false'] at h1')
    refine w_seq ?_
    refine w_region ?_
    refine l_cons rfl (p_assign ?_)
    refine l_nil ?_
    refine k_seq_normal ?_
    refine w_ret ?_
    refine k_seq_ret ?_
    exact ret1 rfl (by simp only [ev_tmp, ev_const, ev_func, ofConst_int, ofConst_bool, ofConst_str, ofConst_nil, upd_apply, Nat.reduceEqDiff, ↓reduceIte] <;> exact rfl) (Sub.refl _) ⟨by rw [num_end (by omega)], by rw [List.drop_eq_nil_of_le (by omega)] at hq0 ⊢; exact PG.refl hq0⟩
  · skip
    have h1' := h1; (try simp only [decide_eq_true_eq, decide_eq_false_iff_not, Bool.not_eq_true', Bool.not_false, Bool.not_true, Bool.not_eq_false'] at h1')
    refine w_skip ?_
    refine k_seq_normal ?_
    refine w_seq ?_
    refine w_region ?_
    refine l_cons rfl (p_move ?_)
    first | refine l_cons rfl (p_ncp ?_) | refine l_cons rfl (p_ncf ?_)
    refine l_cons rfl (p_fap fa_89_1 ?_)
    refine l_cons rfl (p_loadp ty_3 ?_)
    refine l_cons rfl (p_arith ?_)
    first | refine l_cons rfl (p_ncp ?_) | refine l_cons rfl (p_ncf ?_)
    refine l_cons rfl (p_fap fa_89_1 ?_)
    refine l_cons rfl (p_store ty_3 ?_)
    have hp2 := at_setAt_same (.row sp 89 2 [[bytesAV l, .int .i64 ((n : Int) + 1)]]) hp
    refine l_nil ?_
    refine k_seq_normal ?_
    refine w_seq ?_
    refine w_drawn 13 [] (fun e => at_ e ip = some (.row sp 89 2 [[bytesAV l, .int .i64 ((n : Int) + 1)]])) mixed (by kernel_rfl) hp2 ?_
    refine q1 0 (hg := rfl) (hu := rfl) (h := by rintro f _ hG; exact p_move ⟨rfl, rfl⟩) (k := ?_)
    first | refine q1 22 (hg := rfl) (hu := rfl) (h := by rintro f _ hG; exact p_ncp ⟨rfl, rfl⟩) (k := ?_) | refine q1 22 (hg := rfl) (hu := rfl) (h := by rintro f _ hG; exact p_ncf ⟨rfl, rfl⟩) (k := ?_)
    refine q1 23 (hg := rfl) (hu := rfl) (h := by rintro f _ hG; exact p_fap fa_89_0 ⟨rfl, rfl⟩) (k := ?_)
    refine q1 24 (hg := rfl) (hu := rfl) (h := by rintro f _ hG; exact p_loadp ty_22 (a := .list 1 (l.map fun n => [.int .u8 n])) ⟨rfl, rfl⟩) (k := ?_)
    refine q1 0 (hg := rfl) (hu := rfl) (h := by rintro f _ hG; exact p_move ⟨rfl, rfl⟩) (k := ?_)
    first | refine q1 26 (hg := rfl) (hu := rfl) (h := by rintro f _ hG; exact p_ncp ⟨rfl, rfl⟩) (k := ?_) | refine q1 26 (hg := rfl) (hu := rfl) (h := by rintro f _ hG; exact p_ncf ⟨rfl, rfl⟩) (k := ?_)
    refine q1 27 (hg := rfl) (hu := rfl) (h := by rintro f _ hG; exact p_fap fa_89_1 ⟨rfl, rfl⟩) (k := ?_)
    refine q1 28 (hg := rfl) (hu := rfl) (h := by rintro f _ hG; exact p_loadp ty_3 ⟨rfl, rfl⟩) (k := ?_)
    refine q1 29 (hg := rfl) (hu := rfl) (h := by rintro f _ hG; exact p_arith ⟨rfl, rfl⟩) (k := ?_)
    refine q2 25 30 (hg := rfl) (hu := rfl) (h := by rintro f _ hG; exact p_ixl sl_22 (a := .fptr 1 (l.map fun n => [.int .u8 n]) n 0) ⟨rfl, rfl⟩ (h0 := by omega) (h1 := by simp only [List.length_map]; omega) (ho := by congr 1; omega)) (k := ?_)
    refine q1 31 (hg := rfl) (hu := rfl) (h := by rintro f _ hG; exact p_loadf ty_5 (a := .int .u8 (l[n]'(by omega))) ⟨rfl, rfl⟩ (hr := row_u8 (by omega)) (hl := Nat.le_refl 1) (ha := rfl)) (k := ?_)
    refine q1 32 (hg := rfl) (hu := rfl) (h := by rintro f _ hG; exact p_conv in_5 in_3 ⟨rfl, rfl⟩ (hb := wrap_i64 (n := l[n]'(by omega)) (by have := hbl _ (List.getElem_mem (l := l) (n := n) (by omega)); omega) (by have := hbl _ (List.getElem_mem (l := l) (n := n) (by omega)); omega))) (k := ?_)
    refine q1 1 (hg := rfl) (hu := rfl) (h := by rintro f _ hG; exact p_move ⟨rfl, rfl⟩) (k := ?_)
    refine q_end ?_
    refine m_end ?_
    refine l_cons rfl (p_arith ?_ (hb := rem_pos (hbl _ (List.getElem_mem (l := l) (n := n) (by omega))).1 hm))
    refine l_cons rfl (p_assign ?_)
    refine l_nil ?_
    refine k_seq_normal ?_
    refine w_ret ?_
    exact ret1 rfl (by simp only [ev_tmp, ev_const, ev_func, ofConst_int, ofConst_bool, ofConst_str, ofConst_nil, upd_apply, Nat.reduceEqDiff, ↓reduceIte] <;> exact rfl) (Sub.refl _) ⟨by rw [num_at (by omega)], pg_next (by omega) hbl hll hp⟩
theorem over_walk {w0 : World} {es : List Ent} {ip sp : Nat} {q : List Int} (h : PK es ip sp q) : ACalls Tryd.prog w0 106 [.ptr ip sp 0 0] es fun v es' => v = .bool (decide (q = [])) ∧ es' = es := by
  obtain ⟨l, n, hnl, rfl, hbl, hll, hp⟩ := h
  refine calls1 (N := 13) Tryd.func106 rfl rfl (by decide) ?_
  refine w_seq ?_
  refine w_region ?_
  refine l_cons rfl (p_assign ?_)
  refine l_nil ?_
  refine k_seq_normal ?_
  refine w_seq ?_
  refine w_drawn 9 [] (fun e => at_ e ip = some (.row sp 89 2 [[bytesAV l, .int .i64 (n : Int)]])) mixed (by kernel_rfl) hp ?_
  refine q1 0 (hg := rfl) (hu := rfl) (h := by rintro f _ hG; exact p_move ⟨rfl, rfl⟩) (k := ?_)
  first | refine q1 3 (hg := rfl) (hu := rfl) (h := by rintro f _ hG; exact p_ncp ⟨rfl, rfl⟩) (k := ?_) | refine q1 3 (hg := rfl) (hu := rfl) (h := by rintro f _ hG; exact p_ncf ⟨rfl, rfl⟩) (k := ?_)
  refine q1 4 (hg := rfl) (hu := rfl) (h := by rintro f _ hG; exact p_fap fa_89_1 ⟨rfl, rfl⟩) (k := ?_)
  refine q1 5 (hg := rfl) (hu := rfl) (h := by rintro f _ hG; exact p_loadp ty_3 ⟨rfl, rfl⟩) (k := ?_)
  refine q1 0 (hg := rfl) (hu := rfl) (h := by rintro f _ hG; exact p_move ⟨rfl, rfl⟩) (k := ?_)
  first | refine q1 7 (hg := rfl) (hu := rfl) (h := by rintro f _ hG; exact p_ncp ⟨rfl, rfl⟩) (k := ?_) | refine q1 7 (hg := rfl) (hu := rfl) (h := by rintro f _ hG; exact p_ncf ⟨rfl, rfl⟩) (k := ?_)
  refine q1 8 (hg := rfl) (hu := rfl) (h := by rintro f _ hG; exact p_fap fa_89_0 ⟨rfl, rfl⟩) (k := ?_)
  refine q1 9 (hg := rfl) (hu := rfl) (h := by rintro f _ hG; exact p_loadp ty_22 (a := .list 1 (l.map fun n => [.int .u8 n])) ⟨rfl, rfl⟩) (k := ?_)
  refine q1 10 (hg := rfl) (hu := rfl) (h := by rintro f _ hG; exact p_lenl sl_22 ⟨rfl, rfl⟩) (k := ?_)
  refine q_end ?_
  refine m_end ?_
  refine l_cons rfl (p_cmp ?_)
  refine l_cons rfl (p_assign ?_)
  refine l_nil ?_
  refine k_seq_normal ?_
  refine w_ret ?_
  exact ret1 rfl (by simp only [ev_tmp, ev_const, ev_func, ofConst_int, ofConst_bool, ofConst_str, ofConst_nil, upd_apply, Nat.reduceEqDiff, ↓reduceIte] <;> exact rfl) (Sub.refl _) ⟨by congr 1; rw [decide_eq_decide, List.drop_eq_nil_iff]; omega, rfl⟩
theorem made_walk {w0 : World} {es : List Ent} (l : List Int) (hl : l.length ≤ 1000000) (hb : bytesOk l) : ACalls Tryd.prog w0 24 [bytesAV l] es fun v es' => ∃ s, v = .ptr es.length s 0 0 ∧ es' = .row s 89 2 [[bytesAV l, .int .i64 0]] :: es := by
  refine calls1 (N := 6) Tryd.func24 rfl rfl (by decide) ?_
  refine w_seq ?_
  refine w_region ?_
  refine l_cons rfl (p_assign ?_)
  refine l_nil ?_
  refine k_seq_normal ?_
  refine w_seq ?_
  refine w_region ?_
  refine l_cons rfl (p_move ?_)
  refine l_cons rfl (p_build ze_89 pl_89 ?_)
  refine l_cons rfl (p_box fun s5 => ?_)
  refine l_cons rfl (p_assign ?_)
  refine l_nil ?_
  refine k_seq_normal ?_
  refine w_ret ?_
  exact ret1 rfl (by simp only [ev_tmp, ev_const, ev_func, ofConst_int, ofConst_bool, ofConst_str, ofConst_nil, upd_apply, Nat.reduceEqDiff, ↓reduceIte] <;> exact rfl) (Sub.refl _) ⟨_, rfl, rfl⟩
theorem set_walk {w0 : World} {es : List Ent} {ip sp : Nat} {q : List Int} (h : PK es ip sp q) : ACalls Tryd.prog w0 107 [.ptr ip sp 0 0] es fun v es' => v = .agg (pSet q).1.row ∧ PG es es' ip sp (pSet q).2 := by
  have hipl := h.lt
  refine calls1 (N := 50) Tryd.func107 rfl rfl (by decide) ?_
  refine w_seq ?_
  refine w_region ?_
  refine l_cons rfl (p_alloc ze_26 fun s2 => ?_)
  refine l_nil ?_
  refine k_seq_normal ?_
  refine w_seq ?_
  refine w_seq ?_
  refine w_region ?_
  refine l_cons rfl (p_move ?_)
  refine l_cons rfl (p_call en_70 ((num_walk 8 (by omega) (h.push _)).mono ?_))
  rintro _ es1 ⟨rfl, hg1⟩
  have hn1 := num_range (q := q) (m := 8) (by omega)
  have hgt := hg1
  have hs2 := hgt.top hipl
  refine l_nil ?_
  refine k_seq_normal ?_
  refine w_block ?_
  refine w_seq ?_
  refine w_region ?_
  refine l_cons rfl (p_cmp ?_)
  refine l_cons rfl (p_assign ?_)
  refine l_nil ?_
  refine k_seq_normal ?_
  refine w_b (fun h1 => ?_) (fun h1 => ?_)
  · skip
    have h1' := h1; (try simp only [decide_eq_true_eq, decide_eq_false_iff_not, Bool.not_eq_true', Bool.not_false, Bool.not_true, Bool.not_eq_false'] at h1')
    refine w_seq ?_
    refine w_region ?_
    refine l_cons rfl (p_callr en_143 (refRange 97 100 (by omega) (by omega)) ?_)
    refine l_cons rfl (p_store ty_26 ?_)
    refine l_nil ?_
    refine k_seq_normal ?_
    refine w_ret ?_
    refine k_blk_ret ?_
    refine k_seq_ret ?_
    rw [pSet_0 (by omega)]
    exact retc (he := loc_base (at_setAt_same _ hs2)) rfl ty_26 (Sub.refl _) ⟨rfl, (hgt.pop hipl).put (Nat.le_refl _) _⟩
  · skip
    have h1' := h1; (try simp only [decide_eq_true_eq, decide_eq_false_iff_not, Bool.not_eq_true', Bool.not_false, Bool.not_true, Bool.not_eq_false'] at h1')
    refine w_seq ?_
    refine w_region ?_
    refine l_cons rfl (p_cmp ?_)
    refine l_cons rfl (p_assign ?_)
    refine l_nil ?_
    refine k_seq_normal ?_
    refine w_b (fun h2 => ?_) (fun h2 => ?_)
    · skip
      have h2' := h2; (try simp only [decide_eq_true_eq, decide_eq_false_iff_not, Bool.not_eq_true', Bool.not_false, Bool.not_true, Bool.not_eq_false'] at h2')
      refine w_seq ?_
      refine w_region ?_
      refine l_cons rfl (p_move ?_)
      refine l_cons rfl (p_call en_70 ((num_walk 256 (by omega) hgt.1).mono ?_))
      rintro _ es2 ⟨rfl, hg2⟩
      have hn2 := num_range (q := q.tail) (m := 256) (by omega)
      replace hgt := hgt.trans hg2
      have hs2 := hgt.top hipl
      refine l_cons rfl (p_conv in_3 in_5 ?_ (hb := wrap8 (n := num 256 q.tail) (by omega) (by omega)))
      refine l_cons rfl (p_move ?_)
      refine l_cons rfl (p_call en_70 ((num_walk 256 (by omega) hgt.1).mono ?_))
      rintro _ es3 ⟨rfl, hg3⟩
      have hn3 := num_range (q := q.tail.tail) (m := 256) (by omega)
      replace hgt := hgt.trans hg3
      have hs2 := hgt.top hipl
      refine l_cons rfl (p_conv in_3 in_5 ?_ (hb := wrap8 (n := num 256 q.tail.tail) (by omega) (by omega)))
      refine l_cons rfl (p_callr en_143 (refRange (num 256 q.tail) (num 256 q.tail.tail) hn2 hn3) ?_)
      refine l_cons rfl (p_store ty_26 ?_)
      refine l_nil ?_
      refine k_seq_normal ?_
      refine w_ret ?_
      refine k_blk_ret ?_
      refine k_seq_ret ?_
      rw [pSet_1 (by omega)]
      exact retc (he := loc_base (at_setAt_same _ hs2)) rfl ty_26 (Sub.refl _) ⟨rfl, (hgt.pop hipl).put (Nat.le_refl _) _⟩
    · skip
      have h2' := h2; (try simp only [decide_eq_true_eq, decide_eq_false_iff_not, Bool.not_eq_true', Bool.not_false, Bool.not_true, Bool.not_eq_false'] at h2')
      refine w_seq ?_
      refine w_region ?_
      refine l_cons rfl (p_cmp ?_)
      refine l_cons rfl (p_assign ?_)
      refine l_nil ?_
      refine k_seq_normal ?_
      refine w_b (fun h3 => ?_) (fun h3 => ?_)
      · skip
        have h3' := h3; (try simp only [decide_eq_true_eq, decide_eq_false_iff_not, Bool.not_eq_true', Bool.not_false, Bool.not_true, Bool.not_eq_false'] at h3')
        refine w_seq ?_
        refine w_region ?_
        refine l_cons rfl (p_move ?_)
        refine l_cons rfl (p_call en_70 ((num_walk 4 (by omega) hgt.1).mono ?_))
        rintro _ es2 ⟨rfl, hg2⟩
        have hn2 := num_range (q := q.tail) (m := 4) (by omega)
        replace hgt := hgt.trans hg2
        have hs2 := hgt.top hipl
        refine l_cons rfl (p_arith ?_)
        refine l_cons rfl (p_conv in_3 in_5 ?_ (hb := wrap8 (n := 97 + num 4 q.tail) (by omega) (by omega)))
        refine l_cons rfl (p_buildList sl_22 ze_5 ?_)
        refine l_cons rfl (p_callr en_68 (refOf [97 + num 4 q.tail] (one_byte (by omega))) ?_)
        refine l_cons rfl (p_callr en_144 (refNot (ofW [97 + num 4 q.tail]) (ofW_one (by omega) (by omega))) ?_)
        refine l_cons rfl (p_store ty_26 ?_)
        refine l_nil ?_
        refine k_seq_normal ?_
        refine w_ret ?_
        refine k_blk_ret ?_
        refine k_seq_ret ?_
        rw [pSet_2 (by omega)]
        exact retc (he := loc_base (at_setAt_same _ hs2)) rfl ty_26 (Sub.refl _) ⟨rfl, (hgt.pop hipl).put (Nat.le_refl _) _⟩
      · skip
        have h3' := h3; (try simp only [decide_eq_true_eq, decide_eq_false_iff_not, Bool.not_eq_true', Bool.not_false, Bool.not_true, Bool.not_eq_false'] at h3')
        refine w_seq ?_
        refine w_region ?_
        refine l_cons rfl (p_cmp ?_)
        refine l_cons rfl (p_assign ?_)
        refine l_nil ?_
        refine k_seq_normal ?_
        refine w_b (fun h4 => ?_) (fun h4 => ?_)
        · skip
          have h4' := h4; (try simp only [decide_eq_true_eq, decide_eq_false_iff_not, Bool.not_eq_true', Bool.not_false, Bool.not_true, Bool.not_eq_false'] at h4')
          refine w_seq ?_
          refine w_region ?_
          refine l_cons rfl (p_move ?_)
          refine l_cons rfl (p_call en_70 ((num_walk 4 (by omega) hgt.1).mono ?_))
          rintro _ es2 ⟨rfl, hg2⟩
          have hn2 := num_range (q := q.tail) (m := 4) (by omega)
          replace hgt := hgt.trans hg2
          have hs2 := hgt.top hipl
          refine l_cons rfl (p_arith ?_)
          refine l_cons rfl (p_conv in_3 in_5 ?_ (hb := wrap8 (n := 97 + num 4 q.tail) (by omega) (by omega)))
          refine l_cons rfl (p_move ?_)
          refine l_cons rfl (p_call en_70 ((num_walk 4 (by omega) hgt.1).mono ?_))
          rintro _ es3 ⟨rfl, hg3⟩
          have hn3 := num_range (q := q.tail.tail) (m := 4) (by omega)
          replace hgt := hgt.trans hg3
          have hs2 := hgt.top hipl
          refine l_cons rfl (p_arith ?_)
          refine l_cons rfl (p_conv in_3 in_5 ?_ (hb := wrap8 (n := 97 + num 4 q.tail.tail) (by omega) (by omega)))
          refine l_cons rfl (p_move ?_)
          refine l_cons rfl (p_call en_70 ((num_walk 256 (by omega) hgt.1).mono ?_))
          rintro _ es4 ⟨rfl, hg4⟩
          have hn4 := num_range (q := q.tail.tail.tail) (m := 256) (by omega)
          replace hgt := hgt.trans hg4
          have hs2 := hgt.top hipl
          refine l_cons rfl (p_conv in_3 in_5 ?_ (hb := wrap8 (n := num 256 q.tail.tail.tail) (by omega) (by omega)))
          refine l_cons rfl (p_buildList sl_22 ze_5 ?_)
          refine l_cons rfl (p_callr en_68 (refOf [97 + num 4 q.tail, 97 + num 4 q.tail.tail, num 256 q.tail.tail.tail] (three_bytes (by omega) (by omega) (by omega))) ?_)
          refine l_cons rfl (p_store ty_26 ?_)
          refine l_nil ?_
          refine k_seq_normal ?_
          refine w_ret ?_
          refine k_blk_ret ?_
          refine k_seq_ret ?_
          rw [pSet_3 (by omega)]
          exact retc (he := loc_base (at_setAt_same _ hs2)) rfl ty_26 (Sub.refl _) ⟨rfl, (hgt.pop hipl).put (Nat.le_refl _) _⟩
        · skip
          have h4' := h4; (try simp only [decide_eq_true_eq, decide_eq_false_iff_not, Bool.not_eq_true', Bool.not_false, Bool.not_true, Bool.not_eq_false'] at h4')
          refine w_seq ?_
          refine w_region ?_
          refine l_cons rfl (p_cmp ?_)
          refine l_cons rfl (p_assign ?_)
          refine l_nil ?_
          refine k_seq_normal ?_
          refine w_b (fun h5 => ?_) (fun h5 => ?_)
          · skip
            have h5' := h5; (try simp only [decide_eq_true_eq, decide_eq_false_iff_not, Bool.not_eq_true', Bool.not_false, Bool.not_true, Bool.not_eq_false'] at h5')
            refine w_seq ?_
            refine w_region ?_
            refine l_cons rfl (p_callr en_143 (refRange 0 255 (by omega) (by omega)) ?_)
            refine l_cons rfl (p_store ty_26 ?_)
            refine l_nil ?_
            refine k_seq_normal ?_
            refine w_ret ?_
            refine k_blk_ret ?_
            refine k_seq_ret ?_
            rw [pSet_4 (by omega)]
            exact retc (he := loc_base (at_setAt_same _ hs2)) rfl ty_26 (Sub.refl _) ⟨rfl, (hgt.pop hipl).put (Nat.le_refl _) _⟩
          · skip
            have h5' := h5; (try simp only [decide_eq_true_eq, decide_eq_false_iff_not, Bool.not_eq_true', Bool.not_false, Bool.not_true, Bool.not_eq_false'] at h5')
            refine w_skip ?_
            refine k_blk_normal ?_
            refine k_seq_normal ?_
            refine w_seq ?_
            refine w_region ?_
            refine l_cons rfl (p_move ?_)
            refine l_cons rfl (p_call en_70 ((num_walk 4 (by omega) hgt.1).mono ?_))
            rintro _ es2 ⟨rfl, hg2⟩
            have hn2 := num_range (q := q.tail) (m := 4) (by omega)
            replace hgt := hgt.trans hg2
            have hs2 := hgt.top hipl
            refine l_cons rfl (p_arith ?_)
            refine l_cons rfl (p_conv in_3 in_5 ?_ (hb := wrap8 (n := 97 + num 4 q.tail) (by omega) (by omega)))
            refine l_cons rfl (p_buildList sl_22 ze_5 ?_)
            refine l_cons rfl (p_callr en_68 (refOf [97 + num 4 q.tail] (one_byte (by omega))) ?_)
            refine l_cons rfl (p_store ty_26 ?_)
            refine l_nil ?_
            refine k_seq_normal ?_
            refine w_ret ?_
            rw [pSet_5 (by omega)]
            exact retc (he := loc_base (at_setAt_same _ hs2)) rfl ty_26 (Sub.refl _) ⟨rfl, (hgt.pop hipl).put (Nat.le_refl _) _⟩
end Go.Proofs.YtfdgbghlanbddaaDoor.Av
set_option linter.unusedVariables false
set_option linter.unusedSimpArgs false
set_option maxRecDepth 8000
namespace Go.Proofs.YtfdgbghlanbddaaDoor.Av
open Go.RowKit Go.Proofs
theorem pRx_leaf {f : Nat} {q : List Int} (h : f = 0 ∨ q.tail = [] ∨ num 9 q < 3) : pRx f q = pLeaf (num 9 q) q.tail := by
  cases f with
  | zero => rfl
  | succ f => rw [pRx, if_pos (h.resolve_left (by omega))]
theorem pRx_cat {g : Nat} {q : List Int} (h : ¬ q.tail = []) (hk : num 9 q = 3 ∨ num 9 q = 4 ∨ num 9 q = 5) : pRx (g + 1) q = (catR [(pRx g q.tail).1, (pRx g (pRx g q.tail).2).1], (pRx g (pRx g q.tail).2).2) := by
  rw [pRx, if_neg (by rintro (e | e); exact h e; omega), if_pos hk]
theorem pRx_alt {g : Nat} {q : List Int} (h : ¬ q.tail = []) (hk : num 9 q = 6 ∨ num 9 q = 7) : pRx (g + 1) q = (altR [(pRx g q.tail).1, (pRx g (pRx g q.tail).2).1], (pRx g (pRx g q.tail).2).2) := by
  rw [pRx, if_neg (by rintro (e | e); exact h e; omega), if_neg (by omega), if_pos hk]
theorem pRx_star {g : Nat} {q : List Int} (h : ¬ q.tail = []) (hk : ¬ num 9 q < 3 ∧ ¬ (num 9 q = 3 ∨ num 9 q = 4 ∨ num 9 q = 5) ∧ ¬ (num 9 q = 6 ∨ num 9 q = 7)) : pRx (g + 1) q = (starR (pRx g q.tail).1, (pRx g q.tail).2) := by
  rw [pRx, if_neg (by rintro (e | e); exact h e; omega), if_neg (by omega), if_neg (by omega)]
theorem pLeaf_set {k : Int} {q : List Int} (h : q = [] ∨ 0 < k) : pLeaf k q = (bytesR (pSet q).1, (pSet q).2) := by unfold pLeaf; rw [if_pos h]
theorem pLeaf_none {k : Int} {q : List Int} (h : ¬ q = []) (hk : ¬ 0 < k) (hn : num 3 q = 0) : pLeaf k q = (noneR, q.tail) := by unfold pLeaf; rw [if_neg (by rintro (e | e); exact h e; omega), if_pos hn]
theorem pLeaf_empty {k : Int} {q : List Int} (h : ¬ q = []) (hk : ¬ 0 < k) (hn : ¬ num 3 q = 0) : pLeaf k q = (emptyR, q.tail) := by unfold pLeaf; rw [if_neg (by rintro (e | e); exact h e; omega), if_neg hn]
theorem rx_walk {w0 : World} : ∀ f : Nat, f ≤ 9 → ∀ (es : List Ent) (ip sp : Nat) (q : List Int) (deep : Int), deep = 9 - f → PK es ip sp q → ACalls Tryd.prog w0 69 [.ptr ip sp 0 0, .int .i64 deep] es fun v es' => v = .agg (pRx f q).1.cells ∧ PG es es' ip sp (pRx f q).2 := by
  intro f
  induction f using Nat.strongRecOn with
  | _ f ih => ?_
  intro hf9 es ip sp q deep hdeep h
  have hipl := h.lt
  have hqb := h.bytes
  refine calls2 (N := 63) Tryd.func69 rfl rfl (by decide) ?_
  refine w_seq ?_
  refine w_region ?_
  refine l_cons rfl (p_alloc ze_29 fun s4 => ?_)
  refine l_nil ?_
  refine k_seq_normal ?_
  refine w_seq ?_
  refine w_region ?_
  refine l_cons rfl (p_move ?_)
  refine l_cons rfl (p_call en_70 ((num_walk 9 (by omega) (h.push _)).mono ?_))
  rintro _ es1 ⟨rfl, hgt⟩
  have hn1 := num_range (q := q) (m := 9) (by omega)
  have hs4 := hgt.top hipl
  refine l_cons rfl (p_assign ?_)
  refine l_nil ?_
  refine k_seq_normal ?_
  refine w_seq ?_
  refine w_seq ?_
  refine w_region ?_
  refine l_cons rfl (p_move ?_)
  refine l_cons rfl (p_callr en_106 (over_walk hgt.1) ?_)
  refine l_cons rfl (p_move ?_)
  refine g_b rfl (fun h1 => ?_) (fun h1 => ?_)
  · skip
    have h1' := h1; (try simp only [decide_eq_true_eq, decide_eq_false_iff_not, Bool.not_eq_true', Bool.not_false, Bool.not_true, Bool.not_eq_false'] at h1')
    refine (p_move ?_)
    refine g_y rfl h1 (p_cmp ?_)
    refine l_cons rfl (p_pickf h1 ?_)
    refine l_cons rfl (p_move ?_)
    refine g_b rfl (fun h2 => ?_) (fun h2 => ?_)
    · skip
      have h2' := h2; (try simp only [decide_eq_true_eq, decide_eq_false_iff_not, Bool.not_eq_true', Bool.not_false, Bool.not_true, Bool.not_eq_false'] at h2')
      refine (p_move ?_)
      refine g_y rfl h2 (p_cmp ?_)
      refine l_cons rfl (p_pickf h2 ?_)
      refine l_nil ?_
      refine k_seq_normal ?_
      refine w_b (fun h3 => ?_) (fun h3 => ?_)
      · skip
        have h3' := h3; (try simp only [decide_eq_true_eq, decide_eq_false_iff_not, Bool.not_eq_true', Bool.not_false, Bool.not_true, Bool.not_eq_false'] at h3')
        refine w_seq ?_
        refine w_block ?_
        refine w_seq ?_
        refine w_region ?_
        refine l_cons rfl (p_move ?_)
        refine l_cons rfl (p_callr en_106 (over_walk hgt.1) ?_)
        refine l_cons rfl (p_move ?_)
        refine g_b rfl (fun h4 => ?_) (fun h4 => ?_)
        · skip
          have h4' := h4; (try simp only [decide_eq_true_eq, decide_eq_false_iff_not, Bool.not_eq_true', Bool.not_false, Bool.not_true, Bool.not_eq_false'] at h4')
          refine (p_move ?_)
          refine g_y rfl h4 (p_cmp ?_)
          refine l_cons rfl (p_pickf h4 ?_)
          refine l_cons rfl (p_assign ?_)
          refine l_nil ?_
          refine k_seq_normal ?_
          refine w_b (fun h5 => ?_) (fun h5 => ?_)
          · skip
            have h5' := h5; (try simp only [decide_eq_true_eq, decide_eq_false_iff_not, Bool.not_eq_true', Bool.not_false, Bool.not_true, Bool.not_eq_false'] at h5')
            refine w_seq ?_
            refine w_region ?_
            refine l_cons rfl (p_move ?_)
            refine l_cons rfl (p_call en_107 ((set_walk hgt.1).mono ?_))
            rintro _ es2 ⟨rfl, hg2⟩
            replace hgt := hgt.trans hg2
            have hs4 := hgt.top hipl
            refine l_cons rfl (p_callr en_67 (refBytes (pSet q.tail).1) ?_)
            refine l_cons rfl (p_store ty_29 ?_)
            refine l_nil ?_
            refine k_seq_normal ?_
            refine w_ret ?_
            refine k_blk_ret ?_
            refine k_seq_ret ?_
            refine k_seq_ret ?_
            rw [pRx_leaf (by first | (left; omega) | (right; right; omega) | (right; left; simp_all; done) | (right; left; assumption)), pLeaf_set (by first | (right; omega) | (left; assumption) | (left; simp_all; done))]
            exact retc (he := loc_base (at_setAt_same _ hs4)) rfl ty_29 (Sub.refl _) ⟨rfl, (hgt.pop hipl).put (Nat.le_refl _) _⟩
          · skip
            have h5' := h5; (try simp only [decide_eq_true_eq, decide_eq_false_iff_not, Bool.not_eq_true', Bool.not_false, Bool.not_true, Bool.not_eq_false'] at h5')
            refine w_seq ?_
            refine w_region ?_
            refine l_cons rfl (p_move ?_)
            refine l_cons rfl (p_call en_70 ((num_walk 3 (by omega) hgt.1).mono ?_))
            rintro _ es2 ⟨rfl, hg2⟩
            replace hgt := hgt.trans hg2
            have hs4 := hgt.top hipl
            refine l_cons rfl (p_cmp ?_)
            refine l_cons rfl (p_assign ?_)
            refine l_nil ?_
            refine k_seq_normal ?_
            refine w_b (fun h6 => ?_) (fun h6 => ?_)
            · skip
              have h6' := h6; (try simp only [decide_eq_true_eq, decide_eq_false_iff_not, Bool.not_eq_true', Bool.not_false, Bool.not_true, Bool.not_eq_false'] at h6')
              refine w_seq ?_
              refine w_region ?_
              refine l_cons rfl (p_callr en_84 (refNone) ?_)
              refine l_cons rfl (p_store ty_29 ?_)
              refine l_nil ?_
              refine k_seq_normal ?_
              refine w_ret ?_
              refine k_blk_ret ?_
              refine k_seq_ret ?_
              refine k_seq_ret ?_
              rw [pRx_leaf (by first | (left; omega) | (right; right; omega) | (right; left; simp_all; done) | (right; left; assumption)), pLeaf_none (by first | (simp_all; done) | assumption) (by omega) (by omega)]
              exact retc (he := loc_base (at_setAt_same _ hs4)) rfl ty_29 (Sub.refl _) ⟨rfl, (hgt.pop hipl).put (Nat.le_refl _) _⟩
            · skip
              have h6' := h6; (try simp only [decide_eq_true_eq, decide_eq_false_iff_not, Bool.not_eq_true', Bool.not_false, Bool.not_true, Bool.not_eq_false'] at h6')
              refine w_skip ?_
              refine k_blk_normal ?_
              refine k_seq_normal ?_
              refine w_seq ?_
              refine w_region ?_
              refine l_cons rfl (p_callr en_85 (refEmpty) ?_)
              refine l_cons rfl (p_store ty_29 ?_)
              refine l_nil ?_
              refine k_seq_normal ?_
              refine w_ret ?_
              refine k_seq_ret ?_
              rw [pRx_leaf (by first | (left; omega) | (right; right; omega) | (right; left; simp_all; done) | (right; left; assumption)), pLeaf_empty (by first | (simp_all; done) | assumption) (by omega) (by omega)]
              exact retc (he := loc_base (at_setAt_same _ hs4)) rfl ty_29 (Sub.refl _) ⟨rfl, (hgt.pop hipl).put (Nat.le_refl _) _⟩
        · skip
          have h4' := h4; (try simp only [decide_eq_true_eq, decide_eq_false_iff_not, Bool.not_eq_true', Bool.not_false, Bool.not_true, Bool.not_eq_false'] at h4')
          refine g_n rfl h4 ?_
          refine l_cons rfl (p_pickt h4 ?_)
          refine l_cons rfl (p_assign ?_)
          refine l_nil ?_
          refine k_seq_normal ?_
          refine w_t rfl ?_
          refine w_seq ?_
          refine w_region ?_
          refine l_cons rfl (p_move ?_)
          refine l_cons rfl (p_call en_107 ((set_walk hgt.1).mono ?_))
          rintro _ es2 ⟨rfl, hg2⟩
          replace hgt := hgt.trans hg2
          have hs4 := hgt.top hipl
          refine l_cons rfl (p_callr en_67 (refBytes (pSet q.tail).1) ?_)
          refine l_cons rfl (p_store ty_29 ?_)
          refine l_nil ?_
          refine k_seq_normal ?_
          refine w_ret ?_
          refine k_blk_ret ?_
          refine k_seq_ret ?_
          refine k_seq_ret ?_
          rw [pRx_leaf (by first | (left; omega) | (right; right; omega) | (right; left; simp_all; done) | (right; left; assumption)), pLeaf_set (by first | (right; omega) | (left; assumption) | (left; simp_all; done))]
          exact retc (he := loc_base (at_setAt_same _ hs4)) rfl ty_29 (Sub.refl _) ⟨rfl, (hgt.pop hipl).put (Nat.le_refl _) _⟩
      · skip
        have h3' := h3; (try simp only [decide_eq_true_eq, decide_eq_false_iff_not, Bool.not_eq_true', Bool.not_false, Bool.not_true, Bool.not_eq_false'] at h3')
        refine w_skip ?_
        refine k_seq_normal ?_
        refine w_seq ?_
        obtain ⟨g, rfl⟩ : ∃ g, f = g + 1 := ⟨f - 1, by omega⟩
        have hok1 := pRx_ok g hqb.tail
        have hok3 := pRx_ok g hok1.2.1
        have hpw : 2 ^ (g + 1) ≤ 2 ^ 10 := Nat.pow_le_pow_right (by omega) (by omega)
        have hok2 : ∀ r ∈ [(pRx g q.tail).1, (pRx g (pRx g q.tail).2).1], r.ok := fun r hr => by
          simp only [List.mem_cons, List.not_mem_nil, or_false] at hr
          rcases hr with rfl | rfl
          · exact hok1.1
          · exact hok3.1
        refine w_region ?_
        refine l_cons rfl (p_move ?_)
        refine l_cons rfl (p_move ?_)
        refine l_cons rfl (p_arith ?_)
        refine l_cons rfl (p_call en_69 ((ih g (by omega) (by omega) _ ip sp q.tail (deep + 1) (by omega) hgt.1).mono ?_))
        rintro _ es2 ⟨rfl, hg2⟩
        replace hgt := hgt.trans hg2
        have hs4 := hgt.top hipl
        have hipl2 := hgt.1.lt
        refine l_cons rfl (p_alloc ze_29 fun s6 => ?_)
        refine l_cons rfl (p_store ty_29 ?_)
        refine l_nil ?_
        refine k_seq_normal ?_
        refine w_seq ?_
        refine w_seq ?_
        refine w_region ?_
        refine l_cons rfl (p_move ?_)
        refine l_nil ?_
        refine k_seq_normal ?_
        refine w_block ?_
        refine w_seq ?_
        refine w_seq ?_
        refine w_region ?_
        refine l_cons rfl (p_cmp ?_)
        refine l_cons rfl (p_assign ?_)
        refine l_nil ?_
        refine k_seq_normal ?_
        refine w_b (fun h7 => ?_) (fun h7 => ?_)
        · skip
          have h7' := h7; (try simp only [decide_eq_true_eq, decide_eq_false_iff_not, Bool.not_eq_true', Bool.not_false, Bool.not_true, Bool.not_eq_false'] at h7')
          refine w_skip ?_
          refine k_seq_normal ?_
          refine w_t h7 ?_
          refine w_seq ?_
          refine w_drawn 5 [4] (fun e => at_ e es2.length = some (.row s6 29 6 [(pRx g q.tail).1.cells])) mixed (by kernel_rfl) (at_hit _ _) ?_
          refine q1 6 (hg := rfl) (hu := rfl) (h := by rintro f _ hG; exact p_loadp ty_29 ⟨rfl, rfl⟩) (k := ?_)
          refine q1 0 (hg := rfl) (hu := rfl) (h := by rintro f _ hG; exact p_move ⟨rfl, rfl⟩) (k := ?_)
          refine q1 1 (hg := rfl) (hu := rfl) (h := by rintro f _ hG; exact p_move ⟨rfl, rfl⟩) (k := ?_)
          refine q1 46 (hg := rfl) (hu := rfl) (h := by rintro f _ hG; exact p_arith ⟨rfl, rfl⟩) (k := ?_)
          refine q_end ?_
          refine m2 45 47 (hu := rfl) (h := fun f => p_call en_69 ((ih g (by omega) (by omega) _ ip sp (pRx g q.tail).2 (deep + 1) (by omega) (hgt.1.push _)).mono fun v es' hv => ?_))
          obtain ⟨rfl, hg3⟩ := hv
          have hs6 := hg3.top hipl2
          refine ⟨_, rfl, hs6, ?_⟩
          have hgt := hgt.trans (hg3.pop hipl2)
          have hs4 := hgt.top hipl
          refine m_end ?_
          refine l_cons rfl (p_buildList sl_27 ze_29 (rows := [(pRx g q.tail).1.cells, (pRx g (pRx g q.tail).2).1.cells]) ?_ (hr := rfl))
          refine l_cons rfl (p_callr en_39 (refCat [(pRx g q.tail).1, (pRx g (pRx g q.tail).2).1] (by simp only [Rx.nodesL]; omega)) ?_)
          refine l_cons rfl (p_store ty_29 ?_)
          refine l_nil ?_
          refine k_seq_normal ?_
          refine w_ret ?_
          refine k_blk_ret ?_
          refine k_seq_ret ?_
          rw [pRx_cat (by first | (simp_all; done) | assumption) (by omega)]
          exact retc (he := loc_base (at_setAt_same _ hs4)) rfl ty_29 (Sub.refl _) ⟨rfl, (hgt.pop hipl).put (Nat.le_refl _) _⟩
        · skip
          have h7' := h7; (try simp only [decide_eq_true_eq, decide_eq_false_iff_not, Bool.not_eq_true', Bool.not_false, Bool.not_true, Bool.not_eq_false'] at h7')
          refine w_seq ?_
          refine w_region ?_
          refine l_cons rfl (p_cmp ?_)
          refine l_cons rfl (p_assign ?_)
          refine l_nil ?_
          refine k_seq_normal ?_
          refine w_b (fun h8 => ?_) (fun h8 => ?_)
          · skip
            have h8' := h8; (try simp only [decide_eq_true_eq, decide_eq_false_iff_not, Bool.not_eq_true', Bool.not_false, Bool.not_true, Bool.not_eq_false'] at h8')
            refine w_skip ?_
            refine k_seq_normal ?_
            refine w_t h8 ?_
            refine w_seq ?_
            refine w_drawn 5 [4] (fun e => at_ e es2.length = some (.row s6 29 6 [(pRx g q.tail).1.cells])) mixed (by kernel_rfl) (at_hit _ _) ?_
            refine q1 6 (hg := rfl) (hu := rfl) (h := by rintro f _ hG; exact p_loadp ty_29 ⟨rfl, rfl⟩) (k := ?_)
            refine q1 0 (hg := rfl) (hu := rfl) (h := by rintro f _ hG; exact p_move ⟨rfl, rfl⟩) (k := ?_)
            refine q1 1 (hg := rfl) (hu := rfl) (h := by rintro f _ hG; exact p_move ⟨rfl, rfl⟩) (k := ?_)
            refine q1 46 (hg := rfl) (hu := rfl) (h := by rintro f _ hG; exact p_arith ⟨rfl, rfl⟩) (k := ?_)
            refine q_end ?_
            refine m2 45 47 (hu := rfl) (h := fun f => p_call en_69 ((ih g (by omega) (by omega) _ ip sp (pRx g q.tail).2 (deep + 1) (by omega) (hgt.1.push _)).mono fun v es' hv => ?_))
            obtain ⟨rfl, hg3⟩ := hv
            have hs6 := hg3.top hipl2
            refine ⟨_, rfl, hs6, ?_⟩
            have hgt := hgt.trans (hg3.pop hipl2)
            have hs4 := hgt.top hipl
            refine m_end ?_
            refine l_cons rfl (p_buildList sl_27 ze_29 (rows := [(pRx g q.tail).1.cells, (pRx g (pRx g q.tail).2).1.cells]) ?_ (hr := rfl))
            refine l_cons rfl (p_callr en_39 (refCat [(pRx g q.tail).1, (pRx g (pRx g q.tail).2).1] (by simp only [Rx.nodesL]; omega)) ?_)
            refine l_cons rfl (p_store ty_29 ?_)
            refine l_nil ?_
            refine k_seq_normal ?_
            refine w_ret ?_
            refine k_blk_ret ?_
            refine k_seq_ret ?_
            rw [pRx_cat (by first | (simp_all; done) | assumption) (by omega)]
            exact retc (he := loc_base (at_setAt_same _ hs4)) rfl ty_29 (Sub.refl _) ⟨rfl, (hgt.pop hipl).put (Nat.le_refl _) _⟩
          · skip
            have h8' := h8; (try simp only [decide_eq_true_eq, decide_eq_false_iff_not, Bool.not_eq_true', Bool.not_false, Bool.not_true, Bool.not_eq_false'] at h8')
            refine w_region ?_
            refine l_cons rfl (p_cmp ?_)
            refine l_cons rfl (p_assign ?_)
            refine l_nil ?_
            refine k_seq_normal ?_
            refine w_b (fun h9 => ?_) (fun h9 => ?_)
            · skip
              have h9' := h9; (try simp only [decide_eq_true_eq, decide_eq_false_iff_not, Bool.not_eq_true', Bool.not_false, Bool.not_true, Bool.not_eq_false'] at h9')
              refine w_seq ?_
              refine w_drawn 5 [4] (fun e => at_ e es2.length = some (.row s6 29 6 [(pRx g q.tail).1.cells])) mixed (by kernel_rfl) (at_hit _ _) ?_
              refine q1 6 (hg := rfl) (hu := rfl) (h := by rintro f _ hG; exact p_loadp ty_29 ⟨rfl, rfl⟩) (k := ?_)
              refine q1 0 (hg := rfl) (hu := rfl) (h := by rintro f _ hG; exact p_move ⟨rfl, rfl⟩) (k := ?_)
              refine q1 1 (hg := rfl) (hu := rfl) (h := by rintro f _ hG; exact p_move ⟨rfl, rfl⟩) (k := ?_)
              refine q1 46 (hg := rfl) (hu := rfl) (h := by rintro f _ hG; exact p_arith ⟨rfl, rfl⟩) (k := ?_)
              refine q_end ?_
              refine m2 45 47 (hu := rfl) (h := fun f => p_call en_69 ((ih g (by omega) (by omega) _ ip sp (pRx g q.tail).2 (deep + 1) (by omega) (hgt.1.push _)).mono fun v es' hv => ?_))
              obtain ⟨rfl, hg3⟩ := hv
              have hs6 := hg3.top hipl2
              refine ⟨_, rfl, hs6, ?_⟩
              have hgt := hgt.trans (hg3.pop hipl2)
              have hs4 := hgt.top hipl
              refine m_end ?_
              refine l_cons rfl (p_buildList sl_27 ze_29 (rows := [(pRx g q.tail).1.cells, (pRx g (pRx g q.tail).2).1.cells]) ?_ (hr := rfl))
              refine l_cons rfl (p_callr en_39 (refCat [(pRx g q.tail).1, (pRx g (pRx g q.tail).2).1] (by simp only [Rx.nodesL]; omega)) ?_)
              refine l_cons rfl (p_store ty_29 ?_)
              refine l_nil ?_
              refine k_seq_normal ?_
              refine w_ret ?_
              refine k_blk_ret ?_
              refine k_seq_ret ?_
              rw [pRx_cat (by first | (simp_all; done) | assumption) (by omega)]
              exact retc (he := loc_base (at_setAt_same _ hs4)) rfl ty_29 (Sub.refl _) ⟨rfl, (hgt.pop hipl).put (Nat.le_refl _) _⟩
            · skip
              have h9' := h9; (try simp only [decide_eq_true_eq, decide_eq_false_iff_not, Bool.not_eq_true', Bool.not_false, Bool.not_true, Bool.not_eq_false'] at h9')
              refine w_seq ?_
              refine w_seq ?_
              refine w_region ?_
              refine l_cons rfl (p_cmp ?_)
              refine l_cons rfl (p_assign ?_)
              refine l_nil ?_
              refine k_seq_normal ?_
              refine w_b (fun h10 => ?_) (fun h10 => ?_)
              · skip
                have h10' := h10; (try simp only [decide_eq_true_eq, decide_eq_false_iff_not, Bool.not_eq_true', Bool.not_false, Bool.not_true, Bool.not_eq_false'] at h10')
                refine w_skip ?_
                refine k_seq_normal ?_
                refine w_t h10 ?_
                refine w_seq ?_
                refine w_drawn 5 [4] (fun e => at_ e es2.length = some (.row s6 29 6 [(pRx g q.tail).1.cells])) mixed (by kernel_rfl) (at_hit _ _) ?_
                refine q1 6 (hg := rfl) (hu := rfl) (h := by rintro f _ hG; exact p_loadp ty_29 ⟨rfl, rfl⟩) (k := ?_)
                refine q1 0 (hg := rfl) (hu := rfl) (h := by rintro f _ hG; exact p_move ⟨rfl, rfl⟩) (k := ?_)
                refine q1 1 (hg := rfl) (hu := rfl) (h := by rintro f _ hG; exact p_move ⟨rfl, rfl⟩) (k := ?_)
                refine q1 56 (hg := rfl) (hu := rfl) (h := by rintro f _ hG; exact p_arith ⟨rfl, rfl⟩) (k := ?_)
                refine q_end ?_
                refine m2 55 57 (hu := rfl) (h := fun f => p_call en_69 ((ih g (by omega) (by omega) _ ip sp (pRx g q.tail).2 (deep + 1) (by omega) (hgt.1.push _)).mono fun v es' hv => ?_))
                obtain ⟨rfl, hg3⟩ := hv
                have hs6 := hg3.top hipl2
                refine ⟨_, rfl, hs6, ?_⟩
                have hgt := hgt.trans (hg3.pop hipl2)
                have hs4 := hgt.top hipl
                refine m_end ?_
                refine l_cons rfl (p_buildList sl_27 ze_29 (rows := [(pRx g q.tail).1.cells, (pRx g (pRx g q.tail).2).1.cells]) ?_ (hr := rfl))
                refine l_cons rfl (p_callr en_40 (refAlt [(pRx g q.tail).1, (pRx g (pRx g q.tail).2).1] hok2 (by simp only [Rx.nodesL]; omega)) ?_)
                refine l_cons rfl (p_store ty_29 ?_)
                refine l_nil ?_
                refine k_seq_normal ?_
                refine w_ret ?_
                refine k_blk_ret ?_
                refine k_seq_ret ?_
                rw [pRx_alt (by first | (simp_all; done) | assumption) (by omega)]
                exact retc (he := loc_base (at_setAt_same _ hs4)) rfl ty_29 (Sub.refl _) ⟨rfl, (hgt.pop hipl).put (Nat.le_refl _) _⟩
              · skip
                have h10' := h10; (try simp only [decide_eq_true_eq, decide_eq_false_iff_not, Bool.not_eq_true', Bool.not_false, Bool.not_true, Bool.not_eq_false'] at h10')
                refine w_region ?_
                refine l_cons rfl (p_cmp ?_)
                refine l_cons rfl (p_assign ?_)
                refine l_nil ?_
                refine k_seq_normal ?_
                refine w_b (fun h11 => ?_) (fun h11 => ?_)
                · skip
                  have h11' := h11; (try simp only [decide_eq_true_eq, decide_eq_false_iff_not, Bool.not_eq_true', Bool.not_false, Bool.not_true, Bool.not_eq_false'] at h11')
                  refine w_seq ?_
                  refine w_drawn 5 [4] (fun e => at_ e es2.length = some (.row s6 29 6 [(pRx g q.tail).1.cells])) mixed (by kernel_rfl) (at_hit _ _) ?_
                  refine q1 6 (hg := rfl) (hu := rfl) (h := by rintro f _ hG; exact p_loadp ty_29 ⟨rfl, rfl⟩) (k := ?_)
                  refine q1 0 (hg := rfl) (hu := rfl) (h := by rintro f _ hG; exact p_move ⟨rfl, rfl⟩) (k := ?_)
                  refine q1 1 (hg := rfl) (hu := rfl) (h := by rintro f _ hG; exact p_move ⟨rfl, rfl⟩) (k := ?_)
                  refine q1 56 (hg := rfl) (hu := rfl) (h := by rintro f _ hG; exact p_arith ⟨rfl, rfl⟩) (k := ?_)
                  refine q_end ?_
                  refine m2 55 57 (hu := rfl) (h := fun f => p_call en_69 ((ih g (by omega) (by omega) _ ip sp (pRx g q.tail).2 (deep + 1) (by omega) (hgt.1.push _)).mono fun v es' hv => ?_))
                  obtain ⟨rfl, hg3⟩ := hv
                  have hs6 := hg3.top hipl2
                  refine ⟨_, rfl, hs6, ?_⟩
                  have hgt := hgt.trans (hg3.pop hipl2)
                  have hs4 := hgt.top hipl
                  refine m_end ?_
                  refine l_cons rfl (p_buildList sl_27 ze_29 (rows := [(pRx g q.tail).1.cells, (pRx g (pRx g q.tail).2).1.cells]) ?_ (hr := rfl))
                  refine l_cons rfl (p_callr en_40 (refAlt [(pRx g q.tail).1, (pRx g (pRx g q.tail).2).1] hok2 (by simp only [Rx.nodesL]; omega)) ?_)
                  refine l_cons rfl (p_store ty_29 ?_)
                  refine l_nil ?_
                  refine k_seq_normal ?_
                  refine w_ret ?_
                  refine k_blk_ret ?_
                  refine k_seq_ret ?_
                  rw [pRx_alt (by first | (simp_all; done) | assumption) (by omega)]
                  exact retc (he := loc_base (at_setAt_same _ hs4)) rfl ty_29 (Sub.refl _) ⟨rfl, (hgt.pop hipl).put (Nat.le_refl _) _⟩
                · skip
                  have h11' := h11; (try simp only [decide_eq_true_eq, decide_eq_false_iff_not, Bool.not_eq_true', Bool.not_false, Bool.not_true, Bool.not_eq_false'] at h11')
                  refine w_skip ?_
                  refine k_blk_normal ?_
                  refine k_seq_normal ?_
                  refine w_seq ?_
                  have hs6 : at_ (Ent.row s6 29 6 [(pRx g q.tail).1.cells] :: es2) es2.length = some (.row s6 29 6 [(pRx g q.tail).1.cells]) := at_hit _ _
                  refine w_region ?_
                  refine l_cons rfl (p_loadp ty_29 ?_)
                  refine l_cons rfl (p_callr en_41 (refStarR (pRx g q.tail).1 (by omega) hok1.1) ?_)
                  refine l_cons rfl (p_store ty_29 ?_)
                  refine l_nil ?_
                  refine k_seq_normal ?_
                  refine w_ret ?_
                  rw [pRx_star (by first | (simp_all; done) | assumption) (by omega)]
                  exact retc (he := loc_miss (loc_base (at_setAt_same _ hs4))) rfl ty_29 (Sub.refl _) ⟨rfl, ((hgt.pop hipl).put (Nat.le_refl _) _).up _⟩
    · skip
      have h2' := h2; (try simp only [decide_eq_true_eq, decide_eq_false_iff_not, Bool.not_eq_true', Bool.not_false, Bool.not_true, Bool.not_eq_false'] at h2')
      refine g_n rfl h2 ?_
      refine l_cons rfl (p_pickt h2 ?_)
      refine l_nil ?_
      refine k_seq_normal ?_
      refine w_t rfl ?_
      refine w_seq ?_
      refine w_block ?_
      refine w_seq ?_
      refine w_region ?_
      refine l_cons rfl (p_move ?_)
      refine l_cons rfl (p_callr en_106 (over_walk hgt.1) ?_)
      refine l_cons rfl (p_move ?_)
      refine g_b rfl (fun h12 => ?_) (fun h12 => ?_)
      · skip
        have h12' := h12; (try simp only [decide_eq_true_eq, decide_eq_false_iff_not, Bool.not_eq_true', Bool.not_false, Bool.not_true, Bool.not_eq_false'] at h12')
        refine (p_move ?_)
        refine g_y rfl h12 (p_cmp ?_)
        refine l_cons rfl (p_pickf h12 ?_)
        refine l_cons rfl (p_assign ?_)
        refine l_nil ?_
        refine k_seq_normal ?_
        refine w_b (fun h13 => ?_) (fun h13 => ?_)
        · skip
          have h13' := h13; (try simp only [decide_eq_true_eq, decide_eq_false_iff_not, Bool.not_eq_true', Bool.not_false, Bool.not_true, Bool.not_eq_false'] at h13')
          refine w_seq ?_
          refine w_region ?_
          refine l_cons rfl (p_move ?_)
          refine l_cons rfl (p_call en_107 ((set_walk hgt.1).mono ?_))
          rintro _ es2 ⟨rfl, hg2⟩
          replace hgt := hgt.trans hg2
          have hs4 := hgt.top hipl
          refine l_cons rfl (p_callr en_67 (refBytes (pSet q.tail).1) ?_)
          refine l_cons rfl (p_store ty_29 ?_)
          refine l_nil ?_
          refine k_seq_normal ?_
          refine w_ret ?_
          refine k_blk_ret ?_
          refine k_seq_ret ?_
          refine k_seq_ret ?_
          rw [pRx_leaf (by first | (left; omega) | (right; right; omega) | (right; left; simp_all; done) | (right; left; assumption)), pLeaf_set (by first | (right; omega) | (left; assumption) | (left; simp_all; done))]
          exact retc (he := loc_base (at_setAt_same _ hs4)) rfl ty_29 (Sub.refl _) ⟨rfl, (hgt.pop hipl).put (Nat.le_refl _) _⟩
        · skip
          have h13' := h13; (try simp only [decide_eq_true_eq, decide_eq_false_iff_not, Bool.not_eq_true', Bool.not_false, Bool.not_true, Bool.not_eq_false'] at h13')
          refine w_seq ?_
          refine w_region ?_
          refine l_cons rfl (p_move ?_)
          refine l_cons rfl (p_call en_70 ((num_walk 3 (by omega) hgt.1).mono ?_))
          rintro _ es2 ⟨rfl, hg2⟩
          replace hgt := hgt.trans hg2
          have hs4 := hgt.top hipl
          refine l_cons rfl (p_cmp ?_)
          refine l_cons rfl (p_assign ?_)
          refine l_nil ?_
          refine k_seq_normal ?_
          refine w_b (fun h14 => ?_) (fun h14 => ?_)
          · skip
            have h14' := h14; (try simp only [decide_eq_true_eq, decide_eq_false_iff_not, Bool.not_eq_true', Bool.not_false, Bool.not_true, Bool.not_eq_false'] at h14')
            refine w_seq ?_
            refine w_region ?_
            refine l_cons rfl (p_callr en_84 (refNone) ?_)
            refine l_cons rfl (p_store ty_29 ?_)
            refine l_nil ?_
            refine k_seq_normal ?_
            refine w_ret ?_
            refine k_blk_ret ?_
            refine k_seq_ret ?_
            refine k_seq_ret ?_
            rw [pRx_leaf (by first | (left; omega) | (right; right; omega) | (right; left; simp_all; done) | (right; left; assumption)), pLeaf_none (by first | (simp_all; done) | assumption) (by omega) (by omega)]
            exact retc (he := loc_base (at_setAt_same _ hs4)) rfl ty_29 (Sub.refl _) ⟨rfl, (hgt.pop hipl).put (Nat.le_refl _) _⟩
          · skip
            have h14' := h14; (try simp only [decide_eq_true_eq, decide_eq_false_iff_not, Bool.not_eq_true', Bool.not_false, Bool.not_true, Bool.not_eq_false'] at h14')
            refine w_skip ?_
            refine k_blk_normal ?_
            refine k_seq_normal ?_
            refine w_seq ?_
            refine w_region ?_
            refine l_cons rfl (p_callr en_85 (refEmpty) ?_)
            refine l_cons rfl (p_store ty_29 ?_)
            refine l_nil ?_
            refine k_seq_normal ?_
            refine w_ret ?_
            refine k_seq_ret ?_
            rw [pRx_leaf (by first | (left; omega) | (right; right; omega) | (right; left; simp_all; done) | (right; left; assumption)), pLeaf_empty (by first | (simp_all; done) | assumption) (by omega) (by omega)]
            exact retc (he := loc_base (at_setAt_same _ hs4)) rfl ty_29 (Sub.refl _) ⟨rfl, (hgt.pop hipl).put (Nat.le_refl _) _⟩
      · skip
        have h12' := h12; (try simp only [decide_eq_true_eq, decide_eq_false_iff_not, Bool.not_eq_true', Bool.not_false, Bool.not_true, Bool.not_eq_false'] at h12')
        refine g_n rfl h12 ?_
        refine l_cons rfl (p_pickt h12 ?_)
        refine l_cons rfl (p_assign ?_)
        refine l_nil ?_
        refine k_seq_normal ?_
        refine w_t rfl ?_
        refine w_seq ?_
        refine w_region ?_
        refine l_cons rfl (p_move ?_)
        refine l_cons rfl (p_call en_107 ((set_walk hgt.1).mono ?_))
        rintro _ es2 ⟨rfl, hg2⟩
        replace hgt := hgt.trans hg2
        have hs4 := hgt.top hipl
        refine l_cons rfl (p_callr en_67 (refBytes (pSet q.tail).1) ?_)
        refine l_cons rfl (p_store ty_29 ?_)
        refine l_nil ?_
        refine k_seq_normal ?_
        refine w_ret ?_
        refine k_blk_ret ?_
        refine k_seq_ret ?_
        refine k_seq_ret ?_
        rw [pRx_leaf (by first | (left; omega) | (right; right; omega) | (right; left; simp_all; done) | (right; left; assumption)), pLeaf_set (by first | (right; omega) | (left; assumption) | (left; simp_all; done))]
        exact retc (he := loc_base (at_setAt_same _ hs4)) rfl ty_29 (Sub.refl _) ⟨rfl, (hgt.pop hipl).put (Nat.le_refl _) _⟩
  · skip
    have h1' := h1; (try simp only [decide_eq_true_eq, decide_eq_false_iff_not, Bool.not_eq_true', Bool.not_false, Bool.not_true, Bool.not_eq_false'] at h1')
    refine g_n rfl h1 ?_
    refine l_cons rfl (p_pickt h1 ?_)
    refine l_cons rfl (p_move ?_)
    refine g_n rfl rfl ?_
    refine g_n rfl rfl ?_
    refine l_cons rfl (p_pickt rfl ?_)
    refine l_nil ?_
    refine k_seq_normal ?_
    refine w_t rfl ?_
    refine w_seq ?_
    refine w_block ?_
    refine w_seq ?_
    refine w_region ?_
    refine l_cons rfl (p_move ?_)
    refine l_cons rfl (p_callr en_106 (over_walk hgt.1) ?_)
    refine l_cons rfl (p_move ?_)
    refine g_b rfl (fun h15 => ?_) (fun h15 => ?_)
    · skip
      have h15' := h15; (try simp only [decide_eq_true_eq, decide_eq_false_iff_not, Bool.not_eq_true', Bool.not_false, Bool.not_true, Bool.not_eq_false'] at h15')
      refine (p_move ?_)
      refine g_y rfl h15 (p_cmp ?_)
      refine l_cons rfl (p_pickf h15 ?_)
      refine l_cons rfl (p_assign ?_)
      refine l_nil ?_
      refine k_seq_normal ?_
      refine w_b (fun h16 => ?_) (fun h16 => ?_)
      · skip
        have h16' := h16; (try simp only [decide_eq_true_eq, decide_eq_false_iff_not, Bool.not_eq_true', Bool.not_false, Bool.not_true, Bool.not_eq_false'] at h16')
        refine w_seq ?_
        refine w_region ?_
        refine l_cons rfl (p_move ?_)
        refine l_cons rfl (p_call en_107 ((set_walk hgt.1).mono ?_))
        rintro _ es2 ⟨rfl, hg2⟩
        replace hgt := hgt.trans hg2
        have hs4 := hgt.top hipl
        refine l_cons rfl (p_callr en_67 (refBytes (pSet q.tail).1) ?_)
        refine l_cons rfl (p_store ty_29 ?_)
        refine l_nil ?_
        refine k_seq_normal ?_
        refine w_ret ?_
        refine k_blk_ret ?_
        refine k_seq_ret ?_
        refine k_seq_ret ?_
        rw [pRx_leaf (by first | (left; omega) | (right; right; omega) | (right; left; simp_all; done) | (right; left; assumption)), pLeaf_set (by first | (right; omega) | (left; assumption) | (left; simp_all; done))]
        exact retc (he := loc_base (at_setAt_same _ hs4)) rfl ty_29 (Sub.refl _) ⟨rfl, (hgt.pop hipl).put (Nat.le_refl _) _⟩
      · skip
        have h16' := h16; (try simp only [decide_eq_true_eq, decide_eq_false_iff_not, Bool.not_eq_true', Bool.not_false, Bool.not_true, Bool.not_eq_false'] at h16')
        refine w_seq ?_
        refine w_region ?_
        refine l_cons rfl (p_move ?_)
        refine l_cons rfl (p_call en_70 ((num_walk 3 (by omega) hgt.1).mono ?_))
        rintro _ es2 ⟨rfl, hg2⟩
        replace hgt := hgt.trans hg2
        have hs4 := hgt.top hipl
        refine l_cons rfl (p_cmp ?_)
        refine l_cons rfl (p_assign ?_)
        refine l_nil ?_
        refine k_seq_normal ?_
        refine w_b (fun h17 => ?_) (fun h17 => ?_)
        · skip
          have h17' := h17; (try simp only [decide_eq_true_eq, decide_eq_false_iff_not, Bool.not_eq_true', Bool.not_false, Bool.not_true, Bool.not_eq_false'] at h17')
          refine w_seq ?_
          refine w_region ?_
          refine l_cons rfl (p_callr en_84 (refNone) ?_)
          refine l_cons rfl (p_store ty_29 ?_)
          refine l_nil ?_
          refine k_seq_normal ?_
          refine w_ret ?_
          refine k_blk_ret ?_
          refine k_seq_ret ?_
          refine k_seq_ret ?_
          rw [pRx_leaf (by first | (left; omega) | (right; right; omega) | (right; left; simp_all; done) | (right; left; assumption)), pLeaf_none (by first | (simp_all; done) | assumption) (by omega) (by omega)]
          exact retc (he := loc_base (at_setAt_same _ hs4)) rfl ty_29 (Sub.refl _) ⟨rfl, (hgt.pop hipl).put (Nat.le_refl _) _⟩
        · skip
          have h17' := h17; (try simp only [decide_eq_true_eq, decide_eq_false_iff_not, Bool.not_eq_true', Bool.not_false, Bool.not_true, Bool.not_eq_false'] at h17')
          refine w_skip ?_
          refine k_blk_normal ?_
          refine k_seq_normal ?_
          refine w_seq ?_
          refine w_region ?_
          refine l_cons rfl (p_callr en_85 (refEmpty) ?_)
          refine l_cons rfl (p_store ty_29 ?_)
          refine l_nil ?_
          refine k_seq_normal ?_
          refine w_ret ?_
          refine k_seq_ret ?_
          rw [pRx_leaf (by first | (left; omega) | (right; right; omega) | (right; left; simp_all; done) | (right; left; assumption)), pLeaf_empty (by first | (simp_all; done) | assumption) (by omega) (by omega)]
          exact retc (he := loc_base (at_setAt_same _ hs4)) rfl ty_29 (Sub.refl _) ⟨rfl, (hgt.pop hipl).put (Nat.le_refl _) _⟩
    · skip
      have h15' := h15; (try simp only [decide_eq_true_eq, decide_eq_false_iff_not, Bool.not_eq_true', Bool.not_false, Bool.not_true, Bool.not_eq_false'] at h15')
      refine g_n rfl h15 ?_
      refine l_cons rfl (p_pickt h15 ?_)
      refine l_cons rfl (p_assign ?_)
      refine l_nil ?_
      refine k_seq_normal ?_
      refine w_t rfl ?_
      refine w_seq ?_
      refine w_region ?_
      refine l_cons rfl (p_move ?_)
      refine l_cons rfl (p_call en_107 ((set_walk hgt.1).mono ?_))
      rintro _ es2 ⟨rfl, hg2⟩
      replace hgt := hgt.trans hg2
      have hs4 := hgt.top hipl
      refine l_cons rfl (p_callr en_67 (refBytes (pSet q.tail).1) ?_)
      refine l_cons rfl (p_store ty_29 ?_)
      refine l_nil ?_
      refine k_seq_normal ?_
      refine w_ret ?_
      refine k_blk_ret ?_
      refine k_seq_ret ?_
      refine k_seq_ret ?_
      rw [pRx_leaf (by first | (left; omega) | (right; right; omega) | (right; left; simp_all; done) | (right; left; assumption)), pLeaf_set (by first | (right; omega) | (left; assumption) | (left; simp_all; done))]
      exact retc (he := loc_base (at_setAt_same _ hs4)) rfl ty_29 (Sub.refl _) ⟨rfl, (hgt.pop hipl).put (Nat.le_refl _) _⟩
theorem Rx_walk {w0 : World} {es : List Ent} {ip sp : Nat} {q : List Int} (h : PK es ip sp q) : ACalls Tryd.prog w0 25 [.ptr ip sp 0 0] es fun v es' => v = .agg (pRx 9 q).1.cells ∧ PG es es' ip sp (pRx 9 q).2 := by
  have hipl := h.lt
  refine calls1 (N := 5) Tryd.func25 rfl rfl (by decide) ?_
  refine w_seq ?_
  refine w_region ?_
  refine l_cons rfl (p_alloc ze_29 fun s2 => ?_)
  refine l_nil ?_
  refine k_seq_normal ?_
  refine w_seq ?_
  refine w_region ?_
  refine l_cons rfl (p_move ?_)
  refine l_cons rfl (p_call en_69 ((rx_walk 9 (by omega) _ ip sp q 0 (by omega) (h.push _)).mono ?_))
  rintro _ es1 ⟨rfl, hgt⟩
  have hs4 := hgt.top hipl
  refine l_cons rfl (p_store ty_29 ?_)
  refine l_nil ?_
  refine k_seq_normal ?_
  refine w_ret ?_
  exact retc (he := loc_base (at_setAt_same _ hs4)) rfl ty_29 (Sub.refl _) ⟨rfl, (hgt.pop hipl).put (Nat.le_refl _) _⟩
end Go.Proofs.YtfdgbghlanbddaaDoor.Av
set_option linter.unusedVariables false
set_option linter.unusedSimpArgs false
namespace Go.Proofs.YtfdgbghlanbddaaDoor.Av
/-! ### the words of an expression -/
inductive Star (P : List Int → Prop) : List Int → Prop
  | nil : Star P []
  | cons {u v : List Int} : P u → Star P v → Star P (u ++ v)
def W4.hasI (s : W4) (b : Int) : Bool := hasW s.w0 s.w1 s.w2 s.w3 b
mutual
def Rx.lang : Rx → List Int → Prop
  | .mk k s l => fun w => (k = 2 ∧ w = []) ∨ (k = 3 ∧ ∃ b, w = [b] ∧ s.hasI b = true) ∨ (k = 4 ∧ Rx.langCat l w) ∨ (k = 5 ∧ Rx.langAlt l w) ∨ (k = 6 ∧ Star (Rx.langOne l) w)
def Rx.langCat : List Rx → List Int → Prop
  | [] => fun w => w = []
  | a :: t => fun w => ∃ u v, w = u ++ v ∧ a.lang u ∧ Rx.langCat t v
def Rx.langAlt : List Rx → List Int → Prop
  | [] => fun _ => False
  | a :: t => fun w => a.lang w ∨ Rx.langAlt t w
def Rx.langOne : List Rx → List Int → Prop
  | [] => fun _ => False
  | a :: t => fun w => t = [] ∧ a.lang w
end
theorem lang_eq (r : Rx) (w : List Int) : r.lang w ↔ (r.kind = 2 ∧ w = []) ∨ (r.kind = 3 ∧ ∃ b, w = [b] ∧ r.set.hasI b = true) ∨ (r.kind = 4 ∧ Rx.langCat r.args w) ∨ (r.kind = 5 ∧ Rx.langAlt r.args w) ∨ (r.kind = 6 ∧ Star (Rx.langOne r.args) w) := by
  cases r
  rw [Rx.lang]
  rfl
theorem langCat_nil (w : List Int) : Rx.langCat [] w ↔ w = [] := by rw [Rx.langCat]
theorem langCat_cons (a : Rx) (t : List Rx) (w : List Int) : Rx.langCat (a :: t) w ↔ ∃ u v, w = u ++ v ∧ a.lang u ∧ Rx.langCat t v := by rw [Rx.langCat]
theorem langAlt_nil (w : List Int) : ¬ Rx.langAlt [] w := by rw [Rx.langAlt]; exact fun h => h
theorem langAlt_cons (a : Rx) (t : List Rx) (w : List Int) : Rx.langAlt (a :: t) w ↔ a.lang w ∨ Rx.langAlt t w := by rw [Rx.langAlt]
theorem langAlt_iff {l : List Rx} {w : List Int} : Rx.langAlt l w ↔ ∃ a ∈ l, a.lang w := by
  induction l with
  | nil => simp [langAlt_nil]
  | cons a t ih => rw [langAlt_cons, ih]; simp
theorem langOne_iff {l : List Rx} {w : List Int} : Rx.langOne l w ↔ ∃ a, l = [a] ∧ a.lang w := by
  match l with
  | [] => rw [Rx.langOne]; simp
  | a :: t =>
    rw [Rx.langOne]
    constructor
    · rintro ⟨rfl, h⟩; exact ⟨a, rfl, h⟩
    · rintro ⟨b, h, h2⟩
      simp only [List.cons.injEq] at h
      obtain ⟨rfl, rfl⟩ := h
      exact ⟨rfl, h2⟩
theorem langCat_app {l m : List Rx} {w : List Int} : Rx.langCat (l ++ m) w ↔ ∃ u v, w = u ++ v ∧ Rx.langCat l u ∧ Rx.langCat m v := by
  induction l generalizing w with
  | nil =>
    constructor
    · intro h; exact ⟨[], w, rfl, (langCat_nil _).2 rfl, h⟩
    · rintro ⟨u, v, rfl, h, h2⟩
      rw [langCat_nil] at h
      subst h
      exact h2
  | cons a t ih =>
    rw [List.cons_append, langCat_cons]
    constructor
    · rintro ⟨u, v, rfl, h1, h2⟩
      obtain ⟨x, y, rfl, h3, h4⟩ := ih.1 h2
      exact ⟨u ++ x, y, by rw [List.append_assoc], (langCat_cons _ _ _).2 ⟨u, x, rfl, h1, h3⟩, h4⟩
    · rintro ⟨u, v, rfl, h1, h2⟩
      obtain ⟨x, y, rfl, h3, h4⟩ := (langCat_cons _ _ _).1 h1
      exact ⟨x, y ++ v, by rw [List.append_assoc], h3, ih.2 ⟨y, v, rfl, h4, h2⟩⟩
theorem langCat_one {a : Rx} {w : List Int} : Rx.langCat [a] w ↔ a.lang w := by
  rw [langCat_cons]
  constructor
  · rintro ⟨u, v, rfl, h1, h2⟩
    rw [langCat_nil] at h2
    subst h2
    simpa using h1
  · intro h; exact ⟨w, [], by simp, h, (langCat_nil _).2 rfl⟩
theorem kind_2 {r : Rx} (h : r.kind = 2) : ∀ x, r.lang x ↔ x = [] := fun x => by rw [lang_eq, h]; simp
theorem kind_3 {r : Rx} (h : r.kind = 3) : ∀ x, r.lang x ↔ ∃ c, x = [c] ∧ r.set.hasI c = true := fun x => by rw [lang_eq, h]; simp
theorem kind_4 {r : Rx} (h : r.kind = 4) : ∀ x, r.lang x ↔ Rx.langCat r.args x := fun x => by rw [lang_eq, h]; simp
theorem kind_5 {r : Rx} (h : r.kind = 5) : ∀ x, Rx.langAlt r.args x ↔ r.lang x := fun x => by rw [lang_eq, h]; simp
theorem kind_6 {r : Rx} (h : r.kind = 6) : ∀ x, r.lang x ↔ Star (Rx.langOne r.args) x := fun x => by rw [lang_eq, h]; simp
theorem kind_0 {r : Rx} (h : ¬ r.kind = 2 ∧ ¬ r.kind = 3 ∧ ¬ r.kind = 4 ∧ ¬ r.kind = 5 ∧ ¬ r.kind = 6) : ∀ x, ¬ r.lang x := fun x => by rw [lang_eq]; simp [h]
/-! ### parts of a word -/
/-- From place i on to place j. -/
def sl (w : List Int) (i j : Nat) : List Int := (w.take j).drop i
theorem sl_self (w : List Int) (i : Nat) : sl w i i = [] := by
  unfold sl
  rw [List.drop_eq_nil_of_le (by rw [List.length_take]; omega)]
theorem sl_len {w : List Int} {i j : Nat} (hj : j ≤ w.length) : (sl w i j).length = j - i := by
  unfold sl
  rw [List.length_drop, List.length_take]
  omega
theorem sl_app {w : List Int} {i j k : Nat} (h1 : i ≤ j) (h2 : j ≤ k) (h3 : k ≤ w.length) : sl w i k = sl w i j ++ sl w j k := by
  refine List.ext_getElem? fun n => ?_
  unfold sl
  by_cases h : n < j - i
  · rw [List.getElem?_append_left (by rw [List.length_drop, List.length_take]; omega), List.getElem?_drop, List.getElem?_drop, List.getElem?_take, List.getElem?_take, if_pos (by omega), if_pos (by omega)]
  · rw [List.getElem?_append_right (by rw [List.length_drop, List.length_take]; omega), List.getElem?_drop, List.getElem?_drop, List.getElem?_take, List.getElem?_take, List.length_drop, List.length_take]
    rw [show j + (n - (min j w.length - i)) = i + n by omega]
/-- Where a part is two, one behind the other. -/
theorem sl_cut {w : List Int} {i k : Nat} {u v : List Int} (h1 : i ≤ k) (h2 : k ≤ w.length) (h : sl w i k = u ++ v) : i + u.length ≤ k ∧ u = sl w i (i + u.length) ∧ v = sl w (i + u.length) k := by
  have hl : (sl w i k).length = u.length + v.length := by rw [h, List.length_append]
  rw [sl_len h2] at hl
  have h3 := sl_app (w := w) (i := i) (j := i + u.length) (k := k) (by omega) (by omega) h2
  rw [h] at h3
  have hl2 : u.length = (sl w i (i + u.length)).length := by rw [sl_len (by omega)]; omega
  obtain ⟨h4, h5⟩ := List.append_inj h3 hl2
  exact ⟨by omega, h4, h5⟩
theorem sl_one {w : List Int} {i : Nat} (h : i < w.length) : sl w i (i + 1) = [w[i]] := by
  unfold sl
  rw [List.take_add_one, List.getElem?_eq_getElem h, List.drop_append]
  have : (w.take i).length = i := by rw [List.length_take]; omega
  rw [this, Nat.sub_self, List.drop_eq_nil_of_le (by omega)]
  rfl
theorem sl_all (w : List Int) : sl w 0 w.length = w := by unfold sl; rw [List.take_length]; rfl
/-! ### any number of words, place by place -/
inductive SR (P : List Int → Prop) (w : List Int) (i : Nat) : Nat → Prop
  | base : SR P w i i
  | step {j k : Nat} : SR P w i j → j < k → k ≤ w.length → P (sl w j k) → SR P w i k
theorem SR.le {P : List Int → Prop} {w : List Int} {i k : Nat} (h : SR P w i k) : i ≤ k := by
  induction h with
  | base => exact Nat.le_refl _
  | step _ h _ _ ih => omega
theorem star_app {P : List Int → Prop} {u v : List Int} (h : Star P u) (k : Star P v) : Star P (u ++ v) := by
  induction h with
  | nil => exact k
  | cons h1 _ ih => rw [List.append_assoc]; exact .cons h1 ih
theorem star_one {P : List Int → Prop} {u : List Int} (h : P u) : Star P u := by
  have := Star.cons h (Star.nil (P := P))
  rwa [List.append_nil] at this
theorem sr_star {P : List Int → Prop} {w : List Int} {i k : Nat} (h : SR P w i k) (hi : i ≤ w.length) : k ≤ w.length ∧ Star P (sl w i k) := by
  induction h with
  | base => exact ⟨hi, by rw [sl_self]; exact .nil⟩
  | step h1 h2 h3 h4 ih => exact ⟨h3, by rw [sl_app h1.le (by omega) h3]; exact star_app ih.2 (star_one h4)⟩
theorem sr_left {P : List Int → Prop} {w : List Int} {i j k : Nat} (h0 : i < j) (hj : j ≤ w.length) (hp : P (sl w i j)) (h : SR P w j k) : SR P w i k := by
  induction h with
  | base => exact .step .base h0 hj hp
  | step _ h2 h3 h4 ih => exact .step ih h2 h3 h4
theorem star_sr {P : List Int → Prop} {x : List Int} (h : Star P x) : ∀ {w : List Int} {i k : Nat}, i ≤ k → k ≤ w.length → x = sl w i k → SR P w i k := by
  induction h with
  | nil =>
    intro w i k h1 h2 h3
    have := congrArg List.length h3
    rw [sl_len h2] at this
    simp only [List.length_nil] at this
    have : k = i := by omega
    subst this
    exact .base
  | @cons u v hu hv ih =>
    intro w i k h1 h2 h3
    obtain ⟨h4, h5, h6⟩ := sl_cut h1 h2 h3.symm
    by_cases h0 : u.length = 0
    · have : u = [] := List.eq_nil_of_length_eq_zero h0
      subst this
      exact ih h1 h2 (by simpa using h3)
    · exact sr_left (by omega) (by omega) (by rw [← h5]; exact hu) (ih h4 h2 h6)
theorem star_iff {P : List Int → Prop} {w : List Int} {i k : Nat} (h1 : i ≤ k) (h2 : k ≤ w.length) : Star P (sl w i k) ↔ SR P w i k :=
  ⟨fun h => star_sr h h1 h2 rfl, fun h => (sr_star h (by omega)).2⟩
/-! ### tables -/
def tabOf (n : Nat) (p : Nat → Nat → Bool) : List (List Bool) := (List.range n).map fun i => (List.range n).map fun j => p i j
open Classical in
noncomputable def langP (L : List Int → Prop) (w : List Int) (i j : Nat) : Bool := decide (i ≤ j ∧ L (sl w i j))
/-- Where words of an expression lie in w. -/
noncomputable def spansT (r : Rx) (w : List Int) : List (List Bool) := tabOf (w.length + 1) (langP r.lang w)
/-- One behind the other. -/
def behindP (p q : Nat → Nat → Bool) (i k : Nat) : Bool := (List.range (k + 1)).any fun j => decide (i ≤ j) && p i j && q j k
end Go.Proofs.YtfdgbghlanbddaaDoor.Av
set_option linter.unusedVariables false
set_option linter.unusedSimpArgs false
namespace Go.Proofs.YtfdgbghlanbddaaDoor.Av
open Go.RowKit
/-! ### tables that are being written -/
def bools (l : List Bool) : List (List AV) := l.map fun b => [.bool b]
def boolRow (n : Nat) (q : Nat → Bool) : List (List AV) := bools ((List.range n).map q)
def tabAV (T : List (List Bool)) : AV := .list 1 (T.map fun r => [.list 1 (bools r)])
def tRows (ms : List (Nat × Nat)) (n : Nat) : List (List AV) := ms.map (fun m => [AV.own m.1 m.2]) ++ List.replicate (n - ms.length) [AV.nil]
structure TP (es : List Ent) (lo it st : Nat) (ms : List (Nat × Nat)) (n : Nat) (p : Nat → Nat → Bool) : Prop where
  t : at_ es it = some (.row st 60 1 (tRows ms n))
  r : ∀ i (h : i < ms.length), at_ es ms[i].1 = some (.row ms[i].2 4 1 (boolRow n (p i)))
  lt : ms.length ≤ n
  nd : (it :: ms.map Prod.fst).Nodup
  lo : ∀ id ∈ it :: ms.map Prod.fst, lo ≤ id
/-- What lies below is al' it was. -/
def KB (base es : List Ent) : Prop := (∀ id, id < base.length → at_ es id = at_ base id) ∧ base.length ≤ es.length
theorem KB.refl (es : List Ent) : KB es es := ⟨fun _ _ => rfl, Nat.le_refl _⟩
theorem KB.trans {a b c : List Ent} (h : KB a b) (k : KB b c) : KB a c := ⟨fun id hi => (k.1 id (Nat.lt_of_lt_of_le hi h.2)).trans (h.1 id hi), Nat.le_trans h.2 k.2⟩
theorem KB.push {base es : List Ent} (x : Ent) (h : KB base es) : KB base (x :: es) := ⟨fun id hi => (at_push x (Nat.lt_of_lt_of_le hi h.2)).trans (h.1 id hi), by have := h.2; simp only [List.length_cons]; omega⟩
theorem KB.put {base es : List Ent} (h : KB base es) {id : Nat} (hid : base.length ≤ id) (y : Ent) : KB base (setAt es id y) := ⟨fun i hi => (at_setAt_ne y (by omega)).trans (h.1 i hi), by rw [setAt_len]; exact h.2⟩
theorem KB.pop {x : Ent} {es es2 : List Ent} (h : KB (x :: es) es2) : KB es es2 :=
  ⟨fun i hi => (h.1 i (by simp only [List.length_cons]; omega)).trans (at_push _ hi), by have := h.2; simp only [List.length_cons] at this; omega⟩
theorem KB.sub {base es : List Ent} (h : KB base es) : Sub base es := sub_of h.1
theorem boolRow_len (n : Nat) (q : Nat → Bool) : (boolRow n q).length = n := by simp [boolRow, bools]
theorem boolRow_at {n j : Nat} (q : Nat → Bool) (h : j < n) : (boolRow n q)[j]? = some [.bool (q j)] := by simp [boolRow, bools, h]
theorem boolRow_set {n j : Nat} (q : Nat → Bool) (v : Bool) (h : j < n) : (boolRow n q).set j [.bool v] = boolRow n (fun x => if x = j then v else q x) := by
  refine List.ext_getElem (by simp [boolRow, bools]) fun i h1 h2 => ?_
  simp only [boolRow, bools, List.getElem_set, List.getElem_map, List.getElem_range]
  by_cases hi : j = i
  · subst hi; simp
  · rw [if_neg hi, if_neg (Ne.symm hi)]
theorem boolRow_congr {n : Nat} {p q : Nat → Bool} (h : ∀ i, i < n → p i = q i) : boolRow n p = boolRow n q := by
  unfold boolRow
  congr 1
  exact List.map_congr_left fun i hi => h i (List.mem_range.1 hi)
theorem boolRow_none (n : Nat) : List.replicate n [AV.bool false] = boolRow n (fun _ => false) := by
  refine List.ext_getElem (by simp [boolRow, bools]) fun i h1 h2 => ?_
  simp [boolRow, bools]
theorem TP.push {es : List Ent} {lo it st n : Nat} {ms : List (Nat × Nat)} {p : Nat → Nat → Bool} (x : Ent) (h : TP es lo it st ms n p) : TP (x :: es) lo it st ms n p :=
  ⟨at_miss _ h.t, fun i hi => at_miss _ (h.r i hi), h.lt, h.nd, h.lo⟩
section
variable {P : Program} {w0 : World} {N : Nat} {f : Frame} {base es : List Ent} {K : Exit → Frame → List Ent → Prop}
end
end Go.Proofs.YtfdgbghlanbddaaDoor.Av
set_option linter.unusedVariables false
set_option linter.unusedSimpArgs false
set_option maxRecDepth 8000
namespace Go.Proofs.YtfdgbghlanbddaaDoor.Av
open Go.RowKit Go.Proofs
def jp (p q : Nat → Nat → Bool) (i j a b : Nat) : Bool := if a < i ∨ (a = i ∧ b < j) then p a b || q a b else p a b
/-- What row i has when the ways through places ahead of j are laid, and those through j up to k. -/
def bq (p q : Nat → Nat → Bool) (i j k x : Nat) : Bool := ((List.range j).any fun m => decide (i ≤ m) && decide (m ≤ x) && p i m && q m x) || (p i j && decide (j ≤ x) && decide (x < k) && q j x)
end Go.Proofs.YtfdgbghlanbddaaDoor.Av
set_option linter.unusedVariables false
set_option linter.unusedSimpArgs false
namespace Go.Proofs.YtfdgbghlanbddaaDoor.Av
open Go.RowKit
section
variable {P : Program} {w0 : World} {N : Nat} {f : Frame} {base es : List Ent} {K : Exit → Frame → List Ent → Prop}
end
/-! ### the empty word, one byte -/
def dg (i a b : Nat) : Bool := decide (a = b) && decide (a < i)
theorem sl_nil {w : List Int} {a b : Nat} (h1 : a ≤ b) (h2 : b ≤ w.length) : sl w a b = [] ↔ a = b := by
  constructor
  · intro h
    have := sl_len (w := w) (i := a) h2
    rw [h] at this
    simp at this
    omega
  · rintro rfl; exact sl_self w a
def sg (s : W4) (w : List Int) (i a b : Nat) : Bool := decide (b = a + 1) && decide (a < i) && s.hasI (w.getD a 0)
/-! ### alternatives, one behind the other -/
/-! ### any number -/
open Classical in
noncomputable def sjb (P : List Int → Prop) (w : List Int) (i j b : Nat) : Bool := decide (b = i ∨ ∃ m, i ≤ m ∧ m < j ∧ m < b ∧ SR P w i m ∧ P (sl w m b))
noncomputable def sk (P : List Int → Prop) (w : List Int) (i j k b : Nat) : Bool := sjb P w i j b || (decide (j < b) && decide (b < k) && sjb P w i j j && langP P w j b)
/-- The table when rows ahead of i are done, and row i by q. -/
noncomputable def rowI (P : List Int → Prop) (w : List Int) (i : Nat) (q : Nat → Bool) (a b : Nat) : Bool := if a < i then langP (Star P) w a b else if a = i then q b else false
/-- The table of the starred one: empty rows, if there is not just one. -/
noncomputable def rowO (one : Bool) (P : List Int → Prop) (w : List Int) (n j : Nat) : List Bool := if one = true then (List.range n).map (langP P w j) else []
noncomputable def tabO (one : Bool) (P : List Int → Prop) (w : List Int) (n : Nat) : List (List Bool) := (List.range n).map (rowO one P w n)
end Go.Proofs.YtfdgbghlanbddaaDoor.Av
set_option linter.unusedVariables false
set_option linter.unusedSimpArgs false
set_option maxRecDepth 8000
namespace Go.Proofs.YtfdgbghlanbddaaDoor.Av
open Go.RowKit Go.Proofs
theorem one_arg {l : List Rx} (h : l.length = 1) : ∀ x, (l[0]'(by omega)).lang x ↔ Rx.langOne l x := by
  match l, h with
  | [a], _ => intro x; rw [langOne_iff]; simp
open Classical in
noncomputable def inR (r : Rx) (w : List Int) : Bool := decide (r.lang w)
theorem inR_iff {r : Rx} {w : List Int} : inR r w = true ↔ r.lang w := by unfold inR; simp only [decide_eq_true_eq]
end Go.Proofs.YtfdgbghlanbddaaDoor.Av
set_option linter.unusedVariables false
set_option linter.unusedSimpArgs false
namespace Go.Proofs.YtfdgbghlanbddaaDoor.Av
/-! ### what the machine of an expression runs -/
/-- From a state to t, come to for the first time. -/
inductive PathTo (M : List St) (t : Nat) : Nat → List Int → Prop
  | done : PathTo M t t []
  | eps {i j : Nat} {w : List Int} {s : St} : M[i]? = some s → i ≠ t → (j : Int) ∈ s.free → PathTo M t j w → PathTo M t i w
  | byte {i j : Nat} {b : Int} {w : List Int} {s : St} : M[i]? = some s → i ≠ t → s.to = (j : Int) → s.has b = true → PathTo M t j w → PathTo M t i (b :: w)
def edgeIn (s : St) (P : Nat → Prop) : Prop := (∀ x ∈ s.free, ∃ j : Nat, x = (j : Int) ∧ P j) ∧ (s.to = -1 ∨ ∃ j : Nat, s.to = (j : Int) ∧ P j)
theorem edgeIn.mono {s : St} {P Q : Nat → Prop} (h : edgeIn s P) (k : ∀ j, P j → Q j) : edgeIn s Q :=
  ⟨fun x hx => (h.1 x hx).elim fun j hj => ⟨j, hj.1, k j hj.2⟩, h.2.elim .inl fun ⟨j, h1, h2⟩ => .inr ⟨j, h1, k j h2⟩⟩
structure Frag (M : List St) (a b f t : Nat) (L : List Int → Prop) : Prop where
  hf : a ≤ f ∧ f < b
  ht : a ≤ t ∧ t < b
  hb : b ≤ M.length
  cl : ∀ i s, M[i]? = some s → a ≤ i → i < b → i ≠ t → edgeIn s fun j => a ≤ j ∧ j < b
  la : ∀ w, PathTo M t f w ↔ L w
theorem path_agree {M M' : List St} {a b t : Nat} (cl : ∀ i s, M[i]? = some s → a ≤ i → i < b → i ≠ t → edgeIn s fun j => a ≤ j ∧ j < b) (e : ∀ i, a ≤ i → i < b → i ≠ t → M'[i]? = M[i]?) {i : Nat} {w : List Int} (h : PathTo M t i w) (h1 : a ≤ i) (h2 : i < b) : PathTo M' t i w := by
  induction h with
  | done => exact .done
  | @eps i j w s hs ht hm _ ih =>
    obtain ⟨k, e1, e2⟩ := (cl _ s hs h1 h2 ht).1 _ hm
    have : j = k := by omega
    subst this
    exact .eps (by rw [e _ h1 h2 ht]; exact hs) ht hm (ih e2.1 e2.2)
  | @byte i j b w s hs ht hm hh _ ih =>
    rcases (cl _ s hs h1 h2 ht).2 with e1 | ⟨k, e1, e2⟩
    · rw [hm] at e1; omega
    · have : j = k := by omega
      subst this
      exact .byte (by rw [e _ h1 h2 ht]; exact hs) ht hm hh (ih e2.1 e2.2)
theorem Frag.agree {M M' : List St} {a b f t : Nat} {L : List Int → Prop} (h : Frag M a b f t L) (hl : b ≤ M'.length) (e : ∀ i, a ≤ i → i < b → i ≠ t → M'[i]? = M[i]?) : Frag M' a b f t L := by
  have cl' : ∀ i s, M'[i]? = some s → a ≤ i → i < b → i ≠ t → edgeIn s fun j => a ≤ j ∧ j < b := fun i s hs h1 h2 h3 => h.cl i s (by rw [← e i h1 h2 h3]; exact hs) h1 h2 h3
  refine ⟨h.hf, h.ht, hl, cl', fun w => ?_⟩
  rw [← h.la]
  exact ⟨fun k => path_agree cl' (fun i h1 h2 h3 => (e i h1 h2 h3).symm) k h.hf.1 h.hf.2, fun k => path_agree h.cl e k h.hf.1 h.hf.2⟩
/-- On from a fragment's end. -/
theorem path_app {M : List St} {m t : Nat} {i : Nat} {u v : List Int} (h : PathTo M m i u) (k : PathTo M t m v) {P : Nat → Prop} (hp : ∀ i, P i → i ≠ m → i ≠ t) (hc : ∀ i s, M[i]? = some s → P i → i ≠ m → edgeIn s P) (hi : P i) : PathTo M t i (u ++ v) := by
  induction h with
  | done => exact k
  | @eps i j w s hs ht hm _ ih =>
    obtain ⟨x, e1, e2⟩ := (hc _ s hs hi ht).1 _ hm
    have : j = x := by omega
    subst this
    exact .eps hs (hp _ hi ht) hm (ih e2)
  | @byte i j b w s hs ht hm hh _ ih =>
    rcases (hc _ s hs hi ht).2 with e1 | ⟨x, e1, e2⟩
    · rw [hm] at e1; omega
    · have : j = x := by omega
      subst this
      exact .byte hs (hp _ hi ht) hm hh (ih e2)
/-- Whoever leaves a fragment comes by its end. -/
theorem path_cut {M : List St} {m t : Nat} {i : Nat} {w : List Int} (h : PathTo M t i w) {P : Nat → Prop} (hp : ∀ i, P i → i ≠ t) (hc : ∀ i s, M[i]? = some s → P i → i ≠ m → edgeIn s P) (hi : P i) : ∃ u v, w = u ++ v ∧ PathTo M m i u ∧ PathTo M t m v := by
  induction h with
  | done => exact absurd rfl (hp _ hi)
  | @eps i j w s hs ht hm hk ih =>
    by_cases him : i = m
    · subst him
      exact ⟨[], w, rfl, .done, .eps hs ht hm hk⟩
    · obtain ⟨x, e1, e2⟩ := (hc _ s hs hi him).1 _ hm
      have : j = x := by omega
      subst this
      obtain ⟨u, v, h1, h2, h3⟩ := ih e2
      exact ⟨u, v, h1, .eps hs him hm h2, h3⟩
  | @byte i j b w s hs ht hm hh hk ih =>
    by_cases him : i = m
    · subst him
      exact ⟨[], b :: w, rfl, .done, .byte hs ht hm hh hk⟩
    · rcases (hc _ s hs hi him).2 with e1 | ⟨x, e1, e2⟩
      · rw [hm] at e1; omega
      · have : j = x := by omega
        subst this
        obtain ⟨u, v, h1, h2, h3⟩ := ih e2
        exact ⟨b :: u, v, by rw [h1]; rfl, .byte hs him hm hh h2, h3⟩
/-- From a state that has ways alone. -/
theorem path_free {M : List St} {t i : Nat} {s : St} {w : List Int} (hs : M[i]? = some s) (ht : i ≠ t) (hto : s.to = -1) : PathTo M t i w ↔ ∃ j : Nat, (j : Int) ∈ s.free ∧ PathTo M t j w := by
  constructor
  · intro h
    cases h with
    | done => exact absurd rfl ht
    | @eps _ j _ s' hs' _ hm hk =>
      rw [hs] at hs'
      injection hs' with hs'
      subst hs'
      exact ⟨j, hm, hk⟩
    | @byte _ j _ _ s' hs' _ hm _ _ =>
      rw [hs] at hs'
      injection hs' with hs'
      subst hs'
      rw [hto] at hm; omega
  · rintro ⟨j, h1, h2⟩
    exact .eps hs ht h1 h2
theorem path_end {M : List St} {t : Nat} {w : List Int} (h : PathTo M t t w) : w = [] := by
  cases h with
  | done => rfl
  | eps _ hne _ _ => exact absurd rfl hne
  | byte _ hne _ _ _ => exact absurd rfl hne
theorem path_inv {M : List St} {t i : Nat} {s : St} {w : List Int} (h : PathTo M t i w) (ht : i ≠ t) (hs : M[i]? = some s) : (∃ j : Nat, (j : Int) ∈ s.free ∧ PathTo M t j w) ∨ ∃ (j : Nat) (b : Int) (v : List Int), w = b :: v ∧ s.to = (j : Int) ∧ s.has b = true ∧ PathTo M t j v := by
  cases h with
  | done => exact absurd rfl ht
  | @eps _ j _ s' hs' _ hm hk =>
    rw [hs] at hs'
    injection hs' with hs'
    subst hs'
    exact .inl ⟨j, hm, hk⟩
  | @byte _ j b v s' hs' _ hm hh hk =>
    rw [hs] at hs'
    injection hs' with hs'
    subst hs'
    exact .inr ⟨j, b, v, rfl, hm, hh, hk⟩
/-! ### pieces -/
theorem bFree_get {ns : List St} {i j k : Nat} : (bFree ns i j)[k]? = if k = i then (ns[k]?).map (addFree · j) else ns[k]? := by
  by_cases h : i < ns.length
  · rw [bFree_eq h, List.getElem?_set]
    by_cases hk : k = i
    · subst hk
      rw [if_pos rfl, if_pos h, if_pos rfl, List.getElem?_eq_getElem h]
      rfl
    · rw [if_neg (Ne.symm hk), if_neg hk]
  · have e : bFree ns i j = ns := by
      unfold bFree
      rw [List.getElem?_eq_none (show ns.length ≤ i by omega)]
    rw [e]
    by_cases hk : k = i
    · subst hk
      rw [if_pos rfl, List.getElem?_eq_none (by omega)]
      rfl
    · rw [if_neg hk]
structure Part (ns : List St) (p : List St × Nat × Nat) (L : List Int → Prop) : Prop where
  len : ns.length ≤ p.1.length
  old : ∀ i, i < ns.length → p.1[i]? = ns[i]?
  frag : Frag p.1 ns.length p.1.length p.2.1 p.2.2 L
  out : ∃ s, p.1[p.2.2]? = some s ∧ s.free = [] ∧ s.to = -1
  few : ∀ i s, p.1[i]? = some s → ns.length ≤ i → s.free.length ≤ 2
theorem get_lt {M : List St} {i : Nat} {s : St} (h : M[i]? = some s) : i < M.length := (List.getElem?_eq_some_iff.1 h).1
theorem app_old {a b : List St} {i : Nat} (h : i < a.length) : (a ++ b)[i]? = a[i]? := List.getElem?_append_left h
theorem app_0 {a : List St} {x : St} {t : List St} : (a ++ x :: t)[a.length]? = some x := by rw [List.getElem?_append_right (Nat.le_refl _)]; simp
theorem app_1 {a : List St} {x y : St} {t : List St} : (a ++ x :: y :: t)[a.length + 1]? = some y := by rw [List.getElem?_append_right (by omega)]; simp
/-- Three cases of a place in a list that was lengthened by two. -/
theorem app_two {a : List St} {x y s : St} {i : Nat} (h : (a ++ [x, y])[i]? = some s) (hi : a.length ≤ i) : (i = a.length ∧ s = x) ∨ (i = a.length + 1 ∧ s = y) := by
  have hl := get_lt h
  simp at hl
  by_cases h1 : i = a.length
  · subst h1; rw [app_0] at h; injection h with h; exact .inl ⟨rfl, h.symm⟩
  · have h2 : i = a.length + 1 := by omega
    subst h2; rw [app_1] at h; injection h with h; exact .inr ⟨rfl, h.symm⟩
theorem part_set (s : W4) (ns : List St) : Part ns (ns ++ [st0, ⟨s.w0, s.w1, s.w2, s.w3, (ns.length : Int), []⟩], ns.length + 1, ns.length) fun w => ∃ b, w = [b] ∧ s.hasI b = true := by
  have h1 : (ns ++ [st0, ⟨s.w0, s.w1, s.w2, s.w3, (ns.length : Int), []⟩])[ns.length + 1]? = some ⟨s.w0, s.w1, s.w2, s.w3, (ns.length : Int), []⟩ := app_1
  refine ⟨by simp, fun i hi => app_old hi, ⟨by simp, by simp, by simp, fun i x hx h2 h3 h4 => ?_, fun w => ?_⟩, ⟨st0, app_0, rfl, rfl⟩, fun i x hx h2 => ?_⟩
  · rcases app_two hx h2 with ⟨h5, _⟩ | ⟨h5, h6⟩
    · exact absurd h5 h4
    · subst h6
      exact ⟨fun y hy => by simp at hy, .inr ⟨ns.length, rfl, by simp⟩⟩
  · constructor
    · intro h
      rcases path_inv h (by dsimp only; omega) h1 with ⟨j, hj, _⟩ | ⟨j, b, v, rfl, hj, hb, hk⟩
      · simp at hj
      · have : j = ns.length := by simp at hj; omega
        subst this
        have := path_end hk
        subst this
        exact ⟨b, rfl, hb⟩
    · rintro ⟨b, rfl, hb⟩
      exact .byte h1 (by dsimp only; omega) rfl hb .done
  · rcases app_two hx h2 with ⟨_, h6⟩ | ⟨_, h6⟩ <;> (subst h6; simp [st0, stF])
theorem part_none (ns : List St) : Part ns (ns ++ [st0, st0], ns.length, ns.length + 1) fun _ => False := by
  have h1 : (ns ++ [st0, st0])[ns.length]? = some st0 := app_0
  refine ⟨by simp, fun i hi => app_old hi, ⟨by simp, by simp, by simp, fun i x hx h2 h3 h4 => ?_, fun w => ?_⟩, ⟨st0, app_1, rfl, rfl⟩, fun i x hx h2 => ?_⟩
  · rcases app_two hx h2 with ⟨_, h6⟩ | ⟨_, h6⟩ <;> (subst h6; exact ⟨fun y hy => by simp [st0, stF] at hy, .inl rfl⟩)
  · dsimp only
    rw [path_free h1 (by omega) rfl]
    simp [st0, stF]
  · rcases app_two hx h2 with ⟨_, h6⟩ | ⟨_, h6⟩ <;> (subst h6; simp [st0, stF])
theorem part_empty (ns : List St) : Part ns (bFree (ns ++ [st0, st0]) ns.length (ns.length + 1), ns.length, ns.length + 1) fun w => w = [] := by
  have hl : (bFree (ns ++ [st0, st0]) ns.length (ns.length + 1)).length = ns.length + 2 := by rw [bFree_len]; simp
  have h0 : (bFree (ns ++ [st0, st0]) ns.length (ns.length + 1))[ns.length]? = some (addFree st0 (ns.length + 1)) := by rw [bFree_get, if_pos rfl, app_0]; rfl
  have h1 : (bFree (ns ++ [st0, st0]) ns.length (ns.length + 1))[ns.length + 1]? = some st0 := by rw [bFree_get, if_neg (by omega), app_1]
  have two : ∀ i x, (bFree (ns ++ [st0, st0]) ns.length (ns.length + 1))[i]? = some x → ns.length ≤ i → (i = ns.length ∧ x = addFree st0 (ns.length + 1)) ∨ (i = ns.length + 1 ∧ x = st0) := by
    intro i x hx hi
    have := get_lt hx
    by_cases h : i = ns.length
    · subst h; rw [h0] at hx; injection hx with hx; exact .inl ⟨rfl, hx.symm⟩
    · have h2 : i = ns.length + 1 := by omega
      subst h2; rw [h1] at hx; injection hx with hx; exact .inr ⟨rfl, hx.symm⟩
  refine ⟨by dsimp only; omega, fun i hi => ?_, ⟨by dsimp only; omega, by dsimp only; omega, Nat.le_refl _, fun i x hx h2 h3 h4 => ?_, fun w => ?_⟩, ⟨st0, h1, rfl, rfl⟩, fun i x hx h2 => ?_⟩
  · dsimp only; rw [bFree_get, if_neg (by omega), app_old hi]
  · rcases two i x hx h2 with ⟨_, h6⟩ | ⟨h5, h6⟩
    · subst h6
      refine ⟨fun y hy => ?_, .inl rfl⟩
      simp [addFree, st0, stF] at hy
      exact ⟨ns.length + 1, hy, by omega, by dsimp only; omega⟩
    · exact absurd h5 h4
  · dsimp only
    rw [path_free h0 (by omega) rfl]
    constructor
    · rintro ⟨j, hj, hk⟩
      simp [addFree, st0, stF] at hj
      have : j = ns.length + 1 := by omega
      subst this
      exact path_end hk
    · rintro rfl
      exact ⟨ns.length + 1, by simp [addFree, st0, stF], .done⟩
  · rcases two i x hx h2 with ⟨_, h6⟩ | ⟨_, h6⟩ <;> (subst h6; simp [addFree, st0, stF])
theorem Part.congr {ns : List St} {p : List St × Nat × Nat} {L L' : List Int → Prop} (h : Part ns p L) (e : ∀ w, L w ↔ L' w) : Part ns p L' :=
  ⟨h.len, h.old, ⟨h.frag.hf, h.frag.ht, h.frag.hb, h.frag.cl, fun w => (h.frag.la w).trans (e w)⟩, h.out, h.few⟩
end Go.Proofs.YtfdgbghlanbddaaDoor.Av
