import Derived.Test.YtfdgbghlanbddaaDoorAvK0
import Derived.Test.YtfdgbghlanbddaaDoorAvK1
import Derived.Lib.TrailingZeros
import Derived.Laws.Bits64b
set_option linter.unusedVariables false
set_option linter.unusedSimpArgs false
set_option maxRecDepth 8000
namespace Go.Proofs.YtfdgbghlanbddaaDoor.Av
open Go.RowKit Go.Proofs
theorem bytesetHas {w0 : World} {es : List Ent} (c0 c1 c2 c3 b : Int) (hb0 : 0 ≤ b) (hb1 : b < 256) : ACalls Tryd.prog w0 100 [.agg [.int .u64 c0, .int .u64 c1, .int .u64 c2, .int .u64 c3], .int .u8 b] es fun v es' => v = .bool (hasW c0 c1 c2 c3 b) ∧ es' = es := by
 obtain ⟨q, hq4, hq, hw⟩ := word_at c0 c1 c2 c3 hb0 hb1
 refine calls2 (N := 14) Tryd.func100 rfl rfl (by decide) ?_
 refine w_seq ?_
 refine w_region ?_
 refine l_cons rfl (p_box fun s2 => ?_)
 refine l_cons rfl (p_assign ?_)
 refine l_nil ?_
 refine k_seq_normal ?_
 refine w_seq ?_
 refine w_region ?_
 refine l_cons rfl (p_move ?_)
 refine l_cons rfl (p_arith ?_ (hb := quo64 hb0 hb1))
 refine l_cons rfl (p_ixa ar_26 (a := .ptr es.length s2 0 q) ?_ (h0 := by omega) (h1 := by omega) (ho := by rw [hq]; simp))
 refine l_cons rfl (p_loadp ty_24 (a := .int .u64 (word c0 c1 c2 c3 b)) ?_ (hl := by simp only [List.length_cons, List.length_nil]; omega) (ha := hw))
 refine l_cons rfl (p_move ?_)
 refine l_cons rfl (p_arith ?_ (hb := rem64 hb0))
 refine l_cons rfl (p_shr ?_)
 refine l_cons rfl (p_arith ?_ (hb := and1 _))
 refine l_cons rfl (p_cmp ?_)
 refine l_cons rfl (p_assign ?_)
 refine l_nil ?_
 refine k_seq_normal ?_
 refine w_ret ?_
 refine ret1b rfl ?_ <;> exact ex2 subx ⟨rfl, rfl⟩
theorem ref1Has {w0 : World} {es : List Ent} (c0 c1 c2 c3 b : Int) (hb0 : 0 ≤ b) (hb1 : b < 256) (hc0 : 0 ≤ c0) (hc1 : 0 ≤ c1) (hc2 : 0 ≤ c2) (hc3 : 0 ≤ c3) : ACalls Tryd.prog w0 55 [.agg [.int .u64 c0, .int .u64 c1, .int .u64 c2, .int .u64 c3], .int .u8 b] es fun v es' => v = .bool (hasW c0 c1 c2 c3 b) ∧ es' = es := by
 obtain ⟨q, hq4, hq, hw⟩ := word_at c0 c1 c2 c3 hb0 hb1
 refine calls2 (N := 14) Tryd.func55 rfl rfl (by decide) ?_
 refine w_seq ?_
 refine w_region ?_
 refine l_cons rfl (p_box fun s2 => ?_)
 refine l_cons rfl (p_assign ?_)
 refine l_nil ?_
 refine k_seq_normal ?_
 refine w_seq ?_
 refine w_region ?_
 refine l_cons rfl (p_move ?_)
 refine l_cons rfl (p_arith ?_ (hb := quo64 hb0 hb1))
 refine l_cons rfl (p_ixa ar_26 (a := .ptr es.length s2 0 q) ?_ (h0 := by omega) (h1 := by omega) (ho := by rw [hq]; simp))
 refine l_cons rfl (p_loadp ty_24 (a := .int .u64 (word c0 c1 c2 c3 b)) ?_ (hl := by simp only [List.length_cons, List.length_nil]; omega) (ha := hw))
 refine l_cons rfl (p_move ?_)
 refine l_cons rfl (p_arith ?_ (hb := rem64 hb0))
 refine l_cons rfl (p_shr ?_)
 refine l_cons rfl (p_arith ?_ (hb := rem2 (shr_nonneg (word_nonneg hc0 hc1 hc2 hc3 b) _)))
 refine l_cons rfl (p_cmp ?_)
 refine l_cons rfl (p_assign ?_)
 refine l_nil ?_
 refine k_seq_normal ?_
 refine w_ret ?_
 refine ret1b rfl ?_ <;> exact ex2 subx ⟨rfl, rfl⟩
theorem index_walk {w0 : World} {es : List Ent} (l : List Int) (x : Int) : ACalls Tryd.prog w0 117 [ints l, .int .i64 x] es fun v es' => v = .int .i64 (firstIdx (fun y => decide (x = y)) l) ∧ es' = es := by
 unfold ints
 refine calls2 (N := 19) Tryd.func117 rfl rfl (by decide) ?_
 refine w_seq ?_
 refine w_region ?_
 refine l_cons rfl (p_assign ?_)
 refine l_nil ?_
 refine k_seq_normal ?_
 refine w_seq ?_
 refine w_seq ?_
 refine w_len 0 fun hl => ?_
 rw [List.length_map] at hl
 simp only [most] at hl
 refine w_region ?_
 refine l_cons rfl (p_move ?_)
 refine l_cons rfl (p_lenl sl_48 ?_)
 refine l_cons rfl (p_move ?_)
 refine l_nil ?_
 refine k_seq_normal ?_
 refine w_block ?_
 refine w_loop (fun n f es' => ∃ k, n = l.length - k ∧ k ≤ l.length ∧ (∀ j (hj : j < k) (hjl : j < l.length), decide (x = l[j]) = false) ∧ es' = es ∧ Knows f [(0, .list 1 (l.map fun n => [.int .i64 n])), (1, .int .i64 x), (7, .int .i64 l.length), (8, .int .i64 k)]) (l.length) (⟨0, rfl, Nat.zero_le _, fun j hj => absurd hj (Nat.not_lt_zero _), rfl, by simp only [Knows, upd_apply, Nat.reduceEqDiff, ↓reduceIte, and_true, true_and, eq_self] <;> and_intros <;> rfl⟩) ?_
 rintro n f es' ⟨k, rfl, hk1, hk2, rfl, hk⟩
 refine w_pins _ (Sub.refl _) (hk) ?_
 simp only [pins]
 refine w_seq ?_
 refine w_region ?_
 refine l_cons rfl (p_cmp ?_)
 refine l_nil ?_
 refine k_seq_normal ?_
 refine w_seq ?_
 refine w_b (fun h1 => ?_) (fun h1 => ?_)
 ·skip
  have h1' := h1; (try simp only [decide_eq_true_eq, decide_eq_false_iff_not, Bool.not_eq_true', Bool.not_false, Bool.not_true, Bool.not_eq_false'] at h1')
  refine w_skip ?_
  refine k_seq_normal ?_
  refine w_seq ?_
  refine w_block ?_
  refine w_seq ?_
  refine w_region ?_
  refine l_cons rfl (p_move ?_)
  refine l_cons rfl (p_assign ?_)
  refine l_nil ?_
  refine k_seq_normal ?_
  refine w_seq ?_
  refine w_region ?_
  refine l_cons rfl (p_move ?_)
  refine l_cons rfl (p_move ?_)
  refine l_cons rfl (p_move ?_)
  refine l_cons rfl (p_ixl sl_48 ?_)
  refine l_cons rfl (p_loadf ty_3 ?_)
  refine l_cons rfl (p_cmp ?_)
  refine l_nil ?_
  refine k_seq_normal ?_
  refine w_b (fun h2 => ?_) (fun h2 => ?_)
  ·skip
   have h2' := h2; (try simp only [decide_eq_true_eq, decide_eq_false_iff_not, Bool.not_eq_true', Bool.not_false, Bool.not_true, Bool.not_eq_false'] at h2')
   refine w_seq ?_
   refine w_region ?_
   refine l_cons rfl (p_move ?_)
   refine l_cons rfl (p_assign ?_)
   refine l_nil ?_
   refine k_seq_normal ?_
   refine w_ret ?_
   refine k_blk_ret ?_
   refine k_seq_ret ?_
   refine k_seq_ret ?_
   refine k_blk_ret ?_
   refine k_seq_ret ?_
   exact ret1 rfl (by simp only [ev_tmp, ev_const, ev_func, ofConst_int, ofConst_bool, ofConst_str, ofConst_nil, upd_apply, Nat.reduceEqDiff, ↓reduceIte] <;> exact rfl) (Sub.refl _) ⟨by rw [firstIdx_at (l := l) (k := k) (by omega) (fun j hj => hk2 j hj (by omega)) (by assumption)], rfl⟩
  ·skip
   have h2' := h2; (try simp only [decide_eq_true_eq, decide_eq_false_iff_not, Bool.not_eq_true', Bool.not_false, Bool.not_true, Bool.not_eq_false'] at h2')
   refine w_skip ?_
   refine k_blk_normal ?_
   refine k_seq_normal ?_
   refine w_region ?_
   refine l_cons rfl (p_arith ?_)
   refine l_cons rfl (p_move ?_)
   refine l_nil ?_
   refine k_seq_normal ?_
   exact ⟨l.length - (k + 1), by omega, k + 1, rfl, by omega, fun j hj hjl => by
    rcases Nat.lt_or_eq_of_le (Nat.le_of_lt_succ hj) with h9 | h9
    ·exact hk2 j h9 hjl
    ·subst h9; assumption, rfl, by simp only [Knows, upd_apply, Nat.reduceEqDiff, ↓reduceIte, and_true, true_and, eq_self] <;> and_intros <;> rfl⟩
 ·skip
  have h1' := h1; (try simp only [decide_eq_true_eq, decide_eq_false_iff_not, Bool.not_eq_true', Bool.not_false, Bool.not_true, Bool.not_eq_false'] at h1')
  refine w_exit ?_
  refine k_seq_exit ?_
  refine k_seq_exit ?_
  refine k_blk_here ?_
  refine k_seq_normal ?_
  refine w_seq ?_
  refine w_region ?_
  refine l_cons rfl (p_assign ?_)
  refine l_nil ?_
  refine k_seq_normal ?_
  refine w_ret ?_
  exact ret1 rfl (by simp only [ev_tmp, ev_const, ev_func, ofConst_int, ofConst_bool, ofConst_str, ofConst_nil, upd_apply, Nat.reduceEqDiff, ↓reduceIte] <;> exact rfl) (Sub.refl _) ⟨by rw [firstIdx_no (l := l) (fun j hj => hk2 j (by omega) hj)], rfl⟩
theorem contains_walk {w0 : World} {es : List Ent} (l : List Int) (x : Int) : ACalls Tryd.prog w0 80 [ints l, .int .i64 x] es fun v es' => v = .bool (l.contains x) ∧ es' = es := by
 refine calls2 (N := 9) Tryd.func80 rfl rfl (by decide) ?_
 refine w_seq ?_
 refine w_region ?_
 refine l_cons rfl (p_assign ?_)
 refine l_nil ?_
 refine k_seq_normal ?_
 refine w_seq ?_
 refine w_region ?_
 refine l_cons rfl (p_move ?_)
 refine l_cons rfl (p_move ?_)
 refine l_cons rfl (p_callr en_117 (index_walk l x) ?_)
 refine l_cons rfl (p_cmp ?_)
 refine l_cons rfl (p_assign ?_)
 refine l_nil ?_
 refine k_seq_normal ?_
 refine w_ret ?_
 refine ret1b rfl ?_ <;> exact ex2 subx ⟨by rw [contains_any, ← firstIdx_ge], rfl⟩
theorem stepped_walk {w0 : World} {es : List Ent} (n : Nf) (l : List Int) (b : Int) (hn : n.st.length ≤ 2000) (hl : l.length ≤ 1099511627776) (hb0 : 0 ≤ b) (hb1 : b < 256) :
  ACalls Tryd.prog w0 79 [n.av, ints l, .int .u8 b] es fun v es' => v = ints (stepped n l b) ∧ es' = es := by
 unfold Nf.av ints
 refine calls3 (N := 57) Tryd.func79 rfl rfl (by decide) ?_
 refine w_seq ?_
 refine w_region ?_
 refine l_cons rfl (p_box fun s3 => ?_)
 refine l_cons rfl (p_assign ?_)
 refine l_nil ?_
 refine k_seq_normal ?_
 refine w_seq ?_
 refine w_region ?_
 refine l_cons rfl (p_assign ?_)
 refine l_nil ?_
 refine k_seq_normal ?_
 refine w_seq ?_
 refine w_seq ?_
 refine w_adopt 7 3 1 rfl fun s7 => ?_
 simp only [upd_upd]
 refine w_region ?_
 refine l_cons rfl (p_move ?_)
 refine l_cons rfl (p_lenl sl_48 ?_)
 refine l_cons rfl (p_move ?_)
 refine l_nil ?_
 refine k_seq_normal ?_
 refine w_block ?_
 refine w_loop (fun m f es' => ∃ k s7, m = l.length - k ∧ k ≤ l.length ∧ es' = .row s7 3 1 ((stepTo n (l.take k) b).map fun n => [.int .i64 n]) :: .row s3 36 3 [n.cells] :: es ∧ Knows f [(2, .int .u8 b), (3, .ptr es.length s3 0 0), (7, .own (es.length + 1) s7), (10, .list 1 (l.map fun n => [.int .i64 n])), (11, .int .i64 l.length), (12, .int .i64 k)]) (l.length) (⟨0, s7, rfl, Nat.zero_le _, rfl, by simp only [Knows, upd_apply, Nat.reduceEqDiff, ↓reduceIte, and_true, true_and, eq_self] <;> and_intros <;> rfl⟩) ?_
 rintro m f es' ⟨k, s7, rfl, hk1, rfl, hk⟩
 have hle := stepTo_le n (l.take k) b
 rw [List.length_take] at hle
 refine w_pins _ (Sub.refl _) (hk) ?_
 simp only [pins]
 refine w_seq ?_
 refine w_region ?_
 refine l_cons rfl (p_cmp ?_)
 refine l_nil ?_
 refine k_seq_normal ?_
 refine w_seq ?_
 refine w_b (fun h1 => ?_) (fun h1 => ?_)
 ·skip
  have h1' := h1; (try simp only [decide_eq_true_eq, decide_eq_false_iff_not, Bool.not_eq_true', Bool.not_false, Bool.not_true, Bool.not_eq_false'] at h1')
  refine w_skip ?_
  refine k_seq_normal ?_
  refine w_seq ?_
  refine w_block ?_
  refine w_seq ?_
  refine w_region ?_
  refine l_cons rfl (p_ixl sl_48 ?_)
  refine l_cons rfl (p_loadf ty_3 ?_)
  refine l_cons rfl (p_assign ?_)
  refine l_nil ?_
  refine k_seq_normal ?_
  refine w_seq ?_
  refine w_region ?_
  refine l_cons rfl (p_move ?_)
  refine l_cons rfl (p_cmp ?_)
  refine l_cons rfl (p_move ?_)
  refine g_b rfl (fun h2 => ?_) (fun h2 => ?_)
  ·skip
   have h2' := h2; (try simp only [decide_eq_true_eq, decide_eq_false_iff_not, Bool.not_eq_true', Bool.not_false, Bool.not_true, Bool.not_eq_false'] at h2')
   refine (p_move ?_)
   refine g_y rfl h2 (p_fap fa_36_0 ?_)
   refine g_y rfl h2 (p_loadp ty_34 ?_)
   first | refine g_y rfl h2 (p_lenl sl_34 ?_) | refine g_y rfl h2 (p_leno sl_34 ?_) | refine g_y rfl h2 (p_lenn sl_34 ?_)
   refine g_y rfl h2 (p_cmp ?_)
   refine l_cons rfl (p_pickt h2 ?_)
   refine l_cons rfl (p_move ?_)
   refine g_b rfl (fun h3 => ?_) (fun h3 => ?_)
   ·skip
    have h3' := h3; (try simp only [decide_eq_true_eq, decide_eq_false_iff_not, Bool.not_eq_true', Bool.not_false, Bool.not_true, Bool.not_eq_false'] at h3')
    refine (p_fap fa_36_0 ?_)
    refine g_y rfl h3 (p_loadp ty_34 ?_)
    refine g_y rfl h3 (p_move ?_)
    first | refine g_y rfl h3 (p_ixl sl_34 ?_) | refine g_y rfl h3 (p_ixo sl_34 ?_)
    first | refine g_y rfl h3 (p_fap fa_75_1 ?_) | refine g_y rfl h3 (p_faf fa_75_1 ?_)
    first | refine g_y rfl h3 (p_loadf ty_3 ?_) | refine g_y rfl h3 (p_loadp ty_3 ?_)
    refine g_y rfl h3 (p_cmp ?_)
    refine l_cons rfl (p_pickt h3 ?_)
    refine l_cons rfl (p_move ?_)
    refine g_b rfl (fun h4 => ?_) (fun h4 => ?_)
    ·skip
     have h4' := h4; (try simp only [decide_eq_true_eq, decide_eq_false_iff_not, Bool.not_eq_true', Bool.not_false, Bool.not_true, Bool.not_eq_false'] at h4')
     refine (p_fap fa_36_0 ?_)
     refine g_y rfl h4 (p_loadp ty_34 ?_)
     refine g_y rfl h4 (p_move ?_)
     first | refine g_y rfl h4 (p_ixl sl_34 ?_) | refine g_y rfl h4 (p_ixo sl_34 ?_)
     first | refine g_y rfl h4 (p_fap fa_75_0 ?_) | refine g_y rfl h4 (p_faf fa_75_0 ?_)
     first | refine g_y rfl h4 (p_loadf ty_26 ?_) | refine g_y rfl h4 (p_loadp ty_26 ?_)
     refine g_y rfl h4 (p_move ?_)
     refine g_y rfl h4 (p_callr en_100 (bytesetHas _ _ _ _ _ hb0 hb1) ?_)
     refine l_cons rfl (p_pickt h4 ?_)
     refine l_nil ?_
     refine k_seq_normal ?_
     refine w_b (fun h5 => ?_) (fun h5 => ?_)
     ·skip
      have h5' := h5; (try simp only [decide_eq_true_eq, decide_eq_false_iff_not, Bool.not_eq_true', Bool.not_false, Bool.not_true, Bool.not_eq_false'] at h5')
      refine w_region ?_
      refine l_cons rfl (p_move ?_)
      refine l_cons rfl (p_fap fa_36_0 ?_)
      refine l_cons rfl (p_loadp ty_34 ?_)
      refine l_cons rfl (p_move ?_)
      first | refine l_cons rfl (p_ixl sl_34 ?_) | refine l_cons rfl (p_ixo sl_34 ?_)
      first | refine l_cons rfl (p_fap fa_75_1 ?_) | refine l_cons rfl (p_faf fa_75_1 ?_)
      first | refine l_cons rfl (p_loadf ty_3 ?_) | refine l_cons rfl (p_loadp ty_3 ?_)
      refine l_cons rfl (p_buildList sl_48 ze_3 ?_)
      refine l_cons rfl (p_append sl_48 by_3 ze_3 (fun s52 => ?_))
      refine l_cons rfl (p_assign ?_)
      refine l_nil ?_
      refine k_blk_normal ?_
      refine k_seq_normal ?_
      refine w_region ?_
      refine l_cons rfl (p_arith ?_)
      refine l_cons rfl (p_move ?_)
      refine l_nil ?_
      refine k_seq_normal ?_
      first
      | exact ⟨l.length - (k + 1), by omega, k + 1, s52, rfl, by omega, by rw [stepTo_succ (by omega), stepOne_yes (by omega) (by omega) (by omega) (by assumption), List.map_append]; rfl, by simp only [Knows, upd_apply, Nat.reduceEqDiff, ↓reduceIte, and_true, true_and, eq_self] <;> and_intros <;> rfl⟩
      | exact ⟨l.length - (k + 1), by omega, k + 1, s7, rfl, by omega, by rw [stepTo_succ (by omega), stepOne_no (by first | exact .inl (by omega) | exact .inr (.inl (by omega)) | exact .inr (.inr ⟨by omega, .inl (by omega)⟩) | exact .inr (.inr ⟨by omega, .inr (by assumption)⟩))]; simp, by simp only [Knows, upd_apply, Nat.reduceEqDiff, ↓reduceIte, and_true, true_and, eq_self] <;> and_intros <;> rfl⟩
     ·skip
      have h5' := h5; (try simp only [decide_eq_true_eq, decide_eq_false_iff_not, Bool.not_eq_true', Bool.not_false, Bool.not_true, Bool.not_eq_false'] at h5')
      refine w_skip ?_
      refine k_blk_normal ?_
      refine k_seq_normal ?_
      refine w_region ?_
      refine l_cons rfl (p_arith ?_)
      refine l_cons rfl (p_move ?_)
      refine l_nil ?_
      refine k_seq_normal ?_
      first
      | exact ⟨l.length - (k + 1), by omega, k + 1, s52, rfl, by omega, by rw [stepTo_succ (by omega), stepOne_yes (by omega) (by omega) (by omega) (by assumption), List.map_append]; rfl, by simp only [Knows, upd_apply, Nat.reduceEqDiff, ↓reduceIte, and_true, true_and, eq_self] <;> and_intros <;> rfl⟩
      | exact ⟨l.length - (k + 1), by omega, k + 1, s7, rfl, by omega, by rw [stepTo_succ (by omega), stepOne_no (by first | exact .inl (by omega) | exact .inr (.inl (by omega)) | exact .inr (.inr ⟨by omega, .inl (by omega)⟩) | exact .inr (.inr ⟨by omega, .inr (by assumption)⟩))]; simp, by simp only [Knows, upd_apply, Nat.reduceEqDiff, ↓reduceIte, and_true, true_and, eq_self] <;> and_intros <;> rfl⟩
    ·skip
     have h4' := h4; (try simp only [decide_eq_true_eq, decide_eq_false_iff_not, Bool.not_eq_true', Bool.not_false, Bool.not_true, Bool.not_eq_false'] at h4')
     refine g_n rfl h4 ?_
     refine g_n rfl h4 ?_
     refine g_n rfl h4 ?_
     refine g_n rfl h4 ?_
     refine g_n rfl h4 ?_
     refine g_n rfl h4 ?_
     refine g_n rfl h4 ?_
     refine l_cons rfl (p_pickf h4 ?_)
     refine l_nil ?_
     refine k_seq_normal ?_
     refine w_f rfl ?_
     refine w_skip ?_
     refine k_blk_normal ?_
     refine k_seq_normal ?_
     refine w_region ?_
     refine l_cons rfl (p_arith ?_)
     refine l_cons rfl (p_move ?_)
     refine l_nil ?_
     refine k_seq_normal ?_
     first
     | exact ⟨l.length - (k + 1), by omega, k + 1, s52, rfl, by omega, by rw [stepTo_succ (by omega), stepOne_yes (by omega) (by omega) (by omega) (by assumption), List.map_append]; rfl, by simp only [Knows, upd_apply, Nat.reduceEqDiff, ↓reduceIte, and_true, true_and, eq_self] <;> and_intros <;> rfl⟩
     | exact ⟨l.length - (k + 1), by omega, k + 1, s7, rfl, by omega, by rw [stepTo_succ (by omega), stepOne_no (by first | exact .inl (by omega) | exact .inr (.inl (by omega)) | exact .inr (.inr ⟨by omega, .inl (by omega)⟩) | exact .inr (.inr ⟨by omega, .inr (by assumption)⟩))]; simp, by simp only [Knows, upd_apply, Nat.reduceEqDiff, ↓reduceIte, and_true, true_and, eq_self] <;> and_intros <;> rfl⟩
   ·skip
    have h3' := h3; (try simp only [decide_eq_true_eq, decide_eq_false_iff_not, Bool.not_eq_true', Bool.not_false, Bool.not_true, Bool.not_eq_false'] at h3')
    refine g_n rfl h3 ?_
    refine g_n rfl h3 ?_
    refine g_n rfl h3 ?_
    refine g_n rfl h3 ?_
    refine g_n rfl h3 ?_
    refine g_n rfl h3 ?_
    refine l_cons rfl (p_pickf h3 ?_)
    refine l_cons rfl (p_move ?_)
    refine g_n rfl rfl ?_
    refine g_n rfl rfl ?_
    refine g_n rfl rfl ?_
    refine g_n rfl rfl ?_
    refine g_n rfl rfl ?_
    refine g_n rfl rfl ?_
    refine g_n rfl rfl ?_
    refine g_n rfl rfl ?_
    refine l_cons rfl (p_pickf rfl ?_)
    refine l_nil ?_
    refine k_seq_normal ?_
    refine w_f rfl ?_
    refine w_skip ?_
    refine k_blk_normal ?_
    refine k_seq_normal ?_
    refine w_region ?_
    refine l_cons rfl (p_arith ?_)
    refine l_cons rfl (p_move ?_)
    refine l_nil ?_
    refine k_seq_normal ?_
    first
    | exact ⟨l.length - (k + 1), by omega, k + 1, s52, rfl, by omega, by rw [stepTo_succ (by omega), stepOne_yes (by omega) (by omega) (by omega) (by assumption), List.map_append]; rfl, by simp only [Knows, upd_apply, Nat.reduceEqDiff, ↓reduceIte, and_true, true_and, eq_self] <;> and_intros <;> rfl⟩
    | exact ⟨l.length - (k + 1), by omega, k + 1, s7, rfl, by omega, by rw [stepTo_succ (by omega), stepOne_no (by first | exact .inl (by omega) | exact .inr (.inl (by omega)) | exact .inr (.inr ⟨by omega, .inl (by omega)⟩) | exact .inr (.inr ⟨by omega, .inr (by assumption)⟩))]; simp, by simp only [Knows, upd_apply, Nat.reduceEqDiff, ↓reduceIte, and_true, true_and, eq_self] <;> and_intros <;> rfl⟩
  ·skip
   have h2' := h2; (try simp only [decide_eq_true_eq, decide_eq_false_iff_not, Bool.not_eq_true', Bool.not_false, Bool.not_true, Bool.not_eq_false'] at h2')
   refine g_n rfl h2 ?_
   refine g_n rfl h2 ?_
   refine g_n rfl h2 ?_
   refine g_n rfl h2 ?_
   refine l_cons rfl (p_pickf h2 ?_)
   refine l_cons rfl (p_move ?_)
   refine g_n rfl rfl ?_
   refine g_n rfl rfl ?_
   refine g_n rfl rfl ?_
   refine g_n rfl rfl ?_
   refine g_n rfl rfl ?_
   refine g_n rfl rfl ?_
   refine g_n rfl rfl ?_
   refine l_cons rfl (p_pickf rfl ?_)
   refine l_cons rfl (p_move ?_)
   refine g_n rfl rfl ?_
   refine g_n rfl rfl ?_
   refine g_n rfl rfl ?_
   refine g_n rfl rfl ?_
   refine g_n rfl rfl ?_
   refine g_n rfl rfl ?_
   refine g_n rfl rfl ?_
   refine g_n rfl rfl ?_
   refine l_cons rfl (p_pickf rfl ?_)
   refine l_nil ?_
   refine k_seq_normal ?_
   refine w_f rfl ?_
   refine w_skip ?_
   refine k_blk_normal ?_
   refine k_seq_normal ?_
   refine w_region ?_
   refine l_cons rfl (p_arith ?_)
   refine l_cons rfl (p_move ?_)
   refine l_nil ?_
   refine k_seq_normal ?_
   first
   | exact ⟨l.length - (k + 1), by omega, k + 1, s52, rfl, by omega, by rw [stepTo_succ (by omega), stepOne_yes (by omega) (by omega) (by omega) (by assumption), List.map_append]; rfl, by simp only [Knows, upd_apply, Nat.reduceEqDiff, ↓reduceIte, and_true, true_and, eq_self] <;> and_intros <;> rfl⟩
   | exact ⟨l.length - (k + 1), by omega, k + 1, s7, rfl, by omega, by rw [stepTo_succ (by omega), stepOne_no (by first | exact .inl (by omega) | exact .inr (.inl (by omega)) | exact .inr (.inr ⟨by omega, .inl (by omega)⟩) | exact .inr (.inr ⟨by omega, .inr (by assumption)⟩))]; simp, by simp only [Knows, upd_apply, Nat.reduceEqDiff, ↓reduceIte, and_true, true_and, eq_self] <;> and_intros <;> rfl⟩
 ·skip
  have h1' := h1; (try simp only [decide_eq_true_eq, decide_eq_false_iff_not, Bool.not_eq_true', Bool.not_false, Bool.not_true, Bool.not_eq_false'] at h1')
  refine w_exit ?_
  refine k_seq_exit ?_
  refine k_seq_exit ?_
  refine k_blk_here ?_
  refine k_seq_normal ?_
  refine w_seq ?_
  refine w_freezeTop 7 ?_
  rw [show k = l.length by omega, List.take_length]
  refine w_region ?_
  refine l_cons rfl (p_loadp ty_36 ?_)
  refine l_cons rfl (p_move ?_)
  refine l_cons rfl (p_callr en_78 (closed_walk n (stepTo n l b) hn) ?_)
  refine l_cons rfl (p_assign ?_)
  refine l_nil ?_
  refine k_seq_normal ?_
  refine w_ret ?_
  refine ret1b rfl ?_ <;> exact ex2 subx ⟨rfl, rfl⟩
end Go.Proofs.YtfdgbghlanbddaaDoor.Av
set_option linter.unusedVariables false
set_option linter.unusedSimpArgs false
set_option maxRecDepth 8000
namespace Go.Proofs.YtfdgbghlanbddaaDoor.Av
open Go.RowKit Go.Proofs
theorem nodes_leaf {w0 : World} {es : List Ent} : ACalls Tryd.prog w0 108 [.agg [.int .i64 3, .int .u64 0, .int .u64 8589934592, .int .u64 0, .int .u64 0, .nil]] es fun v es' => v = .int .i64 1 ∧ es' = es := by
 refine calls1 (N := 19) Tryd.func108 rfl rfl (by decide) ?_
 refine w_seq ?_
 refine w_region ?_
 refine l_cons rfl (p_box fun s1 => ?_)
 refine l_cons rfl (p_assign ?_)
 refine l_nil ?_
 refine k_seq_normal ?_
 refine w_seq ?_
 refine w_region ?_
 refine l_cons rfl (p_assign ?_)
 refine l_nil ?_
 refine k_seq_normal ?_
 refine w_seq ?_
 refine w_seq ?_
 refine w_region ?_
 refine l_cons rfl (p_fap fa_29_2 ?_)
 refine l_cons rfl (p_loadp ty_27 ?_)
 first | refine l_cons rfl (p_lenl sl_27 ?_) | refine l_cons rfl (p_leno sl_27 ?_) | refine l_cons rfl (p_lenn sl_27 ?_)
 refine l_cons rfl (p_move ?_)
 refine l_nil ?_
 refine k_seq_normal ?_
 refine w_block ?_
 refine w_loop (fun m f es' => Sub (.row s1 29 6 [[.int .i64 3, .int .u64 0, .int .u64 8589934592, .int .u64 0, .int .u64 0, .nil]] :: es) es' ∧ Knows f [(3, .int .i64 1), (8, .int .i64 0), (9, .int .i64 0)]) (0) (⟨Sub.refl _, by simp only [Knows, upd_apply, Nat.reduceEqDiff, ↓reduceIte, and_true, true_and, eq_self] <;> and_intros <;> rfl⟩) ?_
 rintro m f es' ⟨hsub, hk⟩
 refine w_pins _ hsub (hk) ?_
 simp only [pins]
 refine w_seq ?_
 refine w_region ?_
 refine l_cons rfl (p_cmpl false ?_)
 refine l_nil ?_
 refine k_seq_normal ?_
 refine w_seq ?_
 refine w_f rfl ?_
 refine w_exit ?_
 refine k_seq_exit ?_
 refine k_seq_exit ?_
 refine k_blk_here ?_
 refine k_seq_normal ?_
 refine w_seq ?_
 refine w_region ?_
 refine l_cons rfl (p_move ?_)
 refine l_cons rfl (p_assign ?_)
 refine l_nil ?_
 refine k_seq_normal ?_
 refine w_ret ?_
 refine ret1b rfl ?_ <;> exact ex2 subx ⟨rfl, rfl⟩
theorem depth_leaf {w0 : World} {es : List Ent} : ACalls Tryd.prog w0 109 [.agg [.int .i64 3, .int .u64 0, .int .u64 8589934592, .int .u64 0, .int .u64 0, .nil]] es fun v es' => v = .int .i64 1 ∧ es' = es := by
 refine calls1 (N := 20) Tryd.func109 rfl rfl (by decide) ?_
 refine w_seq ?_
 refine w_region ?_
 refine l_cons rfl (p_box fun s1 => ?_)
 refine l_cons rfl (p_assign ?_)
 refine l_nil ?_
 refine k_seq_normal ?_
 refine w_seq ?_
 refine w_region ?_
 refine l_cons rfl (p_assign ?_)
 refine l_nil ?_
 refine k_seq_normal ?_
 refine w_seq ?_
 refine w_seq ?_
 refine w_region ?_
 refine l_cons rfl (p_fap fa_29_2 ?_)
 refine l_cons rfl (p_loadp ty_27 ?_)
 first | refine l_cons rfl (p_lenl sl_27 ?_) | refine l_cons rfl (p_leno sl_27 ?_) | refine l_cons rfl (p_lenn sl_27 ?_)
 refine l_cons rfl (p_move ?_)
 refine l_nil ?_
 refine k_seq_normal ?_
 refine w_block ?_
 refine w_loop (fun m f es' => Sub (.row s1 29 6 [[.int .i64 3, .int .u64 0, .int .u64 8589934592, .int .u64 0, .int .u64 0, .nil]] :: es) es' ∧ Knows f [(3, .int .i64 0), (8, .int .i64 0), (9, .int .i64 0)]) (0) (⟨Sub.refl _, by simp only [Knows, upd_apply, Nat.reduceEqDiff, ↓reduceIte, and_true, true_and, eq_self] <;> and_intros <;> rfl⟩) ?_
 rintro m f es' ⟨hsub, hk⟩
 refine w_pins _ hsub (hk) ?_
 simp only [pins]
 refine w_seq ?_
 refine w_region ?_
 refine l_cons rfl (p_cmpl false ?_)
 refine l_nil ?_
 refine k_seq_normal ?_
 refine w_seq ?_
 refine w_f rfl ?_
 refine w_exit ?_
 refine k_seq_exit ?_
 refine k_seq_exit ?_
 refine k_blk_here ?_
 refine k_seq_normal ?_
 refine w_seq ?_
 refine w_region ?_
 refine l_cons rfl (p_move ?_)
 refine l_cons rfl (p_arith ?_)
 refine l_cons rfl (p_assign ?_)
 refine l_nil ?_
 refine k_seq_normal ?_
 refine w_ret ?_
 refine ret1b rfl ?_ <;> exact ex2 subx ⟨rfl, rfl⟩
theorem indexRx_nil {w0 : World} {es : List Ent} {g : AV} : ACalls Tryd.prog w0 157 [.nil, g] es fun v es' => v = .int .i64 (-1) ∧ es' = es := by
 refine calls2 (N := 19) Tryd.func157 rfl rfl (by decide) ?_
 refine w_seq ?_
 refine w_region ?_
 refine l_cons rfl (p_assign ?_)
 refine l_nil ?_
 refine k_seq_normal ?_
 refine w_seq ?_
 refine w_seq ?_
 refine w_region ?_
 refine l_cons rfl (p_move ?_)
 refine l_cons rfl (p_lenn sl_27 ?_)
 refine l_cons rfl (p_move ?_)
 refine l_nil ?_
 refine k_seq_normal ?_
 refine w_block ?_
 refine w_loop (fun m f es' => Sub (es) es' ∧ Knows f [(7, .int .i64 0), (8, .int .i64 0)]) (0) (⟨Sub.refl _, by simp only [Knows, upd_apply, Nat.reduceEqDiff, ↓reduceIte, and_true, true_and, eq_self] <;> and_intros <;> rfl⟩) ?_
 rintro m f es' ⟨hsub, hk⟩
 refine w_pins _ hsub (hk) ?_
 simp only [pins]
 refine w_seq ?_
 refine w_region ?_
 refine l_cons rfl (p_cmpl false ?_)
 refine l_nil ?_
 refine k_seq_normal ?_
 refine w_seq ?_
 refine w_f rfl ?_
 refine w_exit ?_
 refine k_seq_exit ?_
 refine k_seq_exit ?_
 refine k_blk_here ?_
 refine k_seq_normal ?_
 refine w_seq ?_
 refine w_region ?_
 refine l_cons rfl (p_assign ?_)
 refine l_nil ?_
 refine k_seq_normal ?_
 refine w_ret ?_
 refine ret1b rfl ?_ <;> exact ex2 subx ⟨rfl, rfl⟩
theorem containsRx_nil {w0 : World} {es : List Ent} {g : AV} : ACalls Tryd.prog w0 140 [.nil, g] es fun v es' => v = .bool false ∧ es' = es := by
 refine calls2 (N := 9) Tryd.func140 rfl rfl (by decide) ?_
 refine w_seq ?_
 refine w_region ?_
 refine l_cons rfl (p_assign ?_)
 refine l_nil ?_
 refine k_seq_normal ?_
 refine w_seq ?_
 refine w_region ?_
 refine l_cons rfl (p_move ?_)
 refine l_cons rfl (p_move ?_)
 refine l_cons rfl (p_callr en_157 (indexRx_nil) ?_)
 refine l_cons rfl (p_cmpl false ?_)
 refine l_cons rfl (p_assign ?_)
 refine l_nil ?_
 refine k_seq_normal ?_
 refine w_ret ?_
 refine ret1b rfl ?_ <;> exact ex2 subx ⟨rfl, rfl⟩
theorem plain_leaf {w0 : World} {es : List Ent} : ACalls Tryd.prog w0 110 [.agg [.int .i64 3, .int .u64 0, .int .u64 8589934592, .int .u64 0, .int .u64 0, .nil]] es fun v es' => v = .bool true ∧ es' = es := by
 refine calls1 (N := 91) Tryd.func110 rfl rfl (by decide) ?_
 refine w_seq ?_
 refine w_region ?_
 refine l_cons rfl (p_box fun s1 => ?_)
 refine l_cons rfl (p_assign ?_)
 refine l_nil ?_
 refine k_seq_normal ?_
 refine w_seq ?_
 refine w_region ?_
 refine l_cons rfl (p_fap fa_29_1 ?_)
 refine l_cons rfl (p_loadp ty_26 ?_)
 refine l_cons rfl (p_buildArr ze_26 ar_26 ?_)
 refine l_cons rfl (p_eqa ai_26 (b := false) ?_)
 refine l_cons rfl (p_assign ?_)
 refine l_nil ?_
 refine k_seq_normal ?_
 refine w_seq ?_
 refine w_region ?_
 refine l_cons rfl (p_assign ?_)
 refine l_nil ?_
 refine k_seq_normal ?_
 refine w_seq ?_
 refine w_seq ?_
 refine w_region ?_
 refine l_cons rfl (p_fap fa_29_0 ?_)
 refine l_cons rfl (p_loadp ty_3 ?_)
 refine l_nil ?_
 refine k_seq_normal ?_
 refine w_block ?_
 refine w_seq ?_
 refine w_seq ?_
 refine w_region ?_
 refine l_cons rfl (p_cmpl false ?_)
 refine l_cons rfl (p_assign ?_)
 refine l_nil ?_
 refine k_seq_normal ?_
 refine w_f rfl ?_
 refine w_region ?_
 refine l_cons rfl (p_cmpl false ?_)
 refine l_cons rfl (p_assign ?_)
 refine l_nil ?_
 refine k_seq_normal ?_
 refine w_f rfl ?_
 refine w_seq ?_
 refine w_region ?_
 refine l_cons rfl (p_cmpl true ?_)
 refine l_cons rfl (p_assign ?_)
 refine l_nil ?_
 refine k_seq_normal ?_
 refine w_t rfl ?_
 refine w_region ?_
 refine l_cons rfl (p_move ?_)
 refine l_cons rfl (p_not ?_)
 refine l_cons rfl (p_move ?_)
 refine g_y rfl rfl (p_fap fa_29_2 ?_)
 refine g_y rfl rfl (p_loadp ty_27 ?_)
 first | refine g_y rfl rfl (p_lenl sl_27 ?_) | refine g_y rfl rfl (p_leno sl_27 ?_) | refine g_y rfl rfl (p_lenn sl_27 ?_)
 refine g_y rfl rfl (p_cmpl true ?_)
 refine l_cons rfl (p_pickt rfl ?_)
 refine l_cons rfl (p_assign ?_)
 refine l_nil ?_
 refine k_blk_normal ?_
 refine k_seq_normal ?_
 refine w_seq ?_
 refine w_region ?_
 refine l_cons rfl (p_move ?_)
 refine l_cons rfl (p_move ?_)
 refine g_y rfl rfl (p_fap fa_29_2 ?_)
 refine g_y rfl rfl (p_loadp ty_27 ?_)
 refine g_y rfl rfl (p_callr en_140 (containsRx_nil) ?_)
 refine g_y rfl rfl (p_not ?_)
 refine l_cons rfl (p_pickt rfl ?_)
 refine l_cons rfl (p_assign ?_)
 refine l_nil ?_
 refine k_seq_normal ?_
 refine w_ret ?_
 refine ret1b rfl ?_ <;> exact ex2 subx ⟨rfl, rfl⟩
theorem rxMay_leaf {w0 : World} {es : List Ent} : ACalls Tryd.prog w0 71 [.agg [.int .i64 3, .int .u64 0, .int .u64 8589934592, .int .u64 0, .int .u64 0, .nil]] es fun v es' => v = .int .i64 0 ∧ es' = es := by
 refine calls1 (N := 15) Tryd.func71 rfl rfl (by decide) ?_
 refine w_seq ?_
 refine w_region ?_
 refine l_cons rfl (p_box fun s1 => ?_)
 refine l_cons rfl (p_assign ?_)
 refine l_nil ?_
 refine k_seq_normal ?_
 refine w_seq ?_
 refine w_block ?_
 refine w_seq ?_
 refine w_region ?_
 refine l_cons rfl (p_loadp ty_29 ?_)
 refine l_cons rfl (p_callr en_108 (nodes_leaf) ?_)
 refine l_cons rfl (p_cmpl false ?_)
 refine l_cons rfl (p_assign ?_)
 refine l_nil ?_
 refine k_seq_normal ?_
 refine w_f rfl ?_
 refine w_seq ?_
 refine w_region ?_
 refine l_cons rfl (p_loadp ty_29 ?_)
 refine l_cons rfl (p_callr en_109 (depth_leaf) ?_)
 refine l_cons rfl (p_cmpl false ?_)
 refine l_cons rfl (p_assign ?_)
 refine l_nil ?_
 refine k_seq_normal ?_
 refine w_f rfl ?_
 refine w_seq ?_
 refine w_region ?_
 refine l_cons rfl (p_loadp ty_29 ?_)
 refine l_cons rfl (p_callr en_110 (plain_leaf) ?_)
 refine l_cons rfl (p_not ?_)
 refine l_cons rfl (p_assign ?_)
 refine l_nil ?_
 refine k_seq_normal ?_
 refine w_f rfl ?_
 refine w_skip ?_
 refine k_blk_normal ?_
 refine k_seq_normal ?_
 refine w_seq ?_
 refine w_region ?_
 refine l_cons rfl (p_assign ?_)
 refine l_nil ?_
 refine k_seq_normal ?_
 refine w_ret ?_
 refine ret1b rfl ?_ <;> exact ex2 subx ⟨rfl, rfl⟩
end Go.Proofs.YtfdgbghlanbddaaDoor.Av
set_option linter.unusedVariables false
set_option linter.unusedSimpArgs false
set_option maxRecDepth 8000
namespace Go.Proofs.YtfdgbghlanbddaaDoor.Av
open Go.RowKit Go.Proofs
def nfA : Nf := ⟨[⟨0, 0, 0, 0, -1, []⟩, ⟨0, 8589934592, 0, 0, 0, []⟩], 1, 0⟩
theorem state_walk {w0 : World} {es : List Ent} {ib sb iS sS : Nat} {rows : List (List AV)} (hb : at_ es ib = some (.row sb 94 1 [[.own iS sS]])) (hS : at_ es iS = some (.row sS 75 6 rows)) (hne : ib ≠ iS) (hr : rows.length ≤ 1000000) :
  ACalls Tryd.prog w0 111 [.ptr ib sb 0 0, .nil] es fun v es' => v = .int .i64 rows.length ∧ ∃ sS', es' = setAt (setAt es iS (.row sS' 75 6 (rows ++ [[AV.int .u64 0, .int .u64 0, .int .u64 0, .int .u64 0, .int .i64 (-1), .nil]]))) ib (.row sb 94 1 [[.own iS sS']]) := by
 refine calls2 (N := 22) Tryd.func111 rfl rfl (by decide) ?_
 refine w_seq ?_
 refine w_region ?_
 refine l_cons rfl (p_assign ?_)
 refine l_nil ?_
 refine k_seq_normal ?_
 refine w_seq ?_
 refine w_region ?_
 refine l_cons rfl (p_move ?_)
 refine l_cons rfl (p_move ?_)
 first | refine l_cons rfl (p_ncp ?_) | refine l_cons rfl (p_ncf ?_)
 refine l_cons rfl (p_fap fa_94_0 ?_)
 refine l_cons rfl (p_loadp ty_34 ?_)
 refine l_cons rfl (p_move ?_)
 refine l_cons rfl (p_build ze_75 pl_75 ?_)
 refine l_cons rfl (p_buildList sl_34 ze_75 ?_)
 refine l_cons rfl (p_append sl_34 by_75 ze_75 (fun s13 => ?_))
 have hb1 := (at_setAt_ne (.row s13 75 6 (rows ++ [[AV.int .u64 0, .int .u64 0, .int .u64 0, .int .u64 0, .int .i64 (-1), .nil]])) hne).trans hb
 have hS1 := at_setAt_same (.row s13 75 6 (rows ++ [[AV.int .u64 0, .int .u64 0, .int .u64 0, .int .u64 0, .int .i64 (-1), .nil]])) hS
 first | refine l_cons rfl (p_ncp ?_) | refine l_cons rfl (p_ncf ?_)
 refine l_cons rfl (p_fap fa_94_0 ?_)
 refine l_cons rfl (p_store ty_34 ?_)
 have hb2 := at_setAt_same (.row sb 94 1 [[.own iS s13]]) hb1
 have hS2 := (at_setAt_ne (.row sb 94 1 [[.own iS s13]]) (Ne.symm hne)).trans hS1
 have hlen : (rows ++ [[AV.int .u64 0, .int .u64 0, .int .u64 0, .int .u64 0, .int .i64 (-1), .nil]]).length = rows.length + 1 := by simp
 refine l_nil ?_
 refine k_seq_normal ?_
 refine w_seq ?_
 refine w_region ?_
 refine l_cons rfl (p_move ?_)
 first | refine l_cons rfl (p_ncp ?_) | refine l_cons rfl (p_ncf ?_)
 refine l_cons rfl (p_fap fa_94_0 ?_)
 refine l_cons rfl (p_loadp ty_34 ?_)
 first | refine l_cons rfl (p_lenl sl_34 ?_) | refine l_cons rfl (p_leno sl_34 ?_) | refine l_cons rfl (p_lenn sl_34 ?_)
 refine l_cons rfl (p_arith ?_)
 refine l_cons rfl (p_assign ?_)
 refine l_nil ?_
 refine k_seq_normal ?_
 refine w_ret ?_
 exact ret1 rfl (by simp only [ev_tmp, ev_const, ev_func, ofConst_int, ofConst_bool, ofConst_str, ofConst_nil, upd_apply, Nat.reduceEqDiff, ↓reduceIte] <;> exact rfl) (Sub.refl _) ⟨by rw [hlen]; congr 1; omega, s13, rfl⟩
theorem state_leaf {w0 : World} {T : List Ent} {x : Ent} {sb sS : Nat} {rows : List (List AV)} (hr : rows.length ≤ 1000000) :
  ACalls Tryd.prog w0 111 [.ptr T.length sb 0 0, .nil] (x :: .row sS 75 6 rows :: .row sb 94 1 [[.own (T.length + 1) sS]] :: T) fun v es' => v = .int .i64 rows.length ∧ ∃ sS', es' = x :: .row sS' 75 6 (rows ++ [[AV.int .u64 0, .int .u64 0, .int .u64 0, .int .u64 0, .int .i64 (-1), .nil]]) :: .row sb 94 1 [[.own (T.length + 1) sS']] :: T := by
 refine (state_walk (iS := T.length + 1) (at_miss _ (at_miss _ (at_hit _ _))) (at_miss _ (at_hit _ _)) (by omega) hr).mono ?_
 rintro _ _ ⟨rfl, s', rfl⟩
 exact ⟨rfl, s', setAt2⟩
theorem part_leaf {w0 : World} {T : List Ent} {sb sS : Nat} :
  ACalls Tryd.prog w0 72 [.ptr T.length sb 0 0, .agg [AV.int .i64 3, .int .u64 0, .int .u64 8589934592, .int .u64 0, .int .u64 0, .nil]] (.row sS 75 6 [] :: .row sb 94 1 [[.own (T.length + 1) sS]] :: T) fun v es' => v = .tup [.int .i64 1, .int .i64 0] ∧ ∃ sS', es' = .row sS' 75 6 [[AV.int .u64 0, .int .u64 0, .int .u64 0, .int .u64 0, .int .i64 (-1), .nil], [AV.int .u64 0, .int .u64 8589934592, .int .u64 0, .int .u64 0, .int .i64 0, .nil]] :: .row sb 94 1 [[.own (T.length + 1) sS']] :: T := by
 refine calls2 (N := 84) Tryd.func72 rfl rfl (by decide) ?_
 refine w_seq ?_
 refine w_region ?_
 refine l_cons rfl (p_box fun s3 => ?_)
 refine l_cons rfl (p_assign ?_)
 refine l_cons rfl (p_assign ?_)
 refine l_nil ?_
 refine k_seq_normal ?_
 refine w_seq ?_
 refine w_seq ?_
 refine w_region ?_
 refine l_cons rfl (p_fap fa_29_0 ?_)
 refine l_cons rfl (p_loadp ty_3 ?_)
 refine l_nil ?_
 refine k_seq_normal ?_
 refine w_block ?_
 refine w_seq ?_
 refine w_region ?_
 refine l_cons rfl (p_cmpl true ?_)
 refine l_cons rfl (p_assign ?_)
 refine l_nil ?_
 refine k_seq_normal ?_
 refine w_t rfl ?_
 refine w_seq ?_
 refine w_region ?_
 refine l_cons rfl (p_move ?_)
 refine l_cons rfl (p_call en_111 ((state_leaf (rows := []) (by simp)).mono ?_))
 rintro _ _ ⟨rfl, sA, rfl⟩
 simp only [List.nil_append]
 refine l_cons rfl (p_assign ?_)
 refine l_nil ?_
 refine k_seq_normal ?_
 refine w_seq ?_
 refine w_region ?_
 refine l_cons rfl (p_move ?_)
 refine l_cons rfl (p_call en_111 ((state_leaf (rows := [[AV.int .u64 0, .int .u64 0, .int .u64 0, .int .u64 0, .int .i64 (-1), .nil]]) (by simp)).mono ?_))
 rintro _ _ ⟨rfl, sB, rfl⟩
 simp only [List.cons_append, List.nil_append]
 refine l_cons rfl (p_assign ?_)
 refine l_nil ?_
 refine k_seq_normal ?_
 refine w_seq ?_
 refine w_drawn 16 [15] (fun e => ∃ rws, rws.length = 2 ∧ e = .row s3 29 6 [[AV.int .i64 3, .int .u64 0, .int .u64 8589934592, .int .u64 0, .int .u64 0, .nil]] :: .row sB 75 6 rws :: .row sb 94 1 [[.own (T.length + 1) sB]] :: T) mixed (by kernel_rfl) ⟨_, rfl, rfl⟩ ?_
 refine q1 0 (hg := rfl) (hu := rfl) (h := by rintro f _ ⟨rws, hl, rfl⟩; exact p_move ⟨rfl, rfl⟩) (k := ?_)
 first | refine q1 16 (hg := rfl) (hu := rfl) (h := by rintro f _ ⟨rws, hl, rfl⟩; exact p_ncp ⟨rfl, rfl⟩) (k := ?_) | refine q1 16 (hg := rfl) (hu := rfl) (h := by rintro f _ ⟨rws, hl, rfl⟩; exact p_ncf ⟨rfl, rfl⟩) (k := ?_)
 refine q1 17 (hg := rfl) (hu := rfl) (h := by rintro f _ ⟨rws, hl, rfl⟩; exact p_fap fa_94_0 ⟨rfl, rfl⟩) (k := ?_)
 refine q1 18 (hg := rfl) (hu := rfl) (h := by rintro f _ ⟨rws, hl, rfl⟩; exact p_loadp ty_34 ⟨rfl, rfl⟩) (k := ?_)
 refine q1 4 (hg := rfl) (hu := rfl) (h := by rintro f _ ⟨rws, hl, rfl⟩; exact p_move ⟨rfl, rfl⟩) (k := ?_)
 refine q1 0 (hg := rfl) (hu := rfl) (h := by rintro f _ ⟨rws, hl, rfl⟩; exact p_move ⟨rfl, rfl⟩) (k := ?_)
 first | refine q1 21 (hg := rfl) (hu := rfl) (h := by rintro f _ ⟨rws, hl, rfl⟩; exact p_ncp ⟨rfl, rfl⟩) (k := ?_) | refine q1 21 (hg := rfl) (hu := rfl) (h := by rintro f _ ⟨rws, hl, rfl⟩; exact p_ncf ⟨rfl, rfl⟩) (k := ?_)
 refine q1 22 (hg := rfl) (hu := rfl) (h := by rintro f _ ⟨rws, hl, rfl⟩; exact p_fap fa_94_0 ⟨rfl, rfl⟩) (k := ?_)
 refine q1 23 (hg := rfl) (hu := rfl) (h := by rintro f _ ⟨rws, hl, rfl⟩; exact p_loadp ty_34 ⟨rfl, rfl⟩) (k := ?_)
 refine q1 4 (hg := rfl) (hu := rfl) (h := by rintro f _ ⟨rws, hl, rfl⟩; exact p_move ⟨rfl, rfl⟩) (k := ?_)
 refine q1 3 (hg := rfl) (hu := rfl) (h := by rintro f _ ⟨rws, hl, rfl⟩; exact p_fap fa_29_1 ⟨rfl, rfl⟩) (k := ?_)
 refine q1 26 (hg := rfl) (hu := rfl) (h := by rintro f _ ⟨rws, hl, rfl⟩; exact p_loadp ty_26 ⟨rfl, rfl⟩) (k := ?_)
 refine q1 5 (hg := rfl) (hu := rfl) (h := by rintro f _ ⟨rws, hl, rfl⟩; exact p_move ⟨rfl, rfl⟩) (k := ?_)
 first | refine q2 19 20 (hg := rfl) (hu := rfl) (h := by rintro f _ ⟨rws, hl, rfl⟩; exact p_ixl sl_34 ⟨rfl, rfl⟩) (k := ?_) | refine q2 19 20 (hg := rfl) (hu := rfl) (h := by rintro f _ ⟨rws, hl, rfl⟩; exact p_ixo sl_34 ⟨rfl, rfl⟩) (k := ?_)
 first | refine q1 29 (hg := rfl) (hu := rfl) (h := by rintro f _ ⟨rws, hl, rfl⟩; exact p_fap fa_75_0 ⟨rfl, rfl⟩) (k := ?_) | refine q1 29 (hg := rfl) (hu := rfl) (h := by rintro f _ ⟨rws, hl, rfl⟩; exact p_faf fa_75_0 ⟨rfl, rfl⟩) (k := ?_)
 refine q_end ?_
 refine ms2 30 27 (hu := rfl) (h := fun f => p_store ty_26 ?_)
 refine ⟨rfl, ⟨_, rfl, rfl⟩, ?_⟩
 refine m_end ?_
 first | refine l_cons rfl (p_ixl sl_34 ?_) | refine l_cons rfl (p_ixo sl_34 ?_)
 first | refine l_cons rfl (p_fap fa_75_1 ?_) | refine l_cons rfl (p_faf fa_75_1 ?_)
 refine l_cons rfl (p_store ty_3 ?_)
 refine l_nil ?_
 refine k_seq_normal ?_
 refine w_seq ?_
 refine w_region ?_
 refine l_cons rfl (p_move ?_)
 refine l_cons rfl (p_move ?_)
 refine l_cons rfl (p_assign ?_)
 refine l_cons rfl (p_assign ?_)
 refine l_nil ?_
 refine k_seq_normal ?_
 refine w_ret ?_
 refine k_blk_ret ?_
 refine k_seq_ret ?_
 exact ret2 rfl (by simp only [ev_tmp, ev_const, ev_func, ofConst_int, ofConst_bool, ofConst_str, ofConst_nil, upd_apply, Nat.reduceEqDiff, ↓reduceIte] <;> exact rfl) (by simp only [ev_tmp, ev_const, ev_func, ofConst_int, ofConst_bool, ofConst_str, ofConst_nil, upd_apply, Nat.reduceEqDiff, ↓reduceIte] <;> exact rfl) (sub1 _ _) ⟨rfl, sB, rfl⟩
theorem build_leaf {w0 : World} {es : List Ent} : ACalls Tryd.prog w0 27 [.agg [AV.int .i64 3, .int .u64 0, .int .u64 8589934592, .int .u64 0, .int .u64 0, .nil]] es fun v es' => v = .tup [nfA.av, .int .i64 0] ∧ es' = es := by
 refine calls1 (N := 29) Tryd.func27 rfl rfl (by decide) ?_
 refine w_seq ?_
 refine w_region ?_
 refine l_cons rfl (p_box fun s1 => ?_)
 refine l_cons rfl (p_alloc ze_36 fun s2 => ?_)
 refine l_cons rfl (p_assign ?_)
 refine l_nil ?_
 refine k_seq_normal ?_
 refine w_seq ?_
 refine w_seq ?_
 refine w_region ?_
 refine l_cons rfl (p_loadp ty_29 ?_)
 refine l_cons rfl (p_callr en_71 (rxMay_leaf) ?_)
 refine l_cons rfl (p_assign ?_)
 refine l_nil ?_
 refine k_seq_normal ?_
 refine w_seq ?_
 refine w_region ?_
 refine l_cons rfl (p_move ?_)
 refine l_cons rfl (p_cmpl false ?_)
 refine l_nil ?_
 refine k_seq_normal ?_
 refine w_f rfl ?_
 refine w_skip ?_
 refine k_seq_normal ?_
 refine w_seq ?_
 refine w_region ?_
 refine l_cons rfl (p_build ze_94 pl_94 ?_)
 refine l_cons rfl (p_box fun s15 => ?_)
 refine l_cons rfl (p_assign ?_)
 refine l_nil ?_
 refine k_seq_normal ?_
 refine w_seq ?_
 refine w_adoptVar 75 6 fun sA => ?_
 refine w_region ?_
 refine l_cons rfl (p_move ?_)
 refine l_cons rfl (p_loadp ty_29 ?_)
 refine l_cons rfl (p_call en_72 (part_leaf.mono ?_))
 rintro _ _ ⟨rfl, sB, rfl⟩
 refine l_cons rfl (p_move ?_)
 refine l_cons rfl (p_extract ?_)
 refine l_cons rfl (p_extract ?_)
 refine l_cons rfl (p_assign ?_)
 refine l_cons rfl (p_assign ?_)
 refine l_nil ?_
 refine k_seq_normal ?_
 refine w_seq ?_
 refine w_region ?_
 refine l_cons rfl (p_move ?_)
 first | refine l_cons rfl (p_ncp ?_) | refine l_cons rfl (p_ncf ?_)
 refine l_cons rfl (p_fap fa_94_0 ?_)
 refine l_cons rfl (p_loadp ty_34 ?_)
 refine l_freeze 25 rfl loc_hit rfl ?_
 refine l_retell 25 (fun c m v h => rep_list_nilTo 1 h) ?_
 refine l_cons rfl (p_move ?_)
 refine l_cons rfl (p_move ?_)
 refine l_cons rfl (p_build ze_36 pl_36 ?_)
 refine l_cons rfl (p_store ty_36 ?_)
 refine l_cons rfl (p_assign ?_)
 refine l_nil ?_
 refine k_seq_normal ?_
 refine w_ret ?_
 exact retct rfl ty_36 (by first | exact sub4 _ _ _ _ _ | exact sub3 _ _ _ _ | exact sub5 _ _ _ _ _ _) ⟨rfl, rfl⟩
end Go.Proofs.YtfdgbghlanbddaaDoor.Av
set_option linter.unusedVariables false
set_option linter.unusedSimpArgs false
set_option maxRecDepth 8000
namespace Go.Proofs.YtfdgbghlanbddaaDoor.Av
open Go.RowKit Go.Proofs
theorem of_a {w0 : World} {es : List Ent} : ACalls Tryd.prog w0 68 [.list 1 [[.int .u8 97]]] es fun v es' => v = .agg [AV.int .u64 0, .int .u64 8589934592, .int .u64 0, .int .u64 0] ∧ es' = es := by
 refine calls1 (N := 27) Tryd.func68 rfl rfl (by decide) ?_
 refine w_seq ?_
 refine w_region ?_
 refine l_cons rfl (p_alloc ze_26 fun s2 => ?_)
 refine l_nil ?_
 refine k_seq_normal ?_
 refine w_seq ?_
 refine w_region ?_
 refine l_cons rfl (p_alloc ze_26 fun s3 => ?_)
 refine l_nil ?_
 refine k_seq_normal ?_
 refine w_seq ?_
 refine w_seq ?_
 refine w_region ?_
 refine l_cons rfl (p_assign ?_)
 refine l_nil ?_
 refine k_seq_normal ?_
 refine w_block ?_
 refine w_loop (fun m f es' => (m = 1 ∧ es' = .row s3 26 4 [[AV.int .u64 0, .int .u64 0, .int .u64 0, .int .u64 0]] :: .row s2 26 4 [[AV.int .u64 0, .int .u64 0, .int .u64 0, .int .u64 0]] :: es ∧ Knows f [(0, .list 1 [[.int .u8 97]]), (2, .ptr es.length s2 0 0), (3, .ptr (es.length + 1) s3 0 0), (4, .int .i64 0)]) ∨ (m = 0 ∧ es' = .row s3 26 4 [[AV.int .u64 0, .int .u64 8589934592, .int .u64 0, .int .u64 0]] :: .row s2 26 4 [[AV.int .u64 0, .int .u64 0, .int .u64 0, .int .u64 0]] :: es ∧ Knows f [(0, .list 1 [[.int .u8 97]]), (2, .ptr es.length s2 0 0), (3, .ptr (es.length + 1) s3 0 0), (4, .int .i64 1)])) (1) (Or.inl ⟨rfl, rfl, by simp only [Knows, upd_apply, Nat.reduceEqDiff, ↓reduceIte, and_true, true_and, eq_self] <;> and_intros <;> rfl⟩) ?_
 rintro m f es' (⟨rfl, rfl, hk⟩ | ⟨rfl, rfl, hk⟩)
 ·refine w_pins _ (Sub.refl _) hk ?_
  simp only [pins]
  refine w_seq ?_
  refine w_seq ?_
  refine w_region ?_
  refine l_cons rfl (p_move ?_)
  refine l_cons rfl (p_move ?_)
  refine l_cons rfl (p_lenl sl_22 ?_)
  refine l_cons rfl (p_cmpl true ?_)
  refine l_nil ?_
  refine k_seq_normal ?_
  refine w_t rfl ?_
  refine w_skip ?_
  refine k_seq_normal ?_
  refine w_seq ?_
  refine w_block ?_
  refine w_drawn 14 [] (fun e => e = _) mixed (by kernel_rfl) rfl ?_
  refine q1 0 (hg := rfl) (hu := rfl) (h := by rintro f _ rfl; exact p_move ⟨rfl, rfl⟩) (k := ?_)
  refine q1 4 (hg := rfl) (hu := rfl) (h := by rintro f _ rfl; exact p_move ⟨rfl, rfl⟩) (k := ?_)
  refine q2 11 12 (hg := rfl) (hu := rfl) (h := by rintro f _ rfl; exact p_ixl sl_22 ⟨rfl, rfl⟩) (k := ?_)
  refine q1 13 (hg := rfl) (hu := rfl) (h := by rintro f _ rfl; exact p_loadf ty_5 ⟨rfl, rfl⟩) (k := ?_)
  refine q1 14 (hg := rfl) (hu := rfl) (h := by rintro f _ rfl; exact p_arithl 1 ⟨rfl, rfl⟩) (k := ?_)
  refine q2 3 15 (hg := rfl) (hu := rfl) (h := by rintro f _ rfl; exact p_ixa ar_26 ⟨rfl, rfl⟩) (k := ?_)
  refine q1 16 (hg := rfl) (hu := rfl) (h := by rintro f _ rfl; exact p_loadp ty_24 ⟨rfl, rfl⟩) (k := ?_)
  refine q1 0 (hg := rfl) (hu := rfl) (h := by rintro f _ rfl; exact p_move ⟨rfl, rfl⟩) (k := ?_)
  refine q1 4 (hg := rfl) (hu := rfl) (h := by rintro f _ rfl; exact p_move ⟨rfl, rfl⟩) (k := ?_)
  refine q2 18 19 (hg := rfl) (hu := rfl) (h := by rintro f _ rfl; exact p_ixl sl_22 ⟨rfl, rfl⟩) (k := ?_)
  refine q1 20 (hg := rfl) (hu := rfl) (h := by rintro f _ rfl; exact p_loadf ty_5 ⟨rfl, rfl⟩) (k := ?_)
  refine q1 21 (hg := rfl) (hu := rfl) (h := by rintro f _ rfl; exact p_arithl 33 ⟨rfl, rfl⟩) (k := ?_)
  refine q1 22 (hg := rfl) (hu := rfl) (h := by rintro f _ rfl; exact p_shl ⟨rfl, rfl⟩) (k := ?_)
  refine q2 17 23 (hg := rfl) (hu := rfl) (h := by rintro f _ rfl; exact p_arithl 8589934592 ⟨rfl, rfl⟩) (k := ?_)
  refine q_end ?_
  refine m_end ?_
  refine l_cons rfl (p_ixa ar_26 ?_)
  refine l_cons rfl (p_store ty_24 ?_)
  refine l_nil ?_
  refine k_blk_normal ?_
  refine k_seq_normal ?_
  refine w_region ?_
  refine l_cons rfl (p_move ?_)
  refine l_cons rfl (p_arith ?_)
  refine l_cons rfl (p_assign ?_)
  refine l_nil ?_
  refine k_seq_normal ?_
  exact ⟨0, by omega, Or.inr ⟨rfl, rfl, by simp only [Knows, upd_apply, Nat.reduceEqDiff, ↓reduceIte, and_true, true_and, eq_self] <;> and_intros <;> rfl⟩⟩
 ·refine w_pins _ (Sub.refl _) hk ?_
  simp only [pins]
  refine w_seq ?_
  refine w_seq ?_
  refine w_region ?_
  refine l_cons rfl (p_move ?_)
  refine l_cons rfl (p_move ?_)
  refine l_cons rfl (p_lenl sl_22 ?_)
  refine l_cons rfl (p_cmpl false ?_)
  refine l_nil ?_
  refine k_seq_normal ?_
  refine w_f rfl ?_
  refine w_exit ?_
  refine k_seq_exit ?_
  refine k_seq_exit ?_
  refine k_blk_here ?_
  refine k_seq_normal ?_
  refine w_seq ?_
  refine w_region ?_
  refine l_cons rfl (p_loadp ty_26 ?_)
  refine l_cons rfl (p_store ty_26 ?_)
  refine l_nil ?_
  refine k_seq_normal ?_
  refine w_ret ?_
  exact retc rfl ty_26 (sub2 _ _ _) ⟨rfl, rfl⟩
theorem bytes_a {w0 : World} {es : List Ent} : ACalls Tryd.prog w0 67 [.agg [AV.int .u64 0, .int .u64 8589934592, .int .u64 0, .int .u64 0]] es fun v es' => v = .agg [AV.int .i64 3, .int .u64 0, .int .u64 8589934592, .int .u64 0, .int .u64 0, .nil] ∧ es' = es := by
 refine calls1 (N := 9) Tryd.func67 rfl rfl (by decide) ?_
 refine w_seq ?_
 refine w_region ?_
 refine l_cons rfl (p_box fun s1 => ?_)
 refine l_cons rfl (p_alloc ze_29 fun s2 => ?_)
 refine l_nil ?_
 refine k_seq_normal ?_
 refine w_seq ?_
 refine w_seq ?_
 refine w_region ?_
 refine l_cons rfl (p_loadp ty_26 ?_)
 refine l_cons rfl (p_buildArr ze_26 ar_26 ?_)
 refine l_cons rfl (p_eqa ai_26 (b := false) ?_)
 refine l_nil ?_
 refine k_seq_normal ?_
 refine w_f rfl ?_
 refine w_skip ?_
 refine k_seq_normal ?_
 refine w_seq ?_
 refine w_region ?_
 refine l_cons rfl (p_loadp ty_26 ?_)
 refine l_cons rfl (p_build ze_29 pl_29 ?_)
 refine l_cons rfl (p_store ty_29 ?_)
 refine l_nil ?_
 refine k_seq_normal ?_
 refine w_ret ?_
 exact retc rfl ty_29 (sub2 _ _ _) ⟨rfl, rfl⟩
end Go.Proofs.YtfdgbghlanbddaaDoor.Av
set_option linter.unusedVariables false
set_option maxRecDepth 8000
namespace Go.Proofs.YtfdgbghlanbddaaDoor.Av
open Go.RowKit Go.Proofs
/-- Arguments told otherwise. -/
theorem ACalls.args {P : Program} {w0 : World} {fid : FuncId} {a b : List AV} {es : List Ent} {R : AV → List Ent → Prop} (h : ∀ (c : Core) (m : Option (List Ent)) (vs : List Value), Reps c m b vs → Reps c m a vs) (k : ACalls P w0 fid a es R) : ACalls P w0 fid b es R :=
 fun c vs ok rs => k c vs ok (h _ _ _ rs)
end Go.Proofs.YtfdgbghlanbddaaDoor.Av
set_option linter.unusedVariables false
set_option linter.unusedSimpArgs false
set_option maxRecDepth 8000
namespace Go.Proofs.YtfdgbghlanbddaaDoor.Av
open Go.RowKit Go.Proofs
end Go.Proofs.YtfdgbghlanbddaaDoor.Av
set_option linter.unusedVariables false
set_option linter.unusedSimpArgs false
set_option maxRecDepth 8000
namespace Go.Proofs.YtfdgbghlanbddaaDoor.Av
open Go.RowKit Go.Proofs
theorem has_walk {w0 : World} {es : List Ent} (l : List Int) (x : Int) : ACalls Tryd.prog w0 82 [ints l, .int .i64 x] es fun v es' => v = .bool (l.any fun y => decide (y = x)) ∧ es' = es := by
 unfold ints
 refine calls2 (N := 18) Tryd.func82 rfl rfl (by decide) ?_
 refine w_seq ?_
 refine w_region ?_
 refine l_cons rfl (p_assign ?_)
 refine l_nil ?_
 refine k_seq_normal ?_
 refine w_seq ?_
 refine w_seq ?_
 refine w_len 0 fun hl => ?_
 rw [List.length_map] at hl
 simp only [most] at hl
 refine w_region ?_
 refine l_cons rfl (p_assign ?_)
 refine l_nil ?_
 refine k_seq_normal ?_
 refine w_block ?_
 refine w_loop (fun n f es' => ∃ k, n = l.length - k ∧ k ≤ l.length ∧ (l.take k).any (fun y => decide (y = x)) = false ∧ es' = es ∧ Knows f [(0, .list 1 (l.map fun n => [.int .i64 n])), (1, .int .i64 x), (5, .int .i64 k)]) (l.length) (⟨0, rfl, Nat.zero_le _, rfl, rfl, by simp only [Knows, put, upd_apply, Nat.reduceEqDiff, ↓reduceIte, and_true, true_and, eq_self] <;> and_intros <;> rfl⟩) ?_
 rintro n f es' ⟨k, rfl, hk1, hk2, rfl, hk⟩
 refine w_pins _ (Sub.refl _) (hk) ?_
 simp only [pins]
 refine w_seq ?_
 refine w_seq ?_
 refine w_region ?_
 refine l_cons rfl (p_move ?_)
 refine l_cons rfl (p_move ?_)
 refine l_cons rfl (p_lenl sl_48 ?_)
 refine l_cons rfl (p_cmp ?_)
 refine l_nil ?_
 refine k_seq_normal ?_
 refine w_b (fun h1 => ?_) (fun h1 => ?_)
 ·skip
  have h1' := h1; (try simp only [decide_eq_true_eq, decide_eq_false_iff_not, Bool.not_eq_true', Bool.not_false, Bool.not_true, Bool.not_eq_false'] at h1')
  refine w_skip ?_
  refine k_seq_normal ?_
  refine w_seq ?_
  refine w_block ?_
  refine w_seq ?_
  refine w_region ?_
  refine l_cons rfl (p_move ?_)
  refine l_cons rfl (p_move ?_)
  refine l_cons rfl (p_ixl sl_48 ?_)
  refine l_cons rfl (p_loadf ty_3 ?_)
  refine l_cons rfl (p_move ?_)
  refine l_cons rfl (p_cmp ?_)
  refine l_nil ?_
  refine k_seq_normal ?_
  refine w_b (fun h2 => ?_) (fun h2 => ?_)
  ·skip
   have h2' := h2; (try simp only [decide_eq_true_eq, decide_eq_false_iff_not, Bool.not_eq_true', Bool.not_false, Bool.not_true, Bool.not_eq_false'] at h2')
   refine w_seq ?_
   refine w_region ?_
   refine l_cons rfl (p_assign ?_)
   refine l_nil ?_
   refine k_seq_normal ?_
   refine w_ret ?_
   refine k_blk_ret ?_
   refine k_seq_ret ?_
   refine k_seq_ret ?_
   refine k_blk_ret ?_
   refine k_seq_ret ?_
   refine ret1b rfl ?_ <;> exact ex2 subx ⟨by rw [show (l.any fun y => decide (y = x)) = true from List.any_eq_true.2 ⟨l[k]'(by omega), List.getElem_mem _, by assumption⟩], rfl⟩
  ·skip
   have h2' := h2; (try simp only [decide_eq_true_eq, decide_eq_false_iff_not, Bool.not_eq_true', Bool.not_false, Bool.not_true, Bool.not_eq_false'] at h2')
   refine w_skip ?_
   refine k_blk_normal ?_
   refine k_seq_normal ?_
   refine w_region ?_
   refine l_cons rfl (p_move ?_)
   refine l_cons rfl (p_arith ?_)
   refine l_cons rfl (p_assign ?_)
   refine l_nil ?_
   refine k_seq_normal ?_
   exact ⟨l.length - (k + 1), by omega, k + 1, rfl, by omega, by rw [any_take (by omega), hk2]; simp_all, rfl, by simp only [Knows, put, upd_apply, Nat.reduceEqDiff, ↓reduceIte, and_true, true_and, eq_self] <;> and_intros <;> rfl⟩
 ·skip
  have h1' := h1; (try simp only [decide_eq_true_eq, decide_eq_false_iff_not, Bool.not_eq_true', Bool.not_false, Bool.not_true, Bool.not_eq_false'] at h1')
  refine w_exit ?_
  refine k_seq_exit ?_
  refine k_seq_exit ?_
  refine k_blk_here ?_
  refine k_seq_normal ?_
  refine w_seq ?_
  refine w_region ?_
  refine l_cons rfl (p_assign ?_)
  refine l_nil ?_
  refine k_seq_normal ?_
  refine w_ret ?_
  refine ret1b rfl ?_ <;> exact ex2 subx ⟨by rw [← hk2, List.take_of_length_le (by omega)], rfl⟩
theorem marked_walk {w0 : World} {es : List Ent} {id s : Nat} {bs : List Bool} (hb : at_ es id = some (.row s 4 1 (bs.map fun b => [.bool b]))) (hl : bs.length ≤ 2000) : ACalls Tryd.prog w0 88 [.own id s] es fun v es' => v = ints (marks bs bs.length) ∧ es' = es := by
 refine calls1 (N := 20) Tryd.func88 rfl rfl (by decide) ?_
 refine w_seq ?_
 refine w_region ?_
 refine l_cons rfl (p_assign ?_)
 refine l_nil ?_
 refine k_seq_normal ?_
 refine w_seq ?_
 refine w_region ?_
 refine l_cons rfl (p_assign ?_)
 refine l_nil ?_
 refine k_seq_normal ?_
 refine w_seq ?_
 refine w_seq ?_
 refine w_adopt 3 3 1 rfl fun s3 => ?_
 simp only [upd_upd]
 refine w_region ?_
 refine l_cons rfl (p_assign ?_)
 refine l_nil ?_
 refine k_seq_normal ?_
 refine w_block ?_
 refine w_loop (fun n f es' => ∃ k s3, n = bs.length - k ∧ k ≤ bs.length ∧ es' = .row s3 3 1 ((marks bs k).map fun n => [.int .i64 n]) :: es ∧ Knows f [(0, .own id s), (3, .own es.length s3), (4, .int .i64 k)]) (bs.length) (⟨0, s3, rfl, Nat.zero_le _, rfl, by simp only [Knows, put, upd_apply, Nat.reduceEqDiff, ↓reduceIte, and_true, true_and, eq_self] <;> and_intros <;> rfl⟩) ?_
 rintro n f es' ⟨k, s3, rfl, hk1, rfl, hk⟩
 have hml := marks_len bs k
 refine w_pins _ (Sub.refl _) (hk) ?_
 simp only [pins]
 refine w_seq ?_
 refine w_seq ?_
 refine w_region ?_
 refine l_cons rfl (p_move ?_)
 refine l_cons rfl (p_move ?_)
 refine l_cons rfl (p_leno sl_60 ?_)
 refine l_cons rfl (p_cmp ?_)
 refine l_nil ?_
 refine k_seq_normal ?_
 refine w_b (fun h1 => ?_) (fun h1 => ?_)
 ·skip
  have h1' := h1; (try simp only [decide_eq_true_eq, decide_eq_false_iff_not, Bool.not_eq_true', Bool.not_false, Bool.not_true, Bool.not_eq_false'] at h1')
  refine w_skip ?_
  refine k_seq_normal ?_
  refine w_seq ?_
  refine w_block ?_
  refine w_seq ?_
  refine w_region ?_
  refine l_cons rfl (p_move ?_)
  refine l_cons rfl (p_move ?_)
  refine l_cons rfl (p_ixo sl_60 ?_)
  refine l_cons rfl (p_loadp ty_4 ?_)
  refine l_nil ?_
  refine k_seq_normal ?_
  refine w_b (fun h2 => ?_) (fun h2 => ?_)
  ·skip
   have h2' := h2; (try simp only [decide_eq_true_eq, decide_eq_false_iff_not, Bool.not_eq_true', Bool.not_false, Bool.not_true, Bool.not_eq_false'] at h2')
   refine w_region ?_
   refine l_cons rfl (p_move ?_)
   refine l_cons rfl (p_move ?_)
   refine l_cons rfl (p_buildList sl_48 ze_3 ?_)
   refine l_cons rfl (p_append sl_48 by_3 ze_3 (fun s18 => ?_))
   refine l_cons rfl (p_assign ?_)
   refine l_nil ?_
   refine k_blk_normal ?_
   refine k_seq_normal ?_
   refine w_region ?_
   refine l_cons rfl (p_move ?_)
   refine l_cons rfl (p_arith ?_)
   refine l_cons rfl (p_assign ?_)
   refine l_nil ?_
   refine k_seq_normal ?_
   first
   | exact ⟨bs.length - (k + 1), by omega, k + 1, s18, rfl, by omega, (by rw [marks_succ bs k (by omega), if_pos (by assumption), List.map_append]; rfl), by simp only [Knows, put, upd_apply, Nat.reduceEqDiff, ↓reduceIte, and_true, true_and, eq_self] <;> and_intros <;> rfl⟩
   | exact ⟨bs.length - (k + 1), by omega, k + 1, s3, rfl, by omega, (by rw [marks_succ bs k (by omega), if_neg (by simp_all)]), by simp only [Knows, put, upd_apply, Nat.reduceEqDiff, ↓reduceIte, and_true, true_and, eq_self] <;> and_intros <;> rfl⟩
  ·skip
   have h2' := h2; (try simp only [decide_eq_true_eq, decide_eq_false_iff_not, Bool.not_eq_true', Bool.not_false, Bool.not_true, Bool.not_eq_false'] at h2')
   refine w_skip ?_
   refine k_blk_normal ?_
   refine k_seq_normal ?_
   refine w_region ?_
   refine l_cons rfl (p_move ?_)
   refine l_cons rfl (p_arith ?_)
   refine l_cons rfl (p_assign ?_)
   refine l_nil ?_
   refine k_seq_normal ?_
   first
   | exact ⟨bs.length - (k + 1), by omega, k + 1, s18, rfl, by omega, (by rw [marks_succ bs k (by omega), if_pos (by assumption), List.map_append]; rfl), by simp only [Knows, put, upd_apply, Nat.reduceEqDiff, ↓reduceIte, and_true, true_and, eq_self] <;> and_intros <;> rfl⟩
   | exact ⟨bs.length - (k + 1), by omega, k + 1, s3, rfl, by omega, (by rw [marks_succ bs k (by omega), if_neg (by simp_all)]), by simp only [Knows, put, upd_apply, Nat.reduceEqDiff, ↓reduceIte, and_true, true_and, eq_self] <;> and_intros <;> rfl⟩
 ·skip
  have h1' := h1; (try simp only [decide_eq_true_eq, decide_eq_false_iff_not, Bool.not_eq_true', Bool.not_false, Bool.not_true, Bool.not_eq_false'] at h1')
  refine w_exit ?_
  refine k_seq_exit ?_
  refine k_seq_exit ?_
  refine k_blk_here ?_
  refine k_seq_normal ?_
  refine w_seq ?_
  refine w_freezeTop 3 ?_
  refine w_region ?_
  refine l_cons rfl (p_move ?_)
  refine l_cons rfl (p_assign ?_)
  refine l_nil ?_
  refine k_seq_normal ?_
  refine w_ret ?_
  refine ret1b rfl ?_ <;> exact ex2 subx ⟨by rw [show k = bs.length by omega]; rfl, rfl⟩
theorem refMay {w0 : World} {es : List Ent} (n : Nf) : ACalls Tryd.prog w0 42 [n.av] es fun v es' => v = .bool (mayN n) ∧ es' = es := by
 unfold Nf.av
 refine calls1 (N := 76) Tryd.func42 rfl rfl (by decide) ?_
 refine w_seq ?_
 refine w_region ?_
 refine l_cons rfl (p_box fun s1 => ?_)
 refine l_cons rfl (p_assign ?_)
 refine l_nil ?_
 refine k_seq_normal ?_
 refine w_seq ?_
 refine w_region ?_
 refine l_cons rfl (p_fap fa_36_0 ?_)
 refine l_cons rfl (p_loadp ty_34 ?_)
 refine l_len 8 fun hlen => ?_
 simp only [List.length_map, most] at hlen
 first | refine l_cons rfl (p_lenl sl_34 ?_) | refine l_cons rfl (p_leno sl_34 ?_) | refine l_cons rfl (p_lenn sl_34 ?_)
 refine l_cons rfl (p_assign ?_)
 refine l_nil ?_
 refine k_seq_normal ?_
 refine w_seq ?_
 refine w_seq ?_
 refine w_region ?_
 refine l_cons rfl (p_move ?_)
 refine l_cons rfl (p_cmp ?_)
 refine l_cons rfl (p_move ?_)
 refine g_b rfl (fun h1 => ?_) (fun h1 => ?_)
 ·skip
  have h1' := h1; (try simp only [decide_eq_true_eq, decide_eq_false_iff_not, Bool.not_eq_true', Bool.not_false, Bool.not_true, Bool.not_eq_false'] at h1')
  refine (p_fap fa_36_1 ?_)
  refine g_y rfl h1 (p_loadp ty_3 ?_)
  refine g_y rfl h1 (p_cmp ?_)
  refine l_cons rfl (p_pickf h1 ?_)
  refine l_cons rfl (p_move ?_)
  refine g_b rfl (fun h2 => ?_) (fun h2 => ?_)
  ·skip
   have h2' := h2; (try simp only [decide_eq_true_eq, decide_eq_false_iff_not, Bool.not_eq_true', Bool.not_false, Bool.not_true, Bool.not_eq_false'] at h2')
   refine (p_fap fa_36_1 ?_)
   refine g_y rfl h2 (p_loadp ty_3 ?_)
   refine g_y rfl h2 (p_move ?_)
   refine g_y rfl h2 (p_cmp ?_)
   refine l_cons rfl (p_pickf h2 ?_)
   refine l_cons rfl (p_move ?_)
   refine g_b rfl (fun h3 => ?_) (fun h3 => ?_)
   ·skip
    have h3' := h3; (try simp only [decide_eq_true_eq, decide_eq_false_iff_not, Bool.not_eq_true', Bool.not_false, Bool.not_true, Bool.not_eq_false'] at h3')
    refine (p_fap fa_36_2 ?_)
    refine g_y rfl h3 (p_loadp ty_3 ?_)
    refine g_y rfl h3 (p_cmp ?_)
    refine l_cons rfl (p_pickf h3 ?_)
    refine l_cons rfl (p_move ?_)
    refine g_b rfl (fun h4 => ?_) (fun h4 => ?_)
    ·skip
     have h4' := h4; (try simp only [decide_eq_true_eq, decide_eq_false_iff_not, Bool.not_eq_true', Bool.not_false, Bool.not_true, Bool.not_eq_false'] at h4')
     refine (p_fap fa_36_2 ?_)
     refine g_y rfl h4 (p_loadp ty_3 ?_)
     refine g_y rfl h4 (p_move ?_)
     refine g_y rfl h4 (p_cmp ?_)
     refine l_cons rfl (p_pickf h4 ?_)
     refine l_nil ?_
     refine k_seq_normal ?_
     refine w_b (fun h5 => ?_) (fun h5 => ?_)
     ·skip
      have h5' := h5; (try simp only [decide_eq_true_eq, decide_eq_false_iff_not, Bool.not_eq_true', Bool.not_false, Bool.not_true, Bool.not_eq_false'] at h5')
      refine w_seq ?_
      refine w_region ?_
      refine l_cons rfl (p_assign ?_)
      refine l_nil ?_
      refine k_seq_normal ?_
      refine w_ret ?_
      refine k_seq_ret ?_
      refine ret1b rfl ?_ <;> exact ex2 subx ⟨by rw [may_no1 (by first | (left; omega) | (right; unfold inN; simp only [Bool.and_eq_false_iff, decide_eq_false_iff_not]; omega))], rfl⟩
     ·skip
      have h5' := h5; (try simp only [decide_eq_true_eq, decide_eq_false_iff_not, Bool.not_eq_true', Bool.not_false, Bool.not_true, Bool.not_eq_false'] at h5')
      refine w_skip ?_
      refine k_seq_normal ?_
      refine w_seq ?_
      refine w_seq ?_
      refine w_region ?_
      refine l_cons rfl (p_assign ?_)
      refine l_nil ?_
      refine k_seq_normal ?_
      refine w_block ?_
      refine w_loop (fun m f es' => ∃ k, m = n.st.length - k ∧ k ≤ n.st.length ∧ (n.st.take k).all (okS n) = true ∧ Sub (.row s1 36 3 [n.cells] :: es) es' ∧ Knows f [(1, .ptr es.length s1 0 0), (3, .int .i64 n.st.length), (4, .int .i64 k)]) (n.st.length) (⟨0, rfl, Nat.zero_le _, rfl, Sub.refl _, by simp only [Knows, put, upd_apply, Nat.reduceEqDiff, ↓reduceIte, and_true, true_and, eq_self] <;> and_intros <;> rfl⟩) ?_
      rintro m f es' ⟨k, rfl, hk1, hk2, hsub, hk⟩
      refine w_pins _ hsub (hk) ?_
      simp only [pins]
      refine w_seq ?_
      refine w_seq ?_
      refine w_region ?_
      refine l_cons rfl (p_move ?_)
      refine l_cons rfl (p_move ?_)
      refine l_cons rfl (p_cmp ?_)
      refine l_nil ?_
      refine k_seq_normal ?_
      refine w_b (fun h6 => ?_) (fun h6 => ?_)
      ·skip
       have h6' := h6; (try simp only [decide_eq_true_eq, decide_eq_false_iff_not, Bool.not_eq_true', Bool.not_false, Bool.not_true, Bool.not_eq_false'] at h6')
       refine w_skip ?_
       refine k_seq_normal ?_
       refine w_seq ?_
       refine w_block ?_
       refine w_seq ?_
       refine w_region ?_
       refine l_cons rfl (p_fap fa_36_0 ?_)
       refine l_cons rfl (p_loadp ty_34 ?_)
       refine l_cons rfl (p_move ?_)
       first | refine l_cons rfl (p_ixl sl_34 ?_) | refine l_cons rfl (p_ixo sl_34 ?_)
       first | refine l_cons rfl (p_loadf ty_75 ?_) | refine l_cons rfl (p_loadp ty_75 ?_)
       refine l_cons rfl (p_alloc ze_75 fun s5 => ?_)
       refine l_cons rfl (p_store ty_75 ?_)
       refine l_nil ?_
       refine k_seq_normal ?_
       refine w_seq ?_
       refine w_seq ?_
       refine w_region ?_
       refine l_cons rfl (p_fap fa_75_1 ?_)
       refine l_cons rfl (p_loadp ty_3 ?_)
       refine l_cons rfl (p_move ?_)
       refine l_cons rfl (p_cmp ?_)
       refine l_cons rfl (p_move ?_)
       refine g_b rfl (fun h7 => ?_) (fun h7 => ?_)
       ·skip
        have h7' := h7; (try simp only [decide_eq_true_eq, decide_eq_false_iff_not, Bool.not_eq_true', Bool.not_false, Bool.not_true, Bool.not_eq_false'] at h7')
        refine (p_fap fa_75_2 ?_)
        refine g_y rfl h7 (p_loadp ty_48 ?_)
        first | refine g_y rfl h7 (p_lenl sl_48 ?_) | refine g_y rfl h7 (p_leno sl_48 ?_) | refine g_y rfl h7 (p_lenn sl_48 ?_)
        refine g_y rfl h7 (p_cmp ?_)
        refine l_cons rfl (p_pickf h7 ?_)
        refine l_nil ?_
        refine k_seq_normal ?_
        refine w_b (fun h8 => ?_) (fun h8 => ?_)
        ·skip
         have h8' := h8; (try simp only [decide_eq_true_eq, decide_eq_false_iff_not, Bool.not_eq_true', Bool.not_false, Bool.not_true, Bool.not_eq_false'] at h8')
         refine w_seq ?_
         refine w_region ?_
         refine l_cons rfl (p_assign ?_)
         refine l_nil ?_
         refine k_seq_normal ?_
         refine w_ret ?_
         refine k_seq_ret ?_
         refine k_blk_ret ?_
         refine k_seq_ret ?_
         refine k_seq_ret ?_
         refine k_blk_ret ?_
         refine k_seq_ret ?_
         refine ret1b rfl ?_ <;> exact ex2 subx ⟨by rw [may_no2 (k := k) (by omega) (by unfold okS; simp only [Bool.and_eq_false_iff, decide_eq_false_iff_not]; omega)], rfl⟩
        ·skip
         have h8' := h8; (try simp only [decide_eq_true_eq, decide_eq_false_iff_not, Bool.not_eq_true', Bool.not_false, Bool.not_true, Bool.not_eq_false'] at h8')
         refine w_skip ?_
         refine k_seq_normal ?_
         refine w_seq ?_
         refine w_region ?_
         refine l_cons rfl (p_assign ?_)
         refine l_nil ?_
         refine k_seq_normal ?_
         refine w_block ?_
         refine w_loop (fun m f es' => ∃ j s5, m = ((n.st[k]'(by omega)).free).length - j ∧ j ≤ ((n.st[k]'(by omega)).free).length ∧ (((n.st[k]'(by omega)).free).take j).all (inN n) = true ∧ es' = .row s5 75 6 [(n.st[k]'(by omega)).row] :: .row s1 36 3 [n.cells] :: es ∧ Knows f [(1, .ptr es.length s1 0 0), (3, .int .i64 n.st.length), (4, .int .i64 k), (5, .ptr (es.length + 1) s5 0 0), (6, .int .i64 j)]) (((n.st[k]'(by omega)).free).length) (⟨0, s5, rfl, Nat.zero_le _, rfl, rfl, by simp only [Knows, put, upd_apply, Nat.reduceEqDiff, ↓reduceIte, and_true, true_and, eq_self] <;> and_intros <;> rfl⟩) ?_
         rintro m f es' ⟨j, s5, rfl, hj1, hj2, rfl, hk⟩
         refine w_pins _ (Sub.refl _) (hk) ?_
         simp only [pins]
         refine w_seq ?_
         refine w_seq ?_
         refine w_region ?_
         refine l_cons rfl (p_move ?_)
         refine l_cons rfl (p_fap fa_75_2 ?_)
         refine l_cons rfl (p_loadp ty_48 ?_)
         refine l_len 56 fun hfl => ?_
         simp only [List.length_map, most] at hfl
         first | refine l_cons rfl (p_lenl sl_48 ?_) | refine l_cons rfl (p_leno sl_48 ?_) | refine l_cons rfl (p_lenn sl_48 ?_)
         refine l_cons rfl (p_cmp ?_)
         refine l_nil ?_
         refine k_seq_normal ?_
         refine w_b (fun h9 => ?_) (fun h9 => ?_)
         ·skip
          have h9' := h9; (try simp only [decide_eq_true_eq, decide_eq_false_iff_not, Bool.not_eq_true', Bool.not_false, Bool.not_true, Bool.not_eq_false'] at h9')
          refine w_skip ?_
          refine k_seq_normal ?_
          refine w_seq ?_
          refine w_block ?_
          refine w_seq ?_
          refine w_region ?_
          refine l_cons rfl (p_fap fa_75_2 ?_)
          refine l_cons rfl (p_loadp ty_48 ?_)
          refine l_cons rfl (p_move ?_)
          first | refine l_cons rfl (p_ixl sl_48 ?_) | refine l_cons rfl (p_ixo sl_48 ?_)
          first | refine l_cons rfl (p_loadf ty_3 ?_) | refine l_cons rfl (p_loadp ty_3 ?_)
          refine l_cons rfl (p_cmp ?_)
          refine l_cons rfl (p_move ?_)
          refine g_b rfl (fun h10 => ?_) (fun h10 => ?_)
          ·skip
           have h10' := h10; (try simp only [decide_eq_true_eq, decide_eq_false_iff_not, Bool.not_eq_true', Bool.not_false, Bool.not_true, Bool.not_eq_false'] at h10')
           refine (p_fap fa_75_2 ?_)
           refine g_y rfl h10 (p_loadp ty_48 ?_)
           refine g_y rfl h10 (p_move ?_)
           first | refine g_y rfl h10 (p_ixl sl_48 ?_) | refine g_y rfl h10 (p_ixo sl_48 ?_)
           first | refine g_y rfl h10 (p_loadf ty_3 ?_) | refine g_y rfl h10 (p_loadp ty_3 ?_)
           refine g_y rfl h10 (p_move ?_)
           refine g_y rfl h10 (p_cmp ?_)
           refine l_cons rfl (p_pickf h10 ?_)
           refine l_nil ?_
           refine k_seq_normal ?_
           refine w_b (fun h11 => ?_) (fun h11 => ?_)
           ·skip
            have h11' := h11; (try simp only [decide_eq_true_eq, decide_eq_false_iff_not, Bool.not_eq_true', Bool.not_false, Bool.not_true, Bool.not_eq_false'] at h11')
            refine w_seq ?_
            refine w_region ?_
            refine l_cons rfl (p_assign ?_)
            refine l_nil ?_
            refine k_seq_normal ?_
            refine w_ret ?_
            refine k_blk_ret ?_
            refine k_seq_ret ?_
            refine k_seq_ret ?_
            refine k_blk_ret ?_
            refine k_blk_ret ?_
            refine k_seq_ret ?_
            refine k_seq_ret ?_
            refine k_blk_ret ?_
            refine k_seq_ret ?_
            refine ret1b rfl ?_ <;> exact ex2 subx ⟨by rw [may_no2 (k := k) (by omega) (by unfold okS; rw [all_no (k := j) (by omega) (by unfold inN; simp only [Bool.and_eq_false_iff, decide_eq_false_iff_not]; omega)]; simp)], rfl⟩
           ·skip
            have h11' := h11; (try simp only [decide_eq_true_eq, decide_eq_false_iff_not, Bool.not_eq_true', Bool.not_false, Bool.not_true, Bool.not_eq_false'] at h11')
            refine w_skip ?_
            refine k_blk_normal ?_
            refine k_seq_normal ?_
            refine w_region ?_
            refine l_cons rfl (p_move ?_)
            refine l_cons rfl (p_arith ?_)
            refine l_cons rfl (p_assign ?_)
            refine l_nil ?_
            refine k_seq_normal ?_
            exact ⟨((n.st[k]'(by omega)).free).length - (j + 1), by omega, j + 1, s5, rfl, by omega, take_all (by omega) hj2 (by unfold inN; simp_all; try omega), rfl, by simp only [Knows, put, upd_apply, Nat.reduceEqDiff, ↓reduceIte, and_true, true_and, eq_self] <;> and_intros <;> rfl⟩
          ·skip
           have h10' := h10; (try simp only [decide_eq_true_eq, decide_eq_false_iff_not, Bool.not_eq_true', Bool.not_false, Bool.not_true, Bool.not_eq_false'] at h10')
           refine g_n rfl h10 ?_
           refine g_n rfl h10 ?_
           refine g_n rfl h10 ?_
           refine g_n rfl h10 ?_
           refine g_n rfl h10 ?_
           refine g_n rfl h10 ?_
           refine l_cons rfl (p_pickt h10 ?_)
           refine l_nil ?_
           refine k_seq_normal ?_
           refine w_t rfl ?_
           refine w_seq ?_
           refine w_region ?_
           refine l_cons rfl (p_assign ?_)
           refine l_nil ?_
           refine k_seq_normal ?_
           refine w_ret ?_
           refine k_blk_ret ?_
           refine k_seq_ret ?_
           refine k_seq_ret ?_
           refine k_blk_ret ?_
           refine k_blk_ret ?_
           refine k_seq_ret ?_
           refine k_seq_ret ?_
           refine k_blk_ret ?_
           refine k_seq_ret ?_
           refine ret1b rfl ?_ <;> exact ex2 subx ⟨by rw [may_no2 (k := k) (by omega) (by unfold okS; rw [all_no (k := j) (by omega) (by unfold inN; simp only [Bool.and_eq_false_iff, decide_eq_false_iff_not]; omega)]; simp)], rfl⟩
         ·skip
          have h9' := h9; (try simp only [decide_eq_true_eq, decide_eq_false_iff_not, Bool.not_eq_true', Bool.not_false, Bool.not_true, Bool.not_eq_false'] at h9')
          refine w_exit ?_
          refine k_seq_exit ?_
          refine k_seq_exit ?_
          refine k_blk_here ?_
          refine k_blk_normal ?_
          refine k_seq_normal ?_
          refine w_region ?_
          refine l_cons rfl (p_move ?_)
          refine l_cons rfl (p_arith ?_)
          refine l_cons rfl (p_assign ?_)
          refine l_nil ?_
          refine k_seq_normal ?_
          exact ⟨n.st.length - (k + 1), by omega, k + 1, rfl, by omega, take_all (by omega) hk2 (by
           have hall : ((n.st[k]'(by omega)).free).all (inN n) = true := by rw [← hj2, List.take_of_length_le (by omega)]
           unfold okS
           rw [hall]
           simp only [Bool.and_true, Bool.and_eq_true, decide_eq_true_eq]
           omega), (by first | exact Sub.refl _ | exact sub1 _ _), by simp only [Knows, put, upd_apply, Nat.reduceEqDiff, ↓reduceIte, and_true, true_and, eq_self] <;> and_intros <;> rfl⟩
       ·skip
        have h7' := h7; (try simp only [decide_eq_true_eq, decide_eq_false_iff_not, Bool.not_eq_true', Bool.not_false, Bool.not_true, Bool.not_eq_false'] at h7')
        refine g_n rfl h7 ?_
        refine g_n rfl h7 ?_
        refine g_n rfl h7 ?_
        refine l_cons rfl (p_pickt h7 ?_)
        refine l_nil ?_
        refine k_seq_normal ?_
        refine w_t rfl ?_
        refine w_seq ?_
        refine w_region ?_
        refine l_cons rfl (p_assign ?_)
        refine l_nil ?_
        refine k_seq_normal ?_
        refine w_ret ?_
        refine k_seq_ret ?_
        refine k_blk_ret ?_
        refine k_seq_ret ?_
        refine k_seq_ret ?_
        refine k_blk_ret ?_
        refine k_seq_ret ?_
        refine ret1b rfl ?_ <;> exact ex2 subx ⟨by rw [may_no2 (k := k) (by omega) (by unfold okS; simp only [Bool.and_eq_false_iff, decide_eq_false_iff_not]; omega)], rfl⟩
      ·skip
       have h6' := h6; (try simp only [decide_eq_true_eq, decide_eq_false_iff_not, Bool.not_eq_true', Bool.not_false, Bool.not_true, Bool.not_eq_false'] at h6')
       refine w_exit ?_
       refine k_seq_exit ?_
       refine k_seq_exit ?_
       refine k_blk_here ?_
       refine k_seq_normal ?_
       refine w_seq ?_
       refine w_region ?_
       refine l_cons rfl (p_assign ?_)
       refine l_nil ?_
       refine k_seq_normal ?_
       refine w_ret ?_
       refine ret1b rfl ?_ <;> exact ex2 subx ⟨by rw [may_yes (by omega) (by unfold inN; simp only [Bool.and_eq_true, decide_eq_true_eq]; omega) (by unfold inN; simp only [Bool.and_eq_true, decide_eq_true_eq]; omega) (by rw [← hk2, List.take_of_length_le (by omega)])], rfl⟩
    ·skip
     have h4' := h4; (try simp only [decide_eq_true_eq, decide_eq_false_iff_not, Bool.not_eq_true', Bool.not_false, Bool.not_true, Bool.not_eq_false'] at h4')
     refine g_n rfl h4 ?_
     refine g_n rfl h4 ?_
     refine g_n rfl h4 ?_
     refine l_cons rfl (p_pickt h4 ?_)
     refine l_nil ?_
     refine k_seq_normal ?_
     refine w_t rfl ?_
     refine w_seq ?_
     refine w_region ?_
     refine l_cons rfl (p_assign ?_)
     refine l_nil ?_
     refine k_seq_normal ?_
     refine w_ret ?_
     refine k_seq_ret ?_
     refine ret1b rfl ?_ <;> exact ex2 subx ⟨by rw [may_no1 (by first | (left; omega) | (right; unfold inN; simp only [Bool.and_eq_false_iff, decide_eq_false_iff_not]; omega))], rfl⟩
   ·skip
    have h3' := h3; (try simp only [decide_eq_true_eq, decide_eq_false_iff_not, Bool.not_eq_true', Bool.not_false, Bool.not_true, Bool.not_eq_false'] at h3')
    refine g_n rfl h3 ?_
    refine g_n rfl h3 ?_
    refine l_cons rfl (p_pickt h3 ?_)
    refine l_cons rfl (p_move ?_)
    refine g_n rfl rfl ?_
    refine g_n rfl rfl ?_
    refine g_n rfl rfl ?_
    refine g_n rfl rfl ?_
    refine l_cons rfl (p_pickt rfl ?_)
    refine l_nil ?_
    refine k_seq_normal ?_
    refine w_t rfl ?_
    refine w_seq ?_
    refine w_region ?_
    refine l_cons rfl (p_assign ?_)
    refine l_nil ?_
    refine k_seq_normal ?_
    refine w_ret ?_
    refine k_seq_ret ?_
    refine ret1b rfl ?_ <;> exact ex2 subx ⟨by rw [may_no1 (by first | (left; omega) | (right; unfold inN; simp only [Bool.and_eq_false_iff, decide_eq_false_iff_not]; omega))], rfl⟩
  ·skip
   have h2' := h2; (try simp only [decide_eq_true_eq, decide_eq_false_iff_not, Bool.not_eq_true', Bool.not_false, Bool.not_true, Bool.not_eq_false'] at h2')
   refine g_n rfl h2 ?_
   refine g_n rfl h2 ?_
   refine g_n rfl h2 ?_
   refine l_cons rfl (p_pickt h2 ?_)
   refine l_cons rfl (p_move ?_)
   refine g_n rfl rfl ?_
   refine g_n rfl rfl ?_
   refine g_n rfl rfl ?_
   refine l_cons rfl (p_pickt rfl ?_)
   refine l_cons rfl (p_move ?_)
   refine g_n rfl rfl ?_
   refine g_n rfl rfl ?_
   refine g_n rfl rfl ?_
   refine g_n rfl rfl ?_
   refine l_cons rfl (p_pickt rfl ?_)
   refine l_nil ?_
   refine k_seq_normal ?_
   refine w_t rfl ?_
   refine w_seq ?_
   refine w_region ?_
   refine l_cons rfl (p_assign ?_)
   refine l_nil ?_
   refine k_seq_normal ?_
   refine w_ret ?_
   refine k_seq_ret ?_
   refine ret1b rfl ?_ <;> exact ex2 subx ⟨by rw [may_no1 (by first | (left; omega) | (right; unfold inN; simp only [Bool.and_eq_false_iff, decide_eq_false_iff_not]; omega))], rfl⟩
 ·skip
  have h1' := h1; (try simp only [decide_eq_true_eq, decide_eq_false_iff_not, Bool.not_eq_true', Bool.not_false, Bool.not_true, Bool.not_eq_false'] at h1')
  refine g_n rfl h1 ?_
  refine g_n rfl h1 ?_
  refine l_cons rfl (p_pickt h1 ?_)
  refine l_cons rfl (p_move ?_)
  refine g_n rfl rfl ?_
  refine g_n rfl rfl ?_
  refine g_n rfl rfl ?_
  refine g_n rfl rfl ?_
  refine l_cons rfl (p_pickt rfl ?_)
  refine l_cons rfl (p_move ?_)
  refine g_n rfl rfl ?_
  refine g_n rfl rfl ?_
  refine g_n rfl rfl ?_
  refine l_cons rfl (p_pickt rfl ?_)
  refine l_cons rfl (p_move ?_)
  refine g_n rfl rfl ?_
  refine g_n rfl rfl ?_
  refine g_n rfl rfl ?_
  refine g_n rfl rfl ?_
  refine l_cons rfl (p_pickt rfl ?_)
  refine l_nil ?_
  refine k_seq_normal ?_
  refine w_t rfl ?_
  refine w_seq ?_
  refine w_region ?_
  refine l_cons rfl (p_assign ?_)
  refine l_nil ?_
  refine k_seq_normal ?_
  refine w_ret ?_
  refine k_seq_ret ?_
  refine ret1b rfl ?_ <;> exact ex2 subx ⟨by rw [may_no1 (by first | (left; omega) | (right; unfold inN; simp only [Bool.and_eq_false_iff, decide_eq_false_iff_not]; omega))], rfl⟩
end Go.Proofs.YtfdgbghlanbddaaDoor.Av
namespace Go.Proofs.YtfdgbghlanbddaaDoor.Av
/-! ### the document's own closing -/
structure RI (n : Nf) (l : List Int) (bs : List Bool) : Prop where
 len : bs.length = n.st.length
 sound : ∀ i, On bs i → Reach n l i
 roots : ∀ x ∈ l, 0 ≤ x → x.toNat < n.st.length → On bs x.toNat
/-- One sweep under way: what was at its beginning, is there anything new, now, how far. -/
structure SW (n : Nf) (l : List Int) (bs0 : List Bool) (again : Bool) (bs : List Bool) (i k : Nat) : Prop where
 ri : RI n l bs
 le : bs.count false ≤ bs0.count false
 less : again = true → bs.count false < bs0.count false
 past : again = false → ∀ i' (h : i' < n.st.length), i' < i → On bs i' → ∀ x ∈ (n.st[i']).free, On bs x.toNat
 here : again = false → ∀ h : i < n.st.length, On bs i → ∀ x ∈ ((n.st[i]).free).take k, On bs x.toNat
theorem on_set_same {bs : List Bool} {i : Nat} (h : On bs i) : bs.set i true = bs := by
 unfold On at h
 refine List.ext_getElem? fun j => ?_
 rw [List.getElem?_set]
 split
 ·rename_i e
  subst e
  rw [if_pos (List.getElem?_eq_some_iff.1 h).1, h]
 ·rfl
theorem count_set_new {bs : List Bool} {i : Nat} (hi : i < bs.length) (h : bs[i] = false) : (bs.set i true).count false < bs.count false := by
 rw [List.count_set hi]
 have hpos : 0 < bs.count false := List.count_pos_iff.2 (h ▸ List.getElem_mem hi)
 have e2 : (true == false) = false := rfl
 simp only [h, beq_self_eq_true, if_true, e2, Bool.false_eq_true, if_false]
 omega
theorem SW.begin {n : Nf} {l : List Int} {bs : List Bool} (h : RI n l bs) : SW n l bs false bs 0 0 :=
 ⟨h, Nat.le_refl _, fun e => (by cases e), fun _ i' _ hi => absurd hi (Nat.not_lt_zero _), fun _ _ _ x hx => by simp at hx⟩
theorem SW.mark {n : Nf} {l : List Int} {bs0 bs : List Bool} {again : Bool} {i k : Nat} (hi : i < n.st.length) (hk : k < (n.st[i]).free.length) (h : SW n l bs0 again bs i k) (hon : On bs i) (h0 : 0 ≤ (n.st[i]).free[k]) (h1 : (n.st[i]).free[k].toNat < bs.length) :
  SW n l bs0 (again || !(bs[(n.st[i]).free[k].toNat])) (bs.set (n.st[i]).free[k].toNat true) i (k + 1) := by
 have hR := h.ri.sound i hon
 have hri : RI n l (bs.set (n.st[i]).free[k].toNat true) := by
  refine ⟨by rw [List.length_set]; exact h.ri.len, fun j hj => ?_, fun x hx hx0 hx1 => ?_⟩
  ·rcases (on_set h1).1 hj with rfl | hj
   ·exact .step hi hR (by rw [Int.toNat_of_nonneg h0]; exact List.getElem_mem hk) (by rw [← h.ri.len]; exact h1)
   ·exact h.ri.sound j hj
  ·exact (on_set h1).2 (.inr (h.ri.roots x hx hx0 hx1))
 by_cases hb : bs[(n.st[i]).free[k].toNat] = true
 ·have hon2 : On bs (n.st[i]).free[k].toNat := by unfold On; rw [List.getElem?_eq_getElem h1, hb]
  rw [hb]
  simp only [Bool.not_true, Bool.or_false]
  rw [on_set_same hon2]
  refine ⟨h.ri, h.le, h.less, h.past, fun e hi' ho x hx => ?_⟩
  rw [List.take_add_one, List.getElem?_eq_getElem hk] at hx
  rcases List.mem_append.1 hx with hx | hx
  ·exact h.here e hi' ho x hx
  ·simp only [Option.toList_some, List.mem_singleton] at hx
   subst hx
   exact hon2
 ·have hb' : bs[(n.st[i]).free[k].toNat] = false := by simpa using hb
  rw [hb']
  simp only [Bool.not_false, Bool.or_true]
  have hc := count_set_new h1 hb'
  exact ⟨hri, by have := h.le; omega, fun _ => by have := h.le; omega, fun e => (by cases e), fun e => (by cases e)⟩
theorem SW.next {n : Nf} {l : List Int} {bs0 bs : List Bool} {again : Bool} {i k : Nat} (hi : i < n.st.length) (h : SW n l bs0 again bs i k) (hd : k = (n.st[i]).free.length ∨ ¬ On bs i) : SW n l bs0 again bs (i + 1) 0 := by
 refine ⟨h.ri, h.le, h.less, fun e i' hi' hlt ho x hx => ?_, fun _ _ _ x hx => by simp at hx⟩
 rcases Nat.lt_or_eq_of_le (Nat.le_of_lt_succ hlt) with h1 | h1
 ·exact h.past e i' hi' h1 ho x hx
 ·subst h1
  rcases hd with rfl | hd
  ·exact h.here e hi ho x (by rw [List.take_length]; exact hx)
  ·exact absurd ho hd
theorem SW.fin {n : Nf} {l : List Int} {bs0 bs : List Bool} {k : Nat} (h : SW n l bs0 false bs n.st.length k) (i : Nat) : On bs i ↔ Reach n l i := by
 refine ⟨h.ri.sound i, fun hr => ?_⟩
 induction hr with
 | base hi hm => have := h.ri.roots _ hm (by omega) (by simpa using hi); simpa using this
 | step hi _ hm hj ih => have := h.past rfl _ hi hi ih _ hm; simpa using this
open Classical in
theorem marks_reach {n : Nf} {l : List Int} {bs : List Bool} (hl : bs.length = n.st.length) (h : ∀ i, On bs i ↔ Reach n l i) : marks bs bs.length = closed n l := by
 unfold marks closed
 rw [hl]
 congr 1
 refine List.filter_congr fun i hi => ?_
 have := h i
 unfold On at this
 rw [List.getD_eq_getElem?_getD]
 by_cases hr : Reach n l i
 ·rw [this.2 hr]; simp [hr]
 ·have h2 := mt this.1 hr
  simp only [hr, decide_false]
  cases hb : bs[i]? with
  | none => rfl
  | some b => cases b with
   | false => rfl
   | true => exact absurd hb h2
/-- The roots, one after the other. -/
structure RT (n : Nf) (l : List Int) (bs : List Bool) (j : Nat) : Prop where
 len : bs.length = n.st.length
 sound : ∀ i, On bs i → Reach n l i
 roots : ∀ x ∈ l.take j, 0 ≤ x → x.toNat < n.st.length → On bs x.toNat
theorem RT.begin (n : Nf) (l : List Int) : RT n l (List.replicate n.st.length false) 0 := by
 have no : ∀ i, ¬ On (List.replicate n.st.length false) i := by
  intro i h
  unfold On at h
  rw [List.getElem?_replicate] at h
  split at h <;> cases h
 exact ⟨by simp, fun i hi => absurd hi (no i), fun x hx => by simp at hx⟩
theorem RT.yes {n : Nf} {l : List Int} {bs : List Bool} {j : Nat} (h : RT n l bs j) (hj : j < l.length) (h0 : 0 ≤ l[j]) (h1 : l[j].toNat < bs.length) : RT n l (bs.set l[j].toNat true) (j + 1) := by
 refine ⟨by rw [List.length_set]; exact h.len, fun i hi => ?_, fun x hx hx0 hx1 => ?_⟩
 ·rcases (on_set h1).1 hi with rfl | hi
  ·exact .base (by rw [← h.len]; exact h1) (by rw [Int.toNat_of_nonneg h0]; exact List.getElem_mem hj)
  ·exact h.sound i hi
 ·rw [List.take_add_one, List.getElem?_eq_getElem hj] at hx
  rcases List.mem_append.1 hx with hx | hx
  ·exact (on_set h1).2 (.inr (h.roots x hx hx0 hx1))
  ·simp only [Option.toList_some, List.mem_singleton] at hx
   subst hx
   exact (on_set h1).2 (.inl rfl)
theorem RT.no {n : Nf} {l : List Int} {bs : List Bool} {j : Nat} (h : RT n l bs j) (hj : j < l.length) (hn : ¬ 0 ≤ l[j] ∨ ¬ l[j] < bs.length) : RT n l bs (j + 1) := by
 refine ⟨h.len, h.sound, fun x hx hx0 hx1 => ?_⟩
 rw [List.take_add_one, List.getElem?_eq_getElem hj] at hx
 rcases List.mem_append.1 hx with hx | hx
 ·exact h.roots x hx hx0 hx1
 ·simp only [Option.toList_some, List.mem_singleton] at hx
  subst hx
  have := h.len
  omega
theorem RT.fin {n : Nf} {l : List Int} {bs : List Bool} {j : Nat} (h : RT n l bs j) (hj : j = l.length) : RI n l bs := ⟨h.len, h.sound, fun x hx => h.roots x (by subst hj; rw [List.take_length]; exact hx)⟩
end Go.Proofs.YtfdgbghlanbddaaDoor.Av
namespace Go.Proofs.YtfdgbghlanbddaaDoor.Av
theorem may_free {n : Nf} (h : mayN n = true) {i k : Nat} (hi : i < n.st.length) (hk : k < (n.st[i]).free.length) : 0 ≤ (n.st[i]).free[k] ∧ (n.st[i]).free[k] < n.st.length := by
 unfold mayN at h
 simp only [Bool.and_eq_true, List.all_eq_true] at h
 have h2 := h.2 _ (List.getElem_mem hi)
 unfold okS at h2
 simp only [Bool.and_eq_true, List.all_eq_true] at h2
 have h3 := h2.2 _ (List.getElem_mem hk)
 unfold inN at h3
 simpa only [Bool.and_eq_true, decide_eq_true_eq] using h3
end Go.Proofs.YtfdgbghlanbddaaDoor.Av
set_option linter.unusedVariables false
set_option linter.unusedSimpArgs false
set_option maxRecDepth 8000
namespace Go.Proofs.YtfdgbghlanbddaaDoor.Av
open Go.RowKit Go.Proofs
theorem refClose {w0 : World} {es : List Ent} (n : Nf) (l : List Int) : ACalls Tryd.prog w0 43 [n.av, ints l] es fun v es' => v = ints (closeN n l) ∧ es' = es := by
 unfold Nf.av ints
 refine calls2 (N := 90) Tryd.func43 rfl rfl (by decide) ?_
 refine w_seq ?_
 refine w_region ?_
 refine l_cons rfl (p_box fun s2 => ?_)
 refine l_cons rfl (p_assign ?_)
 refine l_nil ?_
 refine k_seq_normal ?_
 refine w_seq ?_
 refine w_seq ?_
 refine w_len 1 fun hl => ?_
 rw [List.length_map] at hl
 simp only [most] at hl
 refine w_region ?_
 refine l_cons rfl (p_loadp ty_36 ?_)
 refine l_cons rfl (p_callr en_42 (refMay n) ?_)
 refine l_cons rfl (p_not ?_)
 refine l_nil ?_
 refine k_seq_normal ?_
 refine w_b (fun h1 => ?_) (fun h1 => ?_)
 ·skip
  have h1' := h1; (try simp only [decide_eq_true_eq, decide_eq_false_iff_not, Bool.not_eq_true', Bool.not_false, Bool.not_true, Bool.not_eq_false'] at h1')
  refine w_seq ?_
  refine w_region ?_
  refine l_cons rfl (p_assign ?_)
  refine l_nil ?_
  refine k_seq_normal ?_
  refine w_nilList 4 1 ?_
  refine w_ret ?_
  refine k_seq_ret ?_
  refine ret1b rfl ?_ <;> exact ex2 subx ⟨by unfold closeN; rw [h1']; rfl, rfl⟩
 ·skip
  have h1' := h1; (try simp only [decide_eq_true_eq, decide_eq_false_iff_not, Bool.not_eq_true', Bool.not_false, Bool.not_true, Bool.not_eq_false'] at h1')
  refine w_skip ?_
  refine k_seq_normal ?_
  refine w_seq ?_
  have hst := may_le h1'
  refine w_region ?_
  refine l_cons rfl (p_fap fa_36_0 ?_)
  refine l_cons rfl (p_loadp ty_34 ?_)
  first | refine l_cons rfl (p_lenl sl_34 ?_) | refine l_cons rfl (p_leno sl_34 ?_) | refine l_cons rfl (p_lenn sl_34 ?_)
  refine l_cons rfl (p_makeSlice sl_60 by_4 ze_4  fun s17 => ?_)
  refine l_cons rfl (p_assign ?_)
  refine l_nil ?_
  refine k_seq_normal ?_
  refine w_seq ?_
  refine w_seq ?_
  refine w_region ?_
  refine l_cons rfl (p_assign ?_)
  refine l_nil ?_
  refine k_seq_normal ?_
  refine w_block ?_
  refine w_loop (fun m f es' => ∃ j bs, m = l.length - j ∧ j ≤ l.length ∧ RT n l bs j ∧ es' = .row s17 4 1 (bs.map fun b => [.bool b]) :: .row s2 36 3 [n.cells] :: es ∧ Knows f [(2, .ptr es.length s2 0 0), (5, .own (es.length + 1) s17), (1, .list 1 (l.map fun n => [.int .i64 n])), (6, .int .i64 j)]) (l.length) (⟨0, _, rfl, Nat.zero_le _, RT.begin n l, by simp [List.map_replicate, Nf.cells], by simp only [Knows, put, upd_apply, Nat.reduceEqDiff, ↓reduceIte, and_true, true_and, eq_self] <;> and_intros <;> rfl⟩) ?_
  rintro m f es' ⟨j, bs, rfl, hj1, hrt, rfl, hk⟩
  have hbl := hrt.len
  refine w_pins _ (Sub.refl _) (hk) ?_
  simp only [pins]
  refine w_seq ?_
  refine w_seq ?_
  refine w_region ?_
  refine l_cons rfl (p_move ?_)
  refine l_cons rfl (p_move ?_)
  refine l_cons rfl (p_lenl sl_48 ?_)
  refine l_cons rfl (p_cmp ?_)
  refine l_nil ?_
  refine k_seq_normal ?_
  refine w_b (fun h2 => ?_) (fun h2 => ?_)
  ·skip
   have h2' := h2; (try simp only [decide_eq_true_eq, decide_eq_false_iff_not, Bool.not_eq_true', Bool.not_false, Bool.not_true, Bool.not_eq_false'] at h2')
   refine w_skip ?_
   refine k_seq_normal ?_
   refine w_seq ?_
   refine w_block ?_
   refine w_seq ?_
   refine w_region ?_
   refine l_cons rfl (p_move ?_)
   refine l_cons rfl (p_move ?_)
   refine l_cons rfl (p_ixl sl_48 ?_)
   refine l_cons rfl (p_loadf ty_3 ?_)
   refine l_cons rfl (p_cmp ?_)
   refine l_cons rfl (p_move ?_)
   refine g_b rfl (fun h3 => ?_) (fun h3 => ?_)
   ·skip
    have h3' := h3; (try simp only [decide_eq_true_eq, decide_eq_false_iff_not, Bool.not_eq_true', Bool.not_false, Bool.not_true, Bool.not_eq_false'] at h3')
    refine (p_move ?_)
    refine g_y rfl h3 (p_move ?_)
    refine g_y rfl h3 (p_ixl sl_48 ?_)
    refine g_y rfl h3 (p_loadf ty_3 ?_)
    refine g_y rfl h3 (p_move ?_)
    refine g_y rfl h3 (p_leno sl_60 ?_)
    refine g_y rfl h3 (p_cmp ?_)
    refine l_cons rfl (p_pickt h3 ?_)
    refine l_nil ?_
    refine k_seq_normal ?_
    refine w_b (fun h4 => ?_) (fun h4 => ?_)
    ·skip
     have h4' := h4; (try simp only [decide_eq_true_eq, decide_eq_false_iff_not, Bool.not_eq_true', Bool.not_false, Bool.not_true, Bool.not_eq_false'] at h4')
     refine w_region ?_
     refine l_cons rfl (p_move ?_)
     refine l_cons rfl (p_move ?_)
     refine l_cons rfl (p_move ?_)
     refine l_cons rfl (p_ixl sl_48 ?_)
     refine l_cons rfl (p_loadf ty_3 ?_)
     refine l_cons rfl (p_ixo sl_60 ?_)
     refine l_cons rfl (p_store ty_4 ?_)
     refine l_nil ?_
     refine k_blk_normal ?_
     refine k_seq_normal ?_
     refine w_region ?_
     refine l_cons rfl (p_move ?_)
     refine l_cons rfl (p_arith ?_)
     refine l_cons rfl (p_assign ?_)
     refine l_nil ?_
     refine k_seq_normal ?_
     first
     | exact ⟨l.length - (j + 1), by omega, j + 1, _, rfl, by omega, hrt.yes (by omega) (by omega) (by omega), by rw [List.map_set], by simp only [Knows, put, upd_apply, Nat.reduceEqDiff, ↓reduceIte, and_true, true_and, eq_self] <;> and_intros <;> rfl⟩
     | exact ⟨l.length - (j + 1), by omega, j + 1, bs, rfl, by omega, hrt.no (by omega) (by omega), rfl, by simp only [Knows, put, upd_apply, Nat.reduceEqDiff, ↓reduceIte, and_true, true_and, eq_self] <;> and_intros <;> rfl⟩
    ·skip
     have h4' := h4; (try simp only [decide_eq_true_eq, decide_eq_false_iff_not, Bool.not_eq_true', Bool.not_false, Bool.not_true, Bool.not_eq_false'] at h4')
     refine w_skip ?_
     refine k_blk_normal ?_
     refine k_seq_normal ?_
     refine w_region ?_
     refine l_cons rfl (p_move ?_)
     refine l_cons rfl (p_arith ?_)
     refine l_cons rfl (p_assign ?_)
     refine l_nil ?_
     refine k_seq_normal ?_
     first
     | exact ⟨l.length - (j + 1), by omega, j + 1, _, rfl, by omega, hrt.yes (by omega) (by omega) (by omega), by rw [List.map_set], by simp only [Knows, put, upd_apply, Nat.reduceEqDiff, ↓reduceIte, and_true, true_and, eq_self] <;> and_intros <;> rfl⟩
     | exact ⟨l.length - (j + 1), by omega, j + 1, bs, rfl, by omega, hrt.no (by omega) (by omega), rfl, by simp only [Knows, put, upd_apply, Nat.reduceEqDiff, ↓reduceIte, and_true, true_and, eq_self] <;> and_intros <;> rfl⟩
   ·skip
    have h3' := h3; (try simp only [decide_eq_true_eq, decide_eq_false_iff_not, Bool.not_eq_true', Bool.not_false, Bool.not_true, Bool.not_eq_false'] at h3')
    refine g_n rfl h3 ?_
    refine g_n rfl h3 ?_
    refine g_n rfl h3 ?_
    refine g_n rfl h3 ?_
    refine g_n rfl h3 ?_
    refine g_n rfl h3 ?_
    refine l_cons rfl (p_pickf h3 ?_)
    refine l_nil ?_
    refine k_seq_normal ?_
    refine w_f rfl ?_
    refine w_skip ?_
    refine k_blk_normal ?_
    refine k_seq_normal ?_
    refine w_region ?_
    refine l_cons rfl (p_move ?_)
    refine l_cons rfl (p_arith ?_)
    refine l_cons rfl (p_assign ?_)
    refine l_nil ?_
    refine k_seq_normal ?_
    first
    | exact ⟨l.length - (j + 1), by omega, j + 1, _, rfl, by omega, hrt.yes (by omega) (by omega) (by omega), by rw [List.map_set], by simp only [Knows, put, upd_apply, Nat.reduceEqDiff, ↓reduceIte, and_true, true_and, eq_self] <;> and_intros <;> rfl⟩
    | exact ⟨l.length - (j + 1), by omega, j + 1, bs, rfl, by omega, hrt.no (by omega) (by omega), rfl, by simp only [Knows, put, upd_apply, Nat.reduceEqDiff, ↓reduceIte, and_true, true_and, eq_self] <;> and_intros <;> rfl⟩
  ·skip
   have h2' := h2; (try simp only [decide_eq_true_eq, decide_eq_false_iff_not, Bool.not_eq_true', Bool.not_false, Bool.not_true, Bool.not_eq_false'] at h2')
   refine w_exit ?_
   refine k_seq_exit ?_
   refine k_seq_exit ?_
   refine k_blk_here ?_
   refine k_seq_normal ?_
   refine w_seq ?_
   refine w_seq ?_
   refine w_region ?_
   refine l_cons rfl (p_assign ?_)
   refine l_nil ?_
   refine k_seq_normal ?_
   refine w_block ?_
   refine w_loop (fun m f es' => ∃ bs again, m = bs.count false + (if again = true then 1 else 0) ∧ RI n l bs ∧ (again = false → ∀ i, On bs i ↔ Reach n l i) ∧ es' = .row s17 4 1 (bs.map fun b => [.bool b]) :: .row s2 36 3 [n.cells] :: es ∧ Knows f [(2, .ptr es.length s2 0 0), (5, .own (es.length + 1) s17), (7, .bool again)]) (_) (⟨bs, true, rfl, hrt.fin (by omega), fun e => (by cases e), rfl, by simp only [Knows, put, upd_apply, Nat.reduceEqDiff, ↓reduceIte, and_true, true_and, eq_self] <;> and_intros <;> rfl⟩) ?_
   rintro m f es' ⟨bs, again, rfl, hri, hfin, rfl, hk⟩
   have hbl := hri.len
   refine w_pins _ (Sub.refl _) (hk) ?_
   simp only [pins]
   refine w_seq ?_
   refine w_seq ?_
   refine w_region ?_
   refine l_cons rfl (p_move ?_)
   refine l_nil ?_
   refine k_seq_normal ?_
   refine w_b (fun h5 => ?_) (fun h5 => ?_)
   ·skip
    have h5' := h5; (try simp only [decide_eq_true_eq, decide_eq_false_iff_not, Bool.not_eq_true', Bool.not_false, Bool.not_true, Bool.not_eq_false'] at h5')
    refine w_skip ?_
    refine k_seq_normal ?_
    refine w_block ?_
    refine w_seq ?_
    refine w_region ?_
    refine l_cons rfl (p_assign ?_)
    refine l_nil ?_
    refine k_seq_normal ?_
    refine w_seq ?_
    refine w_region ?_
    refine l_cons rfl (p_assign ?_)
    refine l_nil ?_
    refine k_seq_normal ?_
    refine w_block ?_
    refine w_loop (fun m f es' => ∃ i bs' again', m = n.st.length - i ∧ i ≤ n.st.length ∧ SW n l bs again' bs' i 0 ∧ es' = .row s17 4 1 (bs'.map fun b => [.bool b]) :: .row s2 36 3 [n.cells] :: es ∧ Knows f [(2, .ptr es.length s2 0 0), (5, .own (es.length + 1) s17), (7, .bool again'), (8, .int .i64 i)]) (n.st.length) (⟨0, bs, false, rfl, Nat.zero_le _, SW.begin hri, rfl, by simp only [Knows, put, upd_apply, Nat.reduceEqDiff, ↓reduceIte, and_true, true_and, eq_self] <;> and_intros <;> rfl⟩) ?_
    rintro m f es' ⟨i, bs', again', rfl, hi1, hsw, rfl, hk⟩
    have hbl' := hsw.ri.len
    refine w_pins _ (Sub.refl _) (hk) ?_
    simp only [pins]
    refine w_seq ?_
    refine w_seq ?_
    refine w_region ?_
    refine l_cons rfl (p_move ?_)
    refine l_cons rfl (p_move ?_)
    refine l_cons rfl (p_leno sl_60 ?_)
    refine l_cons rfl (p_cmp ?_)
    refine l_nil ?_
    refine k_seq_normal ?_
    refine w_b (fun h6 => ?_) (fun h6 => ?_)
    ·skip
     have h6' := h6; (try simp only [decide_eq_true_eq, decide_eq_false_iff_not, Bool.not_eq_true', Bool.not_false, Bool.not_true, Bool.not_eq_false'] at h6')
     refine w_skip ?_
     refine k_seq_normal ?_
     refine w_seq ?_
     refine w_block ?_
     refine w_seq ?_
     refine w_region ?_
     refine l_cons rfl (p_assign ?_)
     refine l_nil ?_
     refine k_seq_normal ?_
     refine w_block ?_
     refine w_loop (fun m f es' => ∃ k bs2 again2, m = ((n.st[i]'(by omega)).free).length - k ∧ k ≤ ((n.st[i]'(by omega)).free).length ∧ SW n l bs again2 bs2 i k ∧ es' = .row s17 4 1 (bs2.map fun b => [.bool b]) :: .row s2 36 3 [n.cells] :: es ∧ Knows f [(2, .ptr es.length s2 0 0), (5, .own (es.length + 1) s17), (7, .bool again2), (8, .int .i64 i), (9, .int .i64 k)]) (((n.st[i]'(by omega)).free).length) (⟨0, bs', again', rfl, Nat.zero_le _, hsw, rfl, by simp only [Knows, put, upd_apply, Nat.reduceEqDiff, ↓reduceIte, and_true, true_and, eq_self] <;> and_intros <;> rfl⟩) ?_
     rintro m f es' ⟨k, bs2, again2, rfl, hk1, hsw, rfl, hk⟩
     have hbl2 := hsw.ri.len
     refine w_pins _ (Sub.refl _) (hk) ?_
     simp only [pins]
     refine w_seq ?_
     refine w_seq ?_
     refine w_region ?_
     refine l_cons rfl (p_move ?_)
     refine l_cons rfl (p_fap fa_36_0 ?_)
     refine l_cons rfl (p_loadp ty_34 ?_)
     refine l_cons rfl (p_move ?_)
     first | refine l_cons rfl (p_ixl sl_34 ?_) | refine l_cons rfl (p_ixo sl_34 ?_)
     first | refine l_cons rfl (p_fap fa_75_2 ?_) | refine l_cons rfl (p_faf fa_75_2 ?_)
     first | refine l_cons rfl (p_loadf ty_48 ?_) | refine l_cons rfl (p_loadp ty_48 ?_)
     refine l_len 57 fun hfl => ?_
     simp only [List.length_map, most] at hfl
     first | refine l_cons rfl (p_lenl sl_48 ?_) | refine l_cons rfl (p_leno sl_48 ?_) | refine l_cons rfl (p_lenn sl_48 ?_)
     refine l_cons rfl (p_cmp ?_)
     refine l_cons rfl (p_move ?_)
     refine g_b rfl (fun h7 => ?_) (fun h7 => ?_)
     ·skip
      have h7' := h7; (try simp only [decide_eq_true_eq, decide_eq_false_iff_not, Bool.not_eq_true', Bool.not_false, Bool.not_true, Bool.not_eq_false'] at h7')
      refine (p_move ?_)
      refine g_y rfl h7 (p_move ?_)
      refine g_y rfl h7 (p_ixo sl_60 ?_)
      refine g_y rfl h7 (p_loadp ty_4 ?_)
      refine l_cons rfl (p_pickt h7 ?_)
      refine l_nil ?_
      refine k_seq_normal ?_
      refine w_b (fun h8 => ?_) (fun h8 => ?_)
      ·skip
       have h8' := h8; (try simp only [decide_eq_true_eq, decide_eq_false_iff_not, Bool.not_eq_true', Bool.not_false, Bool.not_true, Bool.not_eq_false'] at h8')
       refine w_skip ?_
       refine k_seq_normal ?_
       refine w_seq ?_
       refine w_block ?_
       refine w_seq ?_
       refine w_region ?_
       refine l_cons rfl (p_fap fa_36_0 ?_)
       refine l_cons rfl (p_loadp ty_34 ?_)
       refine l_cons rfl (p_move ?_)
       first | refine l_cons rfl (p_ixl sl_34 ?_) | refine l_cons rfl (p_ixo sl_34 ?_)
       first | refine l_cons rfl (p_fap fa_75_2 ?_) | refine l_cons rfl (p_faf fa_75_2 ?_)
       first | refine l_cons rfl (p_loadf ty_48 ?_) | refine l_cons rfl (p_loadp ty_48 ?_)
       refine l_cons rfl (p_move ?_)
       first | refine l_cons rfl (p_ixl sl_48 ?_) | refine l_cons rfl (p_ixo sl_48 ?_)
       first | refine l_cons rfl (p_loadf ty_3 ?_) | refine l_cons rfl (p_loadp ty_3 ?_)
       refine l_cons rfl (p_assign ?_)
       refine l_nil ?_
       refine k_seq_normal ?_
       refine w_seq ?_
       have hto := may_free h1' (i := i) (k := k) (by omega) (by omega)
       refine w_region ?_
       refine l_cons rfl (p_move ?_)
       refine l_cons rfl (p_move ?_)
       refine g_b rfl (fun h9 => ?_) (fun h9 => ?_)
       ·skip
        have h9' := h9; (try simp only [decide_eq_true_eq, decide_eq_false_iff_not, Bool.not_eq_true', Bool.not_false, Bool.not_true, Bool.not_eq_false'] at h9')
        refine (p_move ?_)
        refine g_y rfl h9 (p_move ?_)
        refine g_y rfl h9 (p_ixo sl_60 ?_)
        refine g_y rfl h9 (p_loadp ty_4 ?_)
        refine g_y rfl h9 (p_not ?_)
        refine l_cons rfl (p_pickf h9 ?_)
        refine l_cons rfl (p_assign ?_)
        refine l_nil ?_
        refine k_seq_normal ?_
        refine w_region ?_
        refine l_cons rfl (p_move ?_)
        refine l_cons rfl (p_move ?_)
        refine l_cons rfl (p_ixo sl_60 ?_)
        refine l_cons rfl (p_store ty_4 ?_)
        refine l_nil ?_
        refine k_blk_normal ?_
        refine k_seq_normal ?_
        refine w_region ?_
        refine l_cons rfl (p_move ?_)
        refine l_cons rfl (p_arith ?_)
        refine l_cons rfl (p_assign ?_)
        refine l_nil ?_
        refine k_seq_normal ?_
        have hon : On bs2 i := by
         unfold On
         rw [List.getElem?_eq_getElem (by omega)]
         simp_all
        refine ⟨((n.st[i]'(by omega)).free).length - (k + 1), by omega, k + 1, _, _, rfl, by omega, hsw.mark (by omega) (by omega) hon hto.1 (by omega), by rw [List.map_set], ?_⟩
        simp only [Knows, put, upd_apply, Nat.reduceEqDiff, ↓reduceIte, and_true, true_and, eq_self]
        first | exact ⟨by simp [*], rfl⟩ | simp [*]
       ·skip
        have h9' := h9; (try simp only [decide_eq_true_eq, decide_eq_false_iff_not, Bool.not_eq_true', Bool.not_false, Bool.not_true, Bool.not_eq_false'] at h9')
        refine g_n rfl h9 ?_
        refine g_n rfl h9 ?_
        refine g_n rfl h9 ?_
        refine g_n rfl h9 ?_
        refine l_cons rfl (p_pickt h9 ?_)
        refine l_cons rfl (p_assign ?_)
        refine l_nil ?_
        refine k_seq_normal ?_
        refine w_region ?_
        refine l_cons rfl (p_move ?_)
        refine l_cons rfl (p_move ?_)
        refine l_cons rfl (p_ixo sl_60 ?_)
        refine l_cons rfl (p_store ty_4 ?_)
        refine l_nil ?_
        refine k_blk_normal ?_
        refine k_seq_normal ?_
        refine w_region ?_
        refine l_cons rfl (p_move ?_)
        refine l_cons rfl (p_arith ?_)
        refine l_cons rfl (p_assign ?_)
        refine l_nil ?_
        refine k_seq_normal ?_
        have hon : On bs2 i := by
         unfold On
         rw [List.getElem?_eq_getElem (by omega)]
         simp_all
        refine ⟨((n.st[i]'(by omega)).free).length - (k + 1), by omega, k + 1, _, _, rfl, by omega, hsw.mark (by omega) (by omega) hon hto.1 (by omega), by rw [List.map_set], ?_⟩
        simp only [Knows, put, upd_apply, Nat.reduceEqDiff, ↓reduceIte, and_true, true_and, eq_self]
        first | exact ⟨by simp [*], rfl⟩ | simp [*]
      ·skip
       have h8' := h8; (try simp only [decide_eq_true_eq, decide_eq_false_iff_not, Bool.not_eq_true', Bool.not_false, Bool.not_true, Bool.not_eq_false'] at h8')
       refine w_exit ?_
       refine k_seq_exit ?_
       refine k_seq_exit ?_
       refine k_blk_here ?_
       refine k_blk_normal ?_
       refine k_seq_normal ?_
       refine w_region ?_
       refine l_cons rfl (p_move ?_)
       refine l_cons rfl (p_arith ?_)
       refine l_cons rfl (p_assign ?_)
       refine l_nil ?_
       refine k_seq_normal ?_
       exact ⟨n.st.length - (i + 1), by omega, i + 1, bs2, again2, rfl, by omega, hsw.next (by omega) (by first | exact .inl (by omega) | exact .inr (fun ho => by unfold On at ho; simp_all)), rfl, by simp only [Knows, put, upd_apply, Nat.reduceEqDiff, ↓reduceIte, and_true, true_and, eq_self] <;> and_intros <;> rfl⟩
     ·skip
      have h7' := h7; (try simp only [decide_eq_true_eq, decide_eq_false_iff_not, Bool.not_eq_true', Bool.not_false, Bool.not_true, Bool.not_eq_false'] at h7')
      refine g_n rfl h7 ?_
      refine g_n rfl h7 ?_
      refine g_n rfl h7 ?_
      refine l_cons rfl (p_pickf h7 ?_)
      refine l_nil ?_
      refine k_seq_normal ?_
      refine w_f rfl ?_
      refine w_exit ?_
      refine k_seq_exit ?_
      refine k_seq_exit ?_
      refine k_blk_here ?_
      refine k_blk_normal ?_
      refine k_seq_normal ?_
      refine w_region ?_
      refine l_cons rfl (p_move ?_)
      refine l_cons rfl (p_arith ?_)
      refine l_cons rfl (p_assign ?_)
      refine l_nil ?_
      refine k_seq_normal ?_
      exact ⟨n.st.length - (i + 1), by omega, i + 1, bs2, again2, rfl, by omega, hsw.next (by omega) (by first | exact .inl (by omega) | exact .inr (fun ho => by unfold On at ho; simp_all)), rfl, by simp only [Knows, put, upd_apply, Nat.reduceEqDiff, ↓reduceIte, and_true, true_and, eq_self] <;> and_intros <;> rfl⟩
    ·skip
     have h6' := h6; (try simp only [decide_eq_true_eq, decide_eq_false_iff_not, Bool.not_eq_true', Bool.not_false, Bool.not_true, Bool.not_eq_false'] at h6')
     refine w_exit ?_
     refine k_seq_exit ?_
     refine k_seq_exit ?_
     refine k_blk_here ?_
     refine k_blk_normal ?_
     refine k_seq_normal ?_
     have hin : i = n.st.length := by omega
     subst hin
     refine ⟨_, ?_, bs', again', rfl, hsw.ri, fun e => (by subst e; exact hsw.fin), rfl, by simp only [Knows, put, upd_apply, Nat.reduceEqDiff, ↓reduceIte, and_true, true_and, eq_self] <;> and_intros <;> rfl⟩
     have hle := hsw.le
     have hls := hsw.less
     cases again' <;> simp_all <;> omega
   ·skip
    have h5' := h5; (try simp only [decide_eq_true_eq, decide_eq_false_iff_not, Bool.not_eq_true', Bool.not_false, Bool.not_true, Bool.not_eq_false'] at h5')
    refine w_exit ?_
    refine k_seq_exit ?_
    refine k_seq_exit ?_
    refine k_blk_here ?_
    refine k_seq_normal ?_
    refine w_seq ?_
    refine w_region ?_
    refine l_cons rfl (p_move ?_)
    refine l_cons rfl (p_callr en_88 (marked_walk (at_hit _ _) (by have := hri.len; omega)) ?_)
    refine l_cons rfl (p_assign ?_)
    refine l_nil ?_
    refine k_seq_normal ?_
    refine w_ret ?_
    refine ret1b rfl ?_ <;> exact ex2 subx ⟨by rw [marks_reach hri.len (hfin (by assumption))]; unfold closeN; rw [h1']; rfl, rfl⟩
end Go.Proofs.YtfdgbghlanbddaaDoor.Av
set_option linter.unusedVariables false
set_option linter.unusedSimpArgs false
set_option maxRecDepth 8000
namespace Go.Proofs.YtfdgbghlanbddaaDoor.Av
open Go.RowKit Go.Proofs
theorem refStep {w0 : World} {es : List Ent} (n : Nf) (hok : ∀ s ∈ n.st, 0 ≤ s.w0 ∧ 0 ≤ s.w1 ∧ 0 ≤ s.w2 ∧ 0 ≤ s.w3) (l : List Int) (b : Int) (hl : l.length ≤ 1099511627776) (hb0 : 0 ≤ b) (hb1 : b < 256) : ACalls Tryd.prog w0 45 [n.av, ints l, .int .u8 b] es fun v es' => v = ints (stepN n l b) ∧ es' = es := by
 unfold Nf.av ints
 refine calls3 (N := 73) Tryd.func45 rfl rfl (by decide) ?_
 refine w_seq ?_
 refine w_region ?_
 refine l_cons rfl (p_box fun s3 => ?_)
 refine l_cons rfl (p_assign ?_)
 refine l_nil ?_
 refine k_seq_normal ?_
 refine w_seq ?_
 refine w_seq ?_
 refine w_region ?_
 refine l_cons rfl (p_loadp ty_36 ?_)
 refine l_cons rfl (p_callr en_42 (refMay n) ?_)
 refine l_cons rfl (p_not ?_)
 refine l_nil ?_
 refine k_seq_normal ?_
 refine w_b (fun h1 => ?_) (fun h1 => ?_)
 ·skip
  have h1' := h1; (try simp only [decide_eq_true_eq, decide_eq_false_iff_not, Bool.not_eq_true', Bool.not_false, Bool.not_true, Bool.not_eq_false'] at h1')
  refine w_seq ?_
  refine w_region ?_
  refine l_cons rfl (p_assign ?_)
  refine l_nil ?_
  refine k_seq_normal ?_
  refine w_nilList 6 1 ?_
  refine w_ret ?_
  refine k_seq_ret ?_
  refine ret1b rfl ?_ <;> exact ex2 subx ⟨by unfold stepN; rw [h1']; rfl, rfl⟩
 ·skip
  have h1' := h1; (try simp only [decide_eq_true_eq, decide_eq_false_iff_not, Bool.not_eq_true', Bool.not_false, Bool.not_true, Bool.not_eq_false'] at h1')
  refine w_skip ?_
  refine k_seq_normal ?_
  refine w_seq ?_
  refine w_region ?_
  refine l_cons rfl (p_assign ?_)
  refine l_nil ?_
  refine k_seq_normal ?_
  refine w_seq ?_
  refine w_seq ?_
  refine w_adopt 7 3 1 rfl fun s7 => ?_
  simp only [upd_upd]
  refine w_region ?_
  refine l_cons rfl (p_assign ?_)
  refine l_nil ?_
  refine k_seq_normal ?_
  refine w_block ?_
  refine w_loop (fun m f es' => ∃ k s7, m = l.length - k ∧ k ≤ l.length ∧ es' = .row s7 3 1 ((stepTo n (l.take k) b).map fun n => [.int .i64 n]) :: .row s3 36 3 [n.cells] :: es ∧ Knows f [(1, .list 1 (l.map fun n => [.int .i64 n])), (2, .int .u8 b), (3, .ptr es.length s3 0 0), (7, .own (es.length + 1) s7), (8, .int .i64 k)]) (l.length) (⟨0, s7, rfl, Nat.zero_le _, rfl, by simp only [Knows, put, upd_apply, Nat.reduceEqDiff, ↓reduceIte, and_true, true_and, eq_self] <;> and_intros <;> rfl⟩) ?_
  rintro m f es' ⟨k, s7, rfl, hk1, rfl, hk⟩
  have hle := stepTo_le n (l.take k) b
  rw [List.length_take] at hle
  refine w_pins _ (Sub.refl _) (hk) ?_
  simp only [pins]
  refine w_seq ?_
  refine w_seq ?_
  refine w_region ?_
  refine l_cons rfl (p_move ?_)
  refine l_cons rfl (p_move ?_)
  refine l_cons rfl (p_lenl sl_48 ?_)
  refine l_cons rfl (p_cmp ?_)
  refine l_nil ?_
  refine k_seq_normal ?_
  refine w_b (fun h2 => ?_) (fun h2 => ?_)
  ·skip
   have h2' := h2; (try simp only [decide_eq_true_eq, decide_eq_false_iff_not, Bool.not_eq_true', Bool.not_false, Bool.not_true, Bool.not_eq_false'] at h2')
   refine w_skip ?_
   refine k_seq_normal ?_
   refine w_seq ?_
   refine w_block ?_
   refine w_seq ?_
   refine w_drawn 38 [] (fun e => e = _) mixed (by kernel_rfl) rfl ?_
   refine q1 1 (hg := rfl) (hu := rfl) (h := by rintro f _ rfl; exact p_move ⟨rfl, rfl⟩) (k := ?_)
   refine q1 8 (hg := rfl) (hu := rfl) (h := by rintro f _ rfl; exact p_move ⟨rfl, rfl⟩) (k := ?_)
   refine q2 18 19 (hg := rfl) (hu := rfl) (h := by rintro f _ rfl; exact p_ixl sl_48 ⟨rfl, rfl⟩) (k := ?_)
   refine q1 20 (hg := rfl) (hu := rfl) (h := by rintro f _ rfl; exact p_loadf ty_3 ⟨rfl, rfl⟩) (k := ?_)
   refine q1 21 (hg := rfl) (hu := rfl) (h := by rintro f _ rfl; exact p_cmp ⟨rfl, rfl⟩) (k := ?_)
   refine q1 22 (hg := rfl) (hu := rfl) (h := by rintro f _ rfl; exact p_move ⟨rfl, rfl⟩) (k := ?_)
   refine qsplit 23 (fun h3 => ?_) (fun h3 => ?_)
   ·skip
    have h3' := h3; (try simp only [decide_eq_true_eq, decide_eq_false_iff_not, Bool.not_eq_true', Bool.not_false, Bool.not_true, Bool.not_eq_false'] at h3')
    refine qy1 1 (hg := rfl) (hw := h3) (hu := rfl) (h := by rintro f _ rfl; exact p_move ⟨rfl, rfl⟩) (k := ?_)
    refine qy1 8 (hg := rfl) (hw := h3) (hu := rfl) (h := by rintro f _ rfl; exact p_move ⟨rfl, rfl⟩) (k := ?_)
    refine qy2 24 25 (hg := rfl) (hw := h3) (hu := rfl) (h := by rintro f _ rfl; exact p_ixl sl_48 ⟨rfl, rfl⟩) (k := ?_)
    refine qy1 26 (hg := rfl) (hw := h3) (hu := rfl) (h := by rintro f _ rfl; exact p_loadf ty_3 ⟨rfl, rfl⟩) (k := ?_)
    refine qy1 3 (hg := rfl) (hw := h3) (hu := rfl) (h := by rintro f _ rfl; exact p_fap fa_36_0 ⟨rfl, rfl⟩) (k := ?_)
    refine qy1 28 (hg := rfl) (hw := h3) (hu := rfl) (h := by rintro f _ rfl; exact p_loadp ty_34 ⟨rfl, rfl⟩) (k := ?_)
    first | refine qy1 29 (hg := rfl) (hw := h3) (hu := rfl) (h := by rintro f _ rfl; exact p_lenl sl_34 ⟨rfl, rfl⟩) (k := ?_) | refine qy1 29 (hg := rfl) (hw := h3) (hu := rfl) (h := by rintro f _ rfl; exact p_leno sl_34 ⟨rfl, rfl⟩) (k := ?_) | refine qy1 29 (hg := rfl) (hw := h3) (hu := rfl) (h := by rintro f _ rfl; exact p_lenn sl_34 ⟨rfl, rfl⟩) (k := ?_)
    refine qy2 27 30 (hg := rfl) (hw := h3) (hu := rfl) (h := by rintro f _ rfl; exact p_cmp ⟨rfl, rfl⟩) (k := ?_)
    refine q2 23 31 (hg := rfl) (hu := rfl) (h := by rintro f _ rfl; exact p_pickt h3 ⟨rfl, rfl⟩) (k := ?_)
    refine q1 32 (hg := rfl) (hu := rfl) (h := by rintro f _ rfl; exact p_move ⟨rfl, rfl⟩) (k := ?_)
    refine qsplit 33 (fun h4 => ?_) (fun h4 => ?_)
    ·skip
     have h4' := h4; (try simp only [decide_eq_true_eq, decide_eq_false_iff_not, Bool.not_eq_true', Bool.not_false, Bool.not_true, Bool.not_eq_false'] at h4')
     refine qy1 3 (hg := rfl) (hw := h4) (hu := rfl) (h := by rintro f _ rfl; exact p_fap fa_36_0 ⟨rfl, rfl⟩) (k := ?_)
     refine qy1 34 (hg := rfl) (hw := h4) (hu := rfl) (h := by rintro f _ rfl; exact p_loadp ty_34 ⟨rfl, rfl⟩) (k := ?_)
     refine qy1 1 (hg := rfl) (hw := h4) (hu := rfl) (h := by rintro f _ rfl; exact p_move ⟨rfl, rfl⟩) (k := ?_)
     refine qy1 8 (hg := rfl) (hw := h4) (hu := rfl) (h := by rintro f _ rfl; exact p_move ⟨rfl, rfl⟩) (k := ?_)
     refine qy2 36 37 (hg := rfl) (hw := h4) (hu := rfl) (h := by rintro f _ rfl; exact p_ixl sl_48 ⟨rfl, rfl⟩) (k := ?_)
     refine qy1 38 (hg := rfl) (hw := h4) (hu := rfl) (h := by rintro f _ rfl; exact p_loadf ty_3 ⟨rfl, rfl⟩) (k := ?_)
     first | refine qy2 35 39 (hg := rfl) (hw := h4) (hu := rfl) (h := by rintro f _ rfl; exact p_ixl sl_34 ⟨rfl, rfl⟩) (k := ?_) | refine qy2 35 39 (hg := rfl) (hw := h4) (hu := rfl) (h := by rintro f _ rfl; exact p_ixo sl_34 ⟨rfl, rfl⟩) (k := ?_)
     first | refine qy1 40 (hg := rfl) (hw := h4) (hu := rfl) (h := by rintro f _ rfl; exact p_fap fa_75_1 ⟨rfl, rfl⟩) (k := ?_) | refine qy1 40 (hg := rfl) (hw := h4) (hu := rfl) (h := by rintro f _ rfl; exact p_faf fa_75_1 ⟨rfl, rfl⟩) (k := ?_)
     first | refine qy1 41 (hg := rfl) (hw := h4) (hu := rfl) (h := by rintro f _ rfl; exact p_loadf ty_3 ⟨rfl, rfl⟩) (k := ?_) | refine qy1 41 (hg := rfl) (hw := h4) (hu := rfl) (h := by rintro f _ rfl; exact p_loadp ty_3 ⟨rfl, rfl⟩) (k := ?_)
     refine qy1 42 (hg := rfl) (hw := h4) (hu := rfl) (h := by rintro f _ rfl; exact p_cmp ⟨rfl, rfl⟩) (k := ?_)
     refine q2 33 43 (hg := rfl) (hu := rfl) (h := by rintro f _ rfl; exact p_pickt h4 ⟨rfl, rfl⟩) (k := ?_)
     refine q1 44 (hg := rfl) (hu := rfl) (h := by rintro f _ rfl; exact p_move ⟨rfl, rfl⟩) (k := ?_)
     refine qsplit 45 (fun h5 => ?_) (fun h5 => ?_)
     ·skip
      have h5' := h5; (try simp only [decide_eq_true_eq, decide_eq_false_iff_not, Bool.not_eq_true', Bool.not_false, Bool.not_true, Bool.not_eq_false'] at h5')
      refine qy1 3 (hg := rfl) (hw := h5) (hu := rfl) (h := by rintro f _ rfl; exact p_fap fa_36_0 ⟨rfl, rfl⟩) (k := ?_)
      refine qy1 46 (hg := rfl) (hw := h5) (hu := rfl) (h := by rintro f _ rfl; exact p_loadp ty_34 ⟨rfl, rfl⟩) (k := ?_)
      refine qy1 1 (hg := rfl) (hw := h5) (hu := rfl) (h := by rintro f _ rfl; exact p_move ⟨rfl, rfl⟩) (k := ?_)
      refine qy1 8 (hg := rfl) (hw := h5) (hu := rfl) (h := by rintro f _ rfl; exact p_move ⟨rfl, rfl⟩) (k := ?_)
      refine qy2 48 49 (hg := rfl) (hw := h5) (hu := rfl) (h := by rintro f _ rfl; exact p_ixl sl_48 ⟨rfl, rfl⟩) (k := ?_)
      refine qy1 50 (hg := rfl) (hw := h5) (hu := rfl) (h := by rintro f _ rfl; exact p_loadf ty_3 ⟨rfl, rfl⟩) (k := ?_)
      first | refine qy2 47 51 (hg := rfl) (hw := h5) (hu := rfl) (h := by rintro f _ rfl; exact p_ixl sl_34 ⟨rfl, rfl⟩) (k := ?_) | refine qy2 47 51 (hg := rfl) (hw := h5) (hu := rfl) (h := by rintro f _ rfl; exact p_ixo sl_34 ⟨rfl, rfl⟩) (k := ?_)
      first | refine qy1 52 (hg := rfl) (hw := h5) (hu := rfl) (h := by rintro f _ rfl; exact p_fap fa_75_0 ⟨rfl, rfl⟩) (k := ?_) | refine qy1 52 (hg := rfl) (hw := h5) (hu := rfl) (h := by rintro f _ rfl; exact p_faf fa_75_0 ⟨rfl, rfl⟩) (k := ?_)
      first | refine qy1 53 (hg := rfl) (hw := h5) (hu := rfl) (h := by rintro f _ rfl; exact p_loadf ty_26 ⟨rfl, rfl⟩) (k := ?_) | refine qy1 53 (hg := rfl) (hw := h5) (hu := rfl) (h := by rintro f _ rfl; exact p_loadp ty_26 ⟨rfl, rfl⟩) (k := ?_)
      refine qy1 2 (hg := rfl) (hw := h5) (hu := rfl) (h := by rintro f _ rfl; exact p_move ⟨rfl, rfl⟩) (k := ?_)
      refine q_end ?_
      refine m_end ?_
      refine g_y rfl h5 (p_callr en_55 (ref1Has _ _ _ _ _ hb0 hb1 (hok _ (List.getElem_mem _)).1 (hok _ (List.getElem_mem _)).2.1 (hok _ (List.getElem_mem _)).2.2.1 (hok _ (List.getElem_mem _)).2.2.2) ?_)
      refine l_cons rfl (p_pickt h5 ?_)
      refine l_nil ?_
      refine k_seq_normal ?_
      refine w_b (fun h6 => ?_) (fun h6 => ?_)
      ·skip
       have h6' := h6; (try simp only [decide_eq_true_eq, decide_eq_false_iff_not, Bool.not_eq_true', Bool.not_false, Bool.not_true, Bool.not_eq_false'] at h6')
       refine w_drawn 11 [] (fun e => e = _) mixed (by kernel_rfl) rfl ?_
       refine q1 7 (hg := rfl) (hu := rfl) (h := by rintro f _ rfl; exact p_move ⟨rfl, rfl⟩) (k := ?_)
       refine q1 3 (hg := rfl) (hu := rfl) (h := by rintro f _ rfl; exact p_fap fa_36_0 ⟨rfl, rfl⟩) (k := ?_)
       refine q1 59 (hg := rfl) (hu := rfl) (h := by rintro f _ rfl; exact p_loadp ty_34 ⟨rfl, rfl⟩) (k := ?_)
       refine q1 1 (hg := rfl) (hu := rfl) (h := by rintro f _ rfl; exact p_move ⟨rfl, rfl⟩) (k := ?_)
       refine q1 8 (hg := rfl) (hu := rfl) (h := by rintro f _ rfl; exact p_move ⟨rfl, rfl⟩) (k := ?_)
       refine q2 61 62 (hg := rfl) (hu := rfl) (h := by rintro f _ rfl; exact p_ixl sl_48 ⟨rfl, rfl⟩) (k := ?_)
       refine q1 63 (hg := rfl) (hu := rfl) (h := by rintro f _ rfl; exact p_loadf ty_3 ⟨rfl, rfl⟩) (k := ?_)
       first | refine q2 60 64 (hg := rfl) (hu := rfl) (h := by rintro f _ rfl; exact p_ixl sl_34 ⟨rfl, rfl⟩) (k := ?_) | refine q2 60 64 (hg := rfl) (hu := rfl) (h := by rintro f _ rfl; exact p_ixo sl_34 ⟨rfl, rfl⟩) (k := ?_)
       first | refine q1 65 (hg := rfl) (hu := rfl) (h := by rintro f _ rfl; exact p_fap fa_75_1 ⟨rfl, rfl⟩) (k := ?_) | refine q1 65 (hg := rfl) (hu := rfl) (h := by rintro f _ rfl; exact p_faf fa_75_1 ⟨rfl, rfl⟩) (k := ?_)
       first | refine q1 66 (hg := rfl) (hu := rfl) (h := by rintro f _ rfl; exact p_loadf ty_3 ⟨rfl, rfl⟩) (k := ?_) | refine q1 66 (hg := rfl) (hu := rfl) (h := by rintro f _ rfl; exact p_loadp ty_3 ⟨rfl, rfl⟩) (k := ?_)
       refine q1 67 (hg := rfl) (hu := rfl) (h := by rintro f _ rfl; exact p_buildList sl_48 ze_3 ⟨rfl, rfl⟩) (k := ?_)
       refine q_end ?_
       refine m_end ?_
       refine l_cons rfl (p_append sl_48 by_3 ze_3 (fun s69 => ?_))
       refine l_cons rfl (p_assign ?_)
       refine l_nil ?_
       refine k_blk_normal ?_
       refine k_seq_normal ?_
       refine w_region ?_
       refine l_cons rfl (p_move ?_)
       refine l_cons rfl (p_arith ?_)
       refine l_cons rfl (p_assign ?_)
       refine l_nil ?_
       refine k_seq_normal ?_
       first
       | exact ⟨l.length - (k + 1), by omega, k + 1, s69, rfl, by omega, by rw [stepTo_succ (by omega), stepOne_yes (by omega) (by omega) (by omega) (by assumption), List.map_append]; rfl, by simp only [Knows, put, upd_apply, Nat.reduceEqDiff, ↓reduceIte, and_true, true_and, eq_self] <;> and_intros <;> rfl⟩
       | exact ⟨l.length - (k + 1), by omega, k + 1, s7, rfl, by omega, by rw [stepTo_succ (by omega), stepOne_no (by first | exact .inl (by omega) | exact .inr (.inl (by omega)) | exact .inr (.inr ⟨by omega, .inl (by omega)⟩) | exact .inr (.inr ⟨by omega, .inr (by assumption)⟩))]; simp, by simp only [Knows, put, upd_apply, Nat.reduceEqDiff, ↓reduceIte, and_true, true_and, eq_self] <;> and_intros <;> rfl⟩
      ·skip
       have h6' := h6; (try simp only [decide_eq_true_eq, decide_eq_false_iff_not, Bool.not_eq_true', Bool.not_false, Bool.not_true, Bool.not_eq_false'] at h6')
       refine w_skip ?_
       refine k_blk_normal ?_
       refine k_seq_normal ?_
       refine w_region ?_
       refine l_cons rfl (p_move ?_)
       refine l_cons rfl (p_arith ?_)
       refine l_cons rfl (p_assign ?_)
       refine l_nil ?_
       refine k_seq_normal ?_
       first
       | exact ⟨l.length - (k + 1), by omega, k + 1, s69, rfl, by omega, by rw [stepTo_succ (by omega), stepOne_yes (by omega) (by omega) (by omega) (by assumption), List.map_append]; rfl, by simp only [Knows, put, upd_apply, Nat.reduceEqDiff, ↓reduceIte, and_true, true_and, eq_self] <;> and_intros <;> rfl⟩
       | exact ⟨l.length - (k + 1), by omega, k + 1, s7, rfl, by omega, by rw [stepTo_succ (by omega), stepOne_no (by first | exact .inl (by omega) | exact .inr (.inl (by omega)) | exact .inr (.inr ⟨by omega, .inl (by omega)⟩) | exact .inr (.inr ⟨by omega, .inr (by assumption)⟩))]; simp, by simp only [Knows, put, upd_apply, Nat.reduceEqDiff, ↓reduceIte, and_true, true_and, eq_self] <;> and_intros <;> rfl⟩
     ·skip
      have h5' := h5; (try simp only [decide_eq_true_eq, decide_eq_false_iff_not, Bool.not_eq_true', Bool.not_false, Bool.not_true, Bool.not_eq_false'] at h5')
      refine qn rfl h5 ?_
      refine qn rfl h5 ?_
      refine qn rfl h5 ?_
      refine qn rfl h5 ?_
      refine qn rfl h5 ?_
      refine qn rfl h5 ?_
      refine qn rfl h5 ?_
      refine qn rfl h5 ?_
      refine qn rfl h5 ?_
      refine qn rfl h5 ?_
      refine q_end ?_
      refine m_end ?_
      refine g_n rfl h5 ?_
      refine l_cons rfl (p_pickf h5 ?_)
      refine l_nil ?_
      refine k_seq_normal ?_
      refine w_f rfl ?_
      refine w_skip ?_
      refine k_blk_normal ?_
      refine k_seq_normal ?_
      refine w_region ?_
      refine l_cons rfl (p_move ?_)
      refine l_cons rfl (p_arith ?_)
      refine l_cons rfl (p_assign ?_)
      refine l_nil ?_
      refine k_seq_normal ?_
      first
      | exact ⟨l.length - (k + 1), by omega, k + 1, s69, rfl, by omega, by rw [stepTo_succ (by omega), stepOne_yes (by omega) (by omega) (by omega) (by assumption), List.map_append]; rfl, by simp only [Knows, put, upd_apply, Nat.reduceEqDiff, ↓reduceIte, and_true, true_and, eq_self] <;> and_intros <;> rfl⟩
      | exact ⟨l.length - (k + 1), by omega, k + 1, s7, rfl, by omega, by rw [stepTo_succ (by omega), stepOne_no (by first | exact .inl (by omega) | exact .inr (.inl (by omega)) | exact .inr (.inr ⟨by omega, .inl (by omega)⟩) | exact .inr (.inr ⟨by omega, .inr (by assumption)⟩))]; simp, by simp only [Knows, put, upd_apply, Nat.reduceEqDiff, ↓reduceIte, and_true, true_and, eq_self] <;> and_intros <;> rfl⟩
    ·skip
     have h4' := h4; (try simp only [decide_eq_true_eq, decide_eq_false_iff_not, Bool.not_eq_true', Bool.not_false, Bool.not_true, Bool.not_eq_false'] at h4')
     refine qn rfl h4 ?_
     refine qn rfl h4 ?_
     refine qn rfl h4 ?_
     refine qn rfl h4 ?_
     refine qn rfl h4 ?_
     refine qn rfl h4 ?_
     refine qn rfl h4 ?_
     refine qn rfl h4 ?_
     refine qn rfl h4 ?_
     refine qn rfl h4 ?_
     refine q2 33 43 (hg := rfl) (hu := rfl) (h := by rintro f _ rfl; exact p_pickf h4 ⟨rfl, rfl⟩) (k := ?_)
     refine q1 44 (hg := rfl) (hu := rfl) (h := by rintro f _ rfl; exact p_move ⟨rfl, rfl⟩) (k := ?_)
     refine qn rfl rfl ?_
     refine qn rfl rfl ?_
     refine qn rfl rfl ?_
     refine qn rfl rfl ?_
     refine qn rfl rfl ?_
     refine qn rfl rfl ?_
     refine qn rfl rfl ?_
     refine qn rfl rfl ?_
     refine qn rfl rfl ?_
     refine qn rfl rfl ?_
     refine q_end ?_
     refine m_end ?_
     refine g_n rfl rfl ?_
     refine l_cons rfl (p_pickf rfl ?_)
     refine l_nil ?_
     refine k_seq_normal ?_
     refine w_f rfl ?_
     refine w_skip ?_
     refine k_blk_normal ?_
     refine k_seq_normal ?_
     refine w_region ?_
     refine l_cons rfl (p_move ?_)
     refine l_cons rfl (p_arith ?_)
     refine l_cons rfl (p_assign ?_)
     refine l_nil ?_
     refine k_seq_normal ?_
     first
     | exact ⟨l.length - (k + 1), by omega, k + 1, s69, rfl, by omega, by rw [stepTo_succ (by omega), stepOne_yes (by omega) (by omega) (by omega) (by assumption), List.map_append]; rfl, by simp only [Knows, put, upd_apply, Nat.reduceEqDiff, ↓reduceIte, and_true, true_and, eq_self] <;> and_intros <;> rfl⟩
     | exact ⟨l.length - (k + 1), by omega, k + 1, s7, rfl, by omega, by rw [stepTo_succ (by omega), stepOne_no (by first | exact .inl (by omega) | exact .inr (.inl (by omega)) | exact .inr (.inr ⟨by omega, .inl (by omega)⟩) | exact .inr (.inr ⟨by omega, .inr (by assumption)⟩))]; simp, by simp only [Knows, put, upd_apply, Nat.reduceEqDiff, ↓reduceIte, and_true, true_and, eq_self] <;> and_intros <;> rfl⟩
   ·skip
    have h3' := h3; (try simp only [decide_eq_true_eq, decide_eq_false_iff_not, Bool.not_eq_true', Bool.not_false, Bool.not_true, Bool.not_eq_false'] at h3')
    refine qn rfl h3 ?_
    refine qn rfl h3 ?_
    refine qn rfl h3 ?_
    refine qn rfl h3 ?_
    refine qn rfl h3 ?_
    refine qn rfl h3 ?_
    refine qn rfl h3 ?_
    refine qn rfl h3 ?_
    refine q2 23 31 (hg := rfl) (hu := rfl) (h := by rintro f _ rfl; exact p_pickf h3 ⟨rfl, rfl⟩) (k := ?_)
    refine q1 32 (hg := rfl) (hu := rfl) (h := by rintro f _ rfl; exact p_move ⟨rfl, rfl⟩) (k := ?_)
    refine qn rfl rfl ?_
    refine qn rfl rfl ?_
    refine qn rfl rfl ?_
    refine qn rfl rfl ?_
    refine qn rfl rfl ?_
    refine qn rfl rfl ?_
    refine qn rfl rfl ?_
    refine qn rfl rfl ?_
    refine qn rfl rfl ?_
    refine qn rfl rfl ?_
    refine q2 33 43 (hg := rfl) (hu := rfl) (h := by rintro f _ rfl; exact p_pickf rfl ⟨rfl, rfl⟩) (k := ?_)
    refine q1 44 (hg := rfl) (hu := rfl) (h := by rintro f _ rfl; exact p_move ⟨rfl, rfl⟩) (k := ?_)
    refine qn rfl rfl ?_
    refine qn rfl rfl ?_
    refine qn rfl rfl ?_
    refine qn rfl rfl ?_
    refine qn rfl rfl ?_
    refine qn rfl rfl ?_
    refine qn rfl rfl ?_
    refine qn rfl rfl ?_
    refine qn rfl rfl ?_
    refine qn rfl rfl ?_
    refine q_end ?_
    refine m_end ?_
    refine g_n rfl rfl ?_
    refine l_cons rfl (p_pickf rfl ?_)
    refine l_nil ?_
    refine k_seq_normal ?_
    refine w_f rfl ?_
    refine w_skip ?_
    refine k_blk_normal ?_
    refine k_seq_normal ?_
    refine w_region ?_
    refine l_cons rfl (p_move ?_)
    refine l_cons rfl (p_arith ?_)
    refine l_cons rfl (p_assign ?_)
    refine l_nil ?_
    refine k_seq_normal ?_
    first
    | exact ⟨l.length - (k + 1), by omega, k + 1, s69, rfl, by omega, by rw [stepTo_succ (by omega), stepOne_yes (by omega) (by omega) (by omega) (by assumption), List.map_append]; rfl, by simp only [Knows, put, upd_apply, Nat.reduceEqDiff, ↓reduceIte, and_true, true_and, eq_self] <;> and_intros <;> rfl⟩
    | exact ⟨l.length - (k + 1), by omega, k + 1, s7, rfl, by omega, by rw [stepTo_succ (by omega), stepOne_no (by first | exact .inl (by omega) | exact .inr (.inl (by omega)) | exact .inr (.inr ⟨by omega, .inl (by omega)⟩) | exact .inr (.inr ⟨by omega, .inr (by assumption)⟩))]; simp, by simp only [Knows, put, upd_apply, Nat.reduceEqDiff, ↓reduceIte, and_true, true_and, eq_self] <;> and_intros <;> rfl⟩
  ·skip
   have h2' := h2; (try simp only [decide_eq_true_eq, decide_eq_false_iff_not, Bool.not_eq_true', Bool.not_false, Bool.not_true, Bool.not_eq_false'] at h2')
   refine w_exit ?_
   refine k_seq_exit ?_
   refine k_seq_exit ?_
   refine k_blk_here ?_
   refine k_seq_normal ?_
   refine w_seq ?_
   refine w_freezeTop 7 ?_
   rw [show k = l.length by omega, List.take_length]
   refine w_region ?_
   refine l_cons rfl (p_loadp ty_36 ?_)
   refine l_cons rfl (p_move ?_)
   refine l_cons rfl (p_callr en_43 (refClose n (stepTo n l b)) ?_)
   refine l_cons rfl (p_assign ?_)
   refine l_nil ?_
   refine k_seq_normal ?_
   refine w_ret ?_
   refine ret1b rfl ?_ <;> exact ex2 subx ⟨by unfold stepN closeN stepped; rw [h1']; rfl, rfl⟩
end Go.Proofs.YtfdgbghlanbddaaDoor.Av
set_option linter.unusedVariables false
set_option linter.unusedSimpArgs false
namespace Go.Proofs.YtfdgbghlanbddaaDoor.Av
open Go.RowKit
/-- The library's table, al' it is laid. -/
def Tab (w : World) : Prop := 0 < w.heap.size ∧ ∀ i, i < 64 → w.cell? ⟨0, i, none⟩ = some (.int .u8 (Lib.deBruijn64tab.getD i 0 : Nat))
section
variable {P : Program} {w0 : World} {N : Nat} {f : Frame} {es : List Ent} {K : Frame → List Ent → Prop}
variable {d : Nat} {ty : TypeId} {pos : String} {aft : Array Edge} {g : Option (Nat × Bool)} {x y z : Operand} {a : AV}
theorem Tab.now {c : Core} (h : Tab w0) (ok : Ok w0 c es) {i : Nat} (hi : i < 64) : c.w.cell? ⟨0, i, none⟩ = some (.int .u8 (Lib.deBruijn64tab.getD i 0 : Nat)) := by
 rw [← h.2 i hi]
 unfold World.cell?
 simp only [ok.below.block 0 h.1]
theorem p_ixg {t : TypeId} {n e gl : Nat} {k' : IntKind} {ix : Int} (ht : arrB P t n e 1 = true) (k : K (upd f d (.raw (.pointer (some ⟨gl, ix.toNat, none⟩)))) es) (hx : ev f x = .raw (.pointer (some ⟨gl, 0, none⟩)) := by exact rfl) (hy : ev f y = .int k' ix := by simp only [ev_tmp, ev_const, ev_func, ofConst_int, ofConst_bool, ofConst_str, ofConst_nil, upd_apply, Nat.reduceEqDiff, ↓reduceIte] <;> exact rfl) (h0 : 0 ≤ ix := by omega) (h1 : ix < n := by omega) (hd : Nat.blt d N = true := by exact rfl) : AOp P w0 N ⟨some d, .indexAddr t x y, ty, pos, aft, g⟩ f es K := by
 refine op_look hd (fun c A ok rf => ⟨.pointer (some ⟨gl, ix.toNat, none⟩), ?_, by simp only [Rep]⟩) k
 have h := rep_ev rf x
 rw [hx] at h
 simp only [Rep] at h
 have hiy := ev_int rf hy
 unfold arrB at ht
 split at ht
 ·rename_i n' e' i' hu hi
  simp only [Bool.and_eq_true, beq_iff_eq] at ht
  obtain ⟨⟨rfl, rfl⟩, hz⟩ := ht
  simp only [execOp, h, hiy, Instr.indexAt, asIntOf, Sem.run_bind, Sem.run_pure, Result.andThen_ok, run_underlying hu, Instr.sureAddr, Sem.run_ite, h0, h1, and_self, if_true, sizeOf, typeInfo, run_program, hi, hz, Nat.mul_one, add_eq, Nat.zero_add]
 ·cases ht
theorem p_neg {t : TypeId} {k' : IntKind} {m r : Int} (k : K (upd f d (.int k' r)) es) (hx : ev f x = .int k' m := by simp only [ev_tmp, ev_const, ev_func, ofConst_int, ofConst_bool, ofConst_str, ofConst_nil, upd_apply, Nat.reduceEqDiff, ↓reduceIte] <;> exact rfl) (hb : k'.wrap (0 - m) = r := by exact rfl) (hd : Nat.blt d N = true := by exact rfl) : AOp P w0 N ⟨some d, .unOp .neg t x, ty, pos, aft, g⟩ f es K := o_neg hx hb k hd
theorem p_ldg {t : TypeId} {i : Nat} (hT : Tab w0) (hi : i < 64) (ht : tyB P t false 1 = true) (k : K (upd f d (.int .u8 (Lib.deBruijn64tab.getD i 0 : Nat))) es) (hx : ev f x = .raw (.pointer (some ⟨0, i, none⟩)) := by simp only [ev_tmp, ev_const, ev_func, ofConst_int, ofConst_bool, ofConst_str, ofConst_nil, upd_apply, Nat.reduceEqDiff, ↓reduceIte] <;> exact rfl) (hd : Nat.blt d N = true := by exact rfl) : AOp P w0 N ⟨some d, .load t x, ty, pos, aft, g⟩ f es K := by
 refine op_look hd (fun c A ok rf => ⟨.int .u8 (Lib.deBruijn64tab.getD i 0 : Nat), ?_, by simp only [Rep]⟩) k
 have h := rep_ev rf x
 rw [hx] at h
 simp only [Rep] at h
 have hc := hT.now ok hi
 have hrun := run_loadVar (P := P) ht (fun _ => rfl) (w := c.w) (b := 0) (k := i) (vs := [.int .u8 (Lib.deBruijn64tab.getD i 0 : Nat)]) rfl (fun j u hj => by
  cases j with
  | zero => simp at hj; subst hj; exact hc
  | succ j => simp at hj)
 simp only [Bool.false_eq_true, if_false, List.getD_cons_zero] at hrun
 simp only [execOp, h, Instr.loadAt, Instr.sureAddr, Sem.run_bind, asAddr, Sem.run_pure, Result.andThen_ok, hrun]
end
/-! ### bits -/
theorem wrap_u64_id {n : Int} (h0 : 0 ≤ n) (h1 : n < 18446744073709551616) : IntKind.u64.wrap n = n := by
 rw [IntKind.wrap_u64]
 exact Int.emod_eq_of_lt h0 h1
theorem arith_and64 {a b : Int} (ha : 0 ≤ a ∧ a < 18446744073709551616) (hb : 0 ≤ b ∧ b < 18446744073709551616) : arithI .and .u64 a b = some ((a.toNat &&& b.toNat : Nat) : Int) := by
 obtain ⟨m, rfl⟩ := Int.eq_ofNat_of_zero_le ha.1
 obtain ⟨n, rfl⟩ := Int.eq_ofNat_of_zero_le hb.1
 have := bits_and_u64_nat m n (by omega) (by omega)
 simp only [arithI, Int.toNat_natCast]
 exact congrArg some this
theorem arith_or64 {a b : Int} (ha : 0 ≤ a ∧ a < 18446744073709551616) (hb : 0 ≤ b ∧ b < 18446744073709551616) : arithI .or .u64 a b = some (orI a b) := by
 obtain ⟨m, rfl⟩ := Int.eq_ofNat_of_zero_le ha.1
 obtain ⟨n, rfl⟩ := Int.eq_ofNat_of_zero_le hb.1
 have := bits_or_u64_nat m n (by omega) (by omega)
 simp only [arithI, orI, Int.toNat_natCast]
 exact congrArg some this
def xorI (x y : Int) : Int := ((x.toNat ^^^ y.toNat : Nat) : Int)
theorem arith_xor64 {a b : Int} (ha : 0 ≤ a ∧ a < 18446744073709551616) (hb : 0 ≤ b ∧ b < 18446744073709551616) : arithI .xor .u64 a b = some (xorI a b) := by
 obtain ⟨m, rfl⟩ := Int.eq_ofNat_of_zero_le ha.1
 obtain ⟨n, rfl⟩ := Int.eq_ofNat_of_zero_le hb.1
 simp only [arithI, xorI, Int.toNat_natCast]
 have hx : m ^^^ n < 2 ^ 64 := Nat.xor_lt_two_pow (by omega) (by omega)
 have h1 : (BitVec.ofInt 64 (m : Int)).toNat = m := by
  rw [BitVec.ofInt_natCast, BitVec.toNat_ofNat]; exact Nat.mod_eq_of_lt (by omega)
 have h2 : (BitVec.ofInt 64 (n : Int)).toNat = n := by
  rw [BitVec.ofInt_natCast, BitVec.toNat_ofNat]; exact Nat.mod_eq_of_lt (by omega)
 show some (IntKind.u64.wrap ((BitVec.ofInt 64 (m : Int) ^^^ BitVec.ofInt 64 (n : Int)).toNat : Int)) = _
 rw [BitVec.toNat_xor, h1, h2, wrap_u64_id (by omega) (by omega)]
theorem xor_range {a b : Int} (ha : 0 ≤ a ∧ a < 18446744073709551616) (hb : 0 ≤ b ∧ b < 18446744073709551616) : 0 ≤ xorI a b ∧ xorI a b < 18446744073709551616 := by
 unfold xorI
 have : a.toNat ^^^ b.toNat < 2 ^ 64 := Nat.xor_lt_two_pow (by omega) (by omega)
 omega
theorem xor_zero {a b : Int} (ha : 0 ≤ a) (hb : 0 ≤ b) : xorI a b = 0 ↔ a = b := by
 unfold xorI
 constructor
 ·intro h
  have h1 : a.toNat ^^^ b.toNat = 0 := by omega
  have : a.toNat = b.toNat := by
   refine Nat.eq_of_testBit_eq fun i => ?_
   have := congrArg (·.testBit i) h1
   simp only [Nat.testBit_xor, Nat.zero_testBit] at this
   cases h1 : a.toNat.testBit i <;> cases h2 : b.toNat.testBit i <;> simp_all
  omega
 ·rintro rfl
  simp
/-- The lowest bit of a number other than 0. -/
def tz (x : Int) : Nat := Lib.ctz 64 x.toNat
theorem ctz_spec {x : Nat} (h0 : x ≠ 0) (h : x < 2 ^ 64) : Lib.ctz 64 x < 64 ∧ x.testBit (Lib.ctz 64 x) = true ∧ ∀ j, j < Lib.ctz 64 x → x.testBit j = false := by
 obtain ⟨m, hm, hk⟩ := Lib.ctzFrom_spec 64 x (by omega) h
 have e : Lib.ctz 64 x = Lib.ctzFrom 64 x := by simp [Lib.ctz, h0]
 rw [e]
 generalize Lib.ctzFrom 64 x = t at hm hk
 subst hm
 refine ⟨hk, ?_, fun j hj => ?_⟩
 ·rw [Nat.mul_comm, Nat.testBit_mul_two_pow]
  simp [Nat.testBit_zero]
 ·rw [Nat.mul_comm, Nat.testBit_mul_two_pow]
  simp
  omega
theorem tz_spec {x : Int} (h0 : x ≠ 0) (h : 0 ≤ x ∧ x < 18446744073709551616) : tz x < 64 ∧ x.toNat.testBit (tz x) = true ∧ ∀ j, j < tz x → x.toNat.testBit j = false :=
  ctz_spec (by omega) (by have : (2:Nat)^64 = 18446744073709551616 := by decide
                          omega)
/-- The first bit in which two numbers differ. -/
theorem tz_xor {a b : Int} (ha : 0 ≤ a ∧ a < 18446744073709551616) (hb : 0 ≤ b ∧ b < 18446744073709551616) (hne : a ≠ b) :
  tz (xorI a b) < 64 ∧ a.toNat.testBit (tz (xorI a b)) ≠ b.toNat.testBit (tz (xorI a b)) ∧ ∀ j, j < tz (xorI a b) → a.toNat.testBit j = b.toNat.testBit j := by
 obtain ⟨h1, h2, h3⟩ := tz_spec (x := xorI a b) (fun e => hne ((xor_zero ha.1 hb.1).1 e)) (xor_range ha hb)
 refine ⟨h1, ?_, fun j hj => ?_⟩
 ·have : (xorI a b).toNat = a.toNat ^^^ b.toNat := by simp [xorI]
  rw [this, Nat.testBit_xor] at h2
  intro e
  rw [e] at h2
  simp at h2
 ·have := h3 j hj
  rw [show (xorI a b).toNat = a.toNat ^^^ b.toNat by simp [xorI], Nat.testBit_xor] at this
  cases h1 : a.toNat.testBit j <;> cases h2 : b.toNat.testBit j <;> simp_all
end Go.Proofs.YtfdgbghlanbddaaDoor.Av
set_option linter.unusedVariables false
set_option linter.unusedSimpArgs false
set_option maxRecDepth 8000
namespace Go.Proofs.YtfdgbghlanbddaaDoor.Av
open Go.RowKit Go.Proofs
theorem rxNodes {w0 : World} : ∀ (B : Nat) (r : Rx) (es : List Ent), r.nodes ≤ B → B ≤ 1048576 → ACalls Tryd.prog w0 108 [.agg r.cells] es fun v es' => v = .int .i64 r.nodes ∧ es' = es := by
 intro B
 induction B using Nat.strongRecOn with
 | _ B ih =>
 intro r es hB hB2
 obtain ⟨kd, st, args⟩ := r
 have hc : Rx.cells (.mk kd st args) = [.int .i64 kd, .int .u64 st.w0, .int .u64 st.w1, .int .u64 st.w2, .int .u64 st.w3, .list 6 (args.map Rx.cells)] := by simp only [Rx.cells, Rx.kind, Rx.set, Rx.args, Rx.rows_eq]
 rw [hc]
 simp only [Rx.nodes] at hB ⊢
 refine calls1 (N := 19) Tryd.func108 rfl rfl (by decide) ?_
 refine w_seq ?_
 refine w_region ?_
 refine l_cons rfl (p_box fun s1 => ?_)
 refine l_cons rfl (p_assign ?_)
 refine l_nil ?_
 refine k_seq_normal ?_
 refine w_seq ?_
 refine w_region ?_
 refine l_cons rfl (p_assign ?_)
 refine l_nil ?_
 refine k_seq_normal ?_
 refine w_seq ?_
 refine w_seq ?_
 refine w_region ?_
 refine l_cons rfl (p_fap fa_29_2 ?_)
 refine l_cons rfl (p_loadp ty_27 ?_)
 first | refine l_cons rfl (p_lenl sl_27 ?_) | refine l_cons rfl (p_leno sl_27 ?_) | refine l_cons rfl (p_lenn sl_27 ?_)
 refine l_cons rfl (p_move ?_)
 refine l_nil ?_
 refine k_seq_normal ?_
 refine w_block ?_
 refine w_loop (fun m f es' => ∃ k, m = args.length - k ∧ k ≤ args.length ∧ Sub (.row s1 29 6 [[.int .i64 kd, .int .u64 st.w0, .int .u64 st.w1, .int .u64 st.w2, .int .u64 st.w3, .list 6 (args.map Rx.cells)]] :: es) es' ∧ Knows f [(3, .int .i64 ((1 + Rx.nodesL (args.take k) : Nat) : Int)), (7, .list 6 (args.map Rx.cells)), (8, .int .i64 args.length), (9, .int .i64 k)]) (args.length) (⟨0, rfl, Nat.zero_le _, Sub.refl _, by simp only [Knows, put, upd_apply, Nat.reduceEqDiff, ↓reduceIte, and_true, true_and, eq_self] <;> and_intros <;> rfl⟩) ?_
 rintro m f es' ⟨k, rfl, hk1, hsub, hk⟩
 have hnl := Rx.nodesL_le args k
 have hal := Rx.len_le args
 refine w_pins _ hsub (hk) ?_
 simp only [pins]
 refine w_seq ?_
 refine w_region ?_
 refine l_cons rfl (p_cmp ?_)
 refine l_nil ?_
 refine k_seq_normal ?_
 refine w_seq ?_
 refine w_b (fun h1 => ?_) (fun h1 => ?_)
 ·skip
  have h1' := h1; (try simp only [decide_eq_true_eq, decide_eq_false_iff_not, Bool.not_eq_true', Bool.not_false, Bool.not_true, Bool.not_eq_false'] at h1')
  refine w_skip ?_
  refine k_seq_normal ?_
  refine w_seq ?_
  refine w_block ?_
  refine w_seq ?_
  refine w_region ?_
  refine l_cons rfl (p_ixl sl_27 ?_)
  refine l_cons rfl (p_loadf ty_29 ?_)
  refine l_cons rfl (p_alloc ze_29 fun s5 => ?_)
  refine l_cons rfl (p_store ty_29 ?_)
  refine l_nil ?_
  refine k_seq_normal ?_
  have e := Rx.nodesL_take args k (by omega)
  have hnl2 := Rx.nodesL_le args (k + 1)
  refine w_region ?_
  refine l_cons rfl (p_move ?_)
  refine l_cons rfl (p_loadp ty_29 ?_)
  refine l_cons rfl (p_callr en_108 (ih (B - 1) (by omega) (args[k]'(by omega)) _ (by have := Rx.nodes_mem (l := args) (k := k) (by omega); omega) (by omega)) ?_)
  refine l_cons rfl (p_arith ?_)
  refine l_cons rfl (p_assign ?_)
  refine l_nil ?_
  refine k_blk_normal ?_
  refine k_seq_normal ?_
  refine w_region ?_
  refine l_cons rfl (p_arith ?_)
  refine l_cons rfl (p_move ?_)
  refine l_nil ?_
  refine k_seq_normal ?_
  refine ⟨args.length - (k + 1), by omega, k + 1, rfl, by omega, (by first | exact Sub.refl _ | exact sub1 _ _), ?_⟩
  simp only [Knows, put, upd_apply, Nat.reduceEqDiff, ↓reduceIte, and_true, true_and, eq_self, e]
  exact ⟨by congr 1; omega, rfl⟩
 ·skip
  have h1' := h1; (try simp only [decide_eq_true_eq, decide_eq_false_iff_not, Bool.not_eq_true', Bool.not_false, Bool.not_true, Bool.not_eq_false'] at h1')
  refine w_exit ?_
  refine k_seq_exit ?_
  refine k_seq_exit ?_
  refine k_blk_here ?_
  refine k_seq_normal ?_
  refine w_seq ?_
  refine w_region ?_
  refine l_cons rfl (p_move ?_)
  refine l_cons rfl (p_assign ?_)
  refine l_nil ?_
  refine k_seq_normal ?_
  refine w_ret ?_
  refine ret1b rfl ?_ <;> exact ex2 subx ⟨by rw [List.take_of_length_le (by omega)], rfl⟩
theorem rxDepth {w0 : World} : ∀ (B : Nat) (r : Rx) (es : List Ent), r.nodes ≤ B → B ≤ 1048576 → ACalls Tryd.prog w0 109 [.agg r.cells] es fun v es' => v = .int .i64 r.depth ∧ es' = es := by
 intro B
 induction B using Nat.strongRecOn with
 | _ B ih =>
 intro r es hB hB2
 obtain ⟨kd, st, args⟩ := r
 have hc : Rx.cells (.mk kd st args) = [.int .i64 kd, .int .u64 st.w0, .int .u64 st.w1, .int .u64 st.w2, .int .u64 st.w3, .list 6 (args.map Rx.cells)] := by simp only [Rx.cells, Rx.kind, Rx.set, Rx.args, Rx.rows_eq]
 rw [hc]
 simp only [Rx.nodes, Rx.depth] at hB ⊢
 refine calls1 (N := 20) Tryd.func109 rfl rfl (by decide) ?_
 refine w_seq ?_
 refine w_region ?_
 refine l_cons rfl (p_box fun s1 => ?_)
 refine l_cons rfl (p_assign ?_)
 refine l_nil ?_
 refine k_seq_normal ?_
 refine w_seq ?_
 refine w_region ?_
 refine l_cons rfl (p_assign ?_)
 refine l_nil ?_
 refine k_seq_normal ?_
 refine w_seq ?_
 refine w_seq ?_
 refine w_region ?_
 refine l_cons rfl (p_fap fa_29_2 ?_)
 refine l_cons rfl (p_loadp ty_27 ?_)
 first | refine l_cons rfl (p_lenl sl_27 ?_) | refine l_cons rfl (p_leno sl_27 ?_) | refine l_cons rfl (p_lenn sl_27 ?_)
 refine l_cons rfl (p_move ?_)
 refine l_nil ?_
 refine k_seq_normal ?_
 refine w_block ?_
 refine w_loop (fun m f es' => ∃ k, m = args.length - k ∧ k ≤ args.length ∧ Sub (.row s1 29 6 [[.int .i64 kd, .int .u64 st.w0, .int .u64 st.w1, .int .u64 st.w2, .int .u64 st.w3, .list 6 (args.map Rx.cells)]] :: es) es' ∧ Knows f [(3, .int .i64 (Rx.depthL (args.take k) : Int)), (7, .list 6 (args.map Rx.cells)), (8, .int .i64 args.length), (9, .int .i64 k)]) (args.length) (⟨0, rfl, Nat.zero_le _, Sub.refl _, by simp only [Knows, put, upd_apply, Nat.reduceEqDiff, ↓reduceIte, and_true, true_and, eq_self] <;> and_intros <;> rfl⟩) ?_
 rintro m f es' ⟨k, rfl, hk1, hsub, hk⟩
 have hnl := Rx.nodesL_le args k
 have hal := Rx.len_le args
 refine w_pins _ hsub (hk) ?_
 simp only [pins]
 refine w_seq ?_
 refine w_region ?_
 refine l_cons rfl (p_cmp ?_)
 refine l_nil ?_
 refine k_seq_normal ?_
 refine w_seq ?_
 refine w_b (fun h1 => ?_) (fun h1 => ?_)
 ·skip
  have h1' := h1; (try simp only [decide_eq_true_eq, decide_eq_false_iff_not, Bool.not_eq_true', Bool.not_false, Bool.not_true, Bool.not_eq_false'] at h1')
  refine w_skip ?_
  refine k_seq_normal ?_
  refine w_seq ?_
  refine w_block ?_
  refine w_seq ?_
  refine w_region ?_
  refine l_cons rfl (p_ixl sl_27 ?_)
  refine l_cons rfl (p_loadf ty_29 ?_)
  refine l_cons rfl (p_alloc ze_29 fun s5 => ?_)
  refine l_cons rfl (p_store ty_29 ?_)
  refine l_nil ?_
  refine k_seq_normal ?_
  have e := Rx.depthL_take args k (by omega)
  have hnl2 := Rx.depthL_takele args (k + 1)
  refine w_region ?_
  refine l_cons rfl (p_move ?_)
  refine l_cons rfl (p_loadp ty_29 ?_)
  refine l_cons rfl (p_callr en_109 (ih (B - 1) (by omega) (args[k]'(by omega)) _ (by have := Rx.nodes_mem (l := args) (k := k) (by omega); omega) (by omega)) ?_)
  refine l_cons rfl (p_max ?_)
  refine l_cons rfl (p_assign ?_)
  refine l_nil ?_
  refine k_blk_normal ?_
  refine k_seq_normal ?_
  refine w_region ?_
  refine l_cons rfl (p_arith ?_)
  refine l_cons rfl (p_move ?_)
  refine l_nil ?_
  refine k_seq_normal ?_
  refine ⟨args.length - (k + 1), by omega, k + 1, rfl, by omega, (by first | exact Sub.refl _ | exact sub1 _ _), ?_⟩
  simp only [Knows, put, upd_apply, Nat.reduceEqDiff, ↓reduceIte, and_true, true_and, eq_self, e]
  exact ⟨by congr 1; split <;> omega, rfl⟩
 ·skip
  have h1' := h1; (try simp only [decide_eq_true_eq, decide_eq_false_iff_not, Bool.not_eq_true', Bool.not_false, Bool.not_true, Bool.not_eq_false'] at h1')
  refine w_exit ?_
  refine k_seq_exit ?_
  refine k_seq_exit ?_
  refine k_blk_here ?_
  refine k_seq_normal ?_
  refine w_seq ?_
  have hnl3 := Rx.depthL_takele args k
  refine w_region ?_
  refine l_cons rfl (p_move ?_)
  refine l_cons rfl (p_arith ?_)
  refine l_cons rfl (p_assign ?_)
  refine l_nil ?_
  refine k_seq_normal ?_
  refine w_ret ?_
  refine ret1b rfl ?_ <;> exact ex2 subx ⟨by rw [List.take_of_length_le (by omega)]; rfl, rfl⟩
end Go.Proofs.YtfdgbghlanbddaaDoor.Av
set_option linter.unusedVariables false
set_option linter.unusedSimpArgs false
set_option maxRecDepth 8000
namespace Go.Proofs.YtfdgbghlanbddaaDoor.Av
open Go.RowKit Go.Proofs
theorem neg_u64 {x : Int} (h0 : x ≠ 0) (hx : 0 ≤ x ∧ x < 18446744073709551616) : IntKind.u64.wrap (0 - x) = 18446744073709551616 - x := by
 rw [IntKind.wrap_u64]
 omega
theorem tz_key {x : Int} (h0 : x ≠ 0) (hx : 0 ≤ x ∧ x < 18446744073709551616) :
  (IntKind.u64.wrap (((x.toNat &&& (18446744073709551616 - x).toNat : Nat) : Int) * 285870213051353865)).fdiv (2 ^ (min (58 : Int).toNat IntKind.u64.bits)) = ((2 ^ tz x * 285870213051353865 % 18446744073709551616 / 288230376151711744 : Nat) : Int) := by
 have e : (18446744073709551616 - x).toNat = 2 ^ 64 - x.toNat := by omega
 have h := (Lib.lowest_bit 64 x.toNat (by omega) (by omega)).1
 rw [e, h, IntKind.wrap_u64]
 have e2 : ((2 : Int) ^ (min (58 : Int).toNat IntKind.u64.bits)) = 288230376151711744 := by decide
 rw [e2, Int.fdiv_eq_ediv_of_nonneg _ (by omega)]
 unfold tz
 omega
theorem tz_steps {x : Int} (h0 : x ≠ 0) (hx : 0 ≤ x ∧ x < 18446744073709551616) : ∃ (nx a4 m5 : Int) (q : Nat), IntKind.u64.wrap (0 - x) = nx ∧ arithI .and .u64 x nx = some a4 ∧ arithI .mul .u64 a4 285870213051353865 = some m5 ∧
  m5.fdiv (2 ^ (min (58 : Int).toNat IntKind.u64.bits)) = (q : Int) ∧ q < 64 ∧ IntKind.i64.wrap ((Lib.deBruijn64tab.getD q 0 : Nat) : Int) = tz x := by
 obtain ⟨hd1, hd2⟩ := Lib.deBruijn64_at _ (tz_spec h0 hx).1
 refine ⟨_, _, _, _, neg_u64 h0 hx, arith_and64 hx (by omega), rfl, tz_key h0 hx, hd1, ?_⟩
 rw [hd2]
 have := (tz_spec h0 hx).1
 exact wrap_i64 (by omega) (by omega)
theorem wd_load (s : W4) {k : Nat} (hk : k < 4) : loadAV false 1 [.int .u64 s.w0, .int .u64 s.w1, .int .u64 s.w2, .int .u64 s.w3] k = .int .u64 (s.wd k) := by
 rcases k with _ | _ | _ | _ | k
 ·rfl
 ·rfl
 ·rfl
 ·rfl
 ·omega
theorem less_word {a b : W4} (ha : a.ok) (hb : b.ok) {k : Nat} (hk : k < 4) (h : ∀ j, j < k → a.wd j = b.wd j) (hd : a.wd k ≠ b.wd k) : a.less b = decide ((a.wd k).fdiv (2 ^ min ((tz (xorI (a.wd k) (b.wd k)) : Nat) : Int).toNat IntKind.u64.bits) % 2 = 1) := by
 obtain ⟨h1, h2, h3⟩ := tz_xor (W4.wd_ok ha k) (W4.wd_ok hb k) hd
 rw [show min ((tz (xorI (a.wd k) (b.wd k)) : Nat) : Int).toNat IntKind.u64.bits = tz (xorI (a.wd k) (b.wd k)) by rw [show IntKind.u64.bits = 64 from rfl, Int.toNat_natCast]; omega, bit_int (W4.wd_ok ha k).1]
 have e1 : (64 * k + tz (xorI (a.wd k) (b.wd k))) / 64 = k := by omega
 have e2 : (64 * k + tz (xorI (a.wd k) (b.wd k))) % 64 = tz (xorI (a.wd k) (b.wd k)) := by omega
 rw [W4.less_at (k := 64 * k + tz (xorI (a.wd k) (b.wd k))) (by omega) (fun j hj => ?_) (by rw [W4.has_eq ha (by omega), W4.has_eq hb (by omega), e1, e2]; exact h2), W4.has_eq ha (by omega), e1, e2]
 rw [W4.has_eq ha (by omega), W4.has_eq hb (by omega)]
 by_cases hjk : j / 64 < k
 ·rw [h _ hjk]
 ·have : j / 64 = k := by omega
  rw [this]
  exact h3 _ (by omega)
theorem less_words {a b : W4} (ha : a.ok) (hb : b.ok) (h : ∀ j, j < 4 → a.wd j = b.wd j) : a.less b = false :=
 W4.less_no fun j hj => by rw [W4.has_eq ha hj, W4.has_eq hb hj, h _ (by omega)]
theorem isNaN_walk {w0 : World} {es : List Ent} (x : Int) : ACalls Tryd.prog w0 170 [.int .i64 x] es fun v es' => v = .bool false ∧ es' = es := by
 refine calls1 (N := 6) Tryd.func170 rfl rfl (by decide) ?_
 refine w_seq ?_
 refine w_region ?_
 refine l_cons rfl (p_assign ?_)
 refine l_nil ?_
 refine k_seq_normal ?_
 refine w_seq ?_
 refine w_region ?_
 refine l_cons rfl (p_move ?_)
 refine l_cons rfl (p_move ?_)
 refine l_cons rfl (p_cmp ?_)
 refine l_cons rfl (p_assign ?_)
 refine l_nil ?_
 refine k_seq_normal ?_
 refine w_ret ?_
 refine ret1b rfl ?_ <;> exact ex2 subx ⟨by simp, rfl⟩
theorem cmpInt_walk {w0 : World} {es : List Ent} (x y : Int) : ACalls Tryd.prog w0 153 [.int .i64 x, .int .i64 y] es fun v es' => v = .int .i64 (if x < y then -1 else if y < x then 1 else 0) ∧ es' = es := by
 refine calls2 (N := 20) Tryd.func153 rfl rfl (by decide) ?_
 refine w_seq ?_
 refine w_region ?_
 refine l_cons rfl (p_assign ?_)
 refine l_nil ?_
 refine k_seq_normal ?_
 refine w_seq ?_
 refine w_region ?_
 refine l_cons rfl (p_move ?_)
 refine l_cons rfl (p_callr en_170 (isNaN_walk _) ?_)
 refine l_cons rfl (p_assign ?_)
 refine l_nil ?_
 refine k_seq_normal ?_
 refine w_seq ?_
 refine w_region ?_
 refine l_cons rfl (p_move ?_)
 refine l_cons rfl (p_callr en_170 (isNaN_walk _) ?_)
 refine l_cons rfl (p_assign ?_)
 refine l_nil ?_
 refine k_seq_normal ?_
 refine w_seq ?_
 refine w_seq ?_
 refine w_region ?_
 refine l_cons rfl (p_move ?_)
 refine l_nil ?_
 refine k_seq_normal ?_
 refine w_f rfl ?_
 refine w_skip ?_
 refine k_seq_normal ?_
 refine w_seq ?_
 refine w_seq ?_
 refine w_region ?_
 refine l_cons rfl (p_move ?_)
 refine l_nil ?_
 refine k_seq_normal ?_
 refine w_f rfl ?_
 refine w_skip ?_
 refine k_seq_normal ?_
 refine w_seq ?_
 refine w_seq ?_
 refine w_region ?_
 refine l_cons rfl (p_move ?_)
 refine l_cons rfl (p_move ?_)
 refine l_cons rfl (p_cmp ?_)
 refine l_nil ?_
 refine k_seq_normal ?_
 refine w_b (fun h1 => ?_) (fun h1 => ?_)
 ·skip
  have h1' := h1; (try simp only [decide_eq_true_eq, decide_eq_false_iff_not, Bool.not_eq_true', Bool.not_false, Bool.not_true, Bool.not_eq_false'] at h1')
  refine w_seq ?_
  refine w_region ?_
  refine l_cons rfl (p_assign ?_)
  refine l_nil ?_
  refine k_seq_normal ?_
  refine w_ret ?_
  refine k_seq_ret ?_
  refine ret1b rfl ?_ <;> exact ex2 subx ⟨by rw [if_pos (by omega)], rfl⟩
 ·skip
  have h1' := h1; (try simp only [decide_eq_true_eq, decide_eq_false_iff_not, Bool.not_eq_true', Bool.not_false, Bool.not_true, Bool.not_eq_false'] at h1')
  refine w_skip ?_
  refine k_seq_normal ?_
  refine w_seq ?_
  refine w_seq ?_
  refine w_region ?_
  refine l_cons rfl (p_move ?_)
  refine l_cons rfl (p_move ?_)
  refine l_cons rfl (p_cmp ?_)
  refine l_nil ?_
  refine k_seq_normal ?_
  refine w_b (fun h2 => ?_) (fun h2 => ?_)
  ·skip
   have h2' := h2; (try simp only [decide_eq_true_eq, decide_eq_false_iff_not, Bool.not_eq_true', Bool.not_false, Bool.not_true, Bool.not_eq_false'] at h2')
   refine w_seq ?_
   refine w_region ?_
   refine l_cons rfl (p_assign ?_)
   refine l_nil ?_
   refine k_seq_normal ?_
   refine w_ret ?_
   refine k_seq_ret ?_
   refine ret1b rfl ?_ <;> exact ex2 subx ⟨by rw [if_neg (by omega), if_pos (by omega)], rfl⟩
  ·skip
   have h2' := h2; (try simp only [decide_eq_true_eq, decide_eq_false_iff_not, Bool.not_eq_true', Bool.not_false, Bool.not_true, Bool.not_eq_false'] at h2')
   refine w_skip ?_
   refine k_seq_normal ?_
   refine w_seq ?_
   refine w_region ?_
   refine l_cons rfl (p_assign ?_)
   refine l_nil ?_
   refine k_seq_normal ?_
   refine w_ret ?_
   refine ret1b rfl ?_ <;> exact ex2 subx ⟨by rw [if_neg (by omega), if_neg (by omega)], rfl⟩
theorem tz64_walk {w0 : World} (hT : Tab w0) {es : List Ent} (x : Int) (h0 : x ≠ 0) (hx : 0 ≤ x ∧ x < 18446744073709551616) : ACalls Tryd.prog w0 171 [.int .u64 x] es fun v es' => v = .int .i64 (tz x) ∧ es' = es := by
 obtain ⟨nx, a4, m5, q, hneg, hand, hmul, hkey, hq, htz⟩ := tz_steps h0 hx
 refine calls1 (N := 14) Tryd.func171 rfl rfl (by decide) ?_
 refine w_seq ?_
 refine w_region ?_
 refine l_cons rfl (p_assign ?_)
 refine l_nil ?_
 refine k_seq_normal ?_
 refine w_seq ?_
 refine w_seq ?_
 refine w_region ?_
 refine l_cons rfl (p_move ?_)
 refine l_cons rfl (p_cmp ?_)
 refine l_nil ?_
 refine k_seq_normal ?_
 refine w_b (fun h1 => ?_) (fun h1 => ?_)
 ·skip
  have h1' := h1; (try simp only [decide_eq_true_eq, decide_eq_false_iff_not, Bool.not_eq_true', Bool.not_false, Bool.not_true, Bool.not_eq_false'] at h1')
  refine w_seq ?_
  refine w_region ?_
  refine l_cons rfl (p_assign ?_)
  refine l_nil ?_
  refine k_seq_normal ?_
  refine w_ret ?_
  refine k_seq_ret ?_
  exact absurd h1' h0
 ·skip
  have h1' := h1; (try simp only [decide_eq_true_eq, decide_eq_false_iff_not, Bool.not_eq_true', Bool.not_false, Bool.not_true, Bool.not_eq_false'] at h1')
  refine w_skip ?_
  refine k_seq_normal ?_
  refine w_seq ?_
  refine w_region ?_
  refine l_cons rfl (p_move ?_)
  refine l_cons rfl (p_move ?_)
  refine l_cons rfl (p_neg ?_ (hb := hneg))
  refine l_cons rfl (p_arith ?_ (hb := hand))
  refine l_cons rfl (p_arith ?_ (hb := hmul))
  refine l_cons rfl (p_shr ?_ (hb := hkey))
  refine l_cons rfl (p_ixg ar_171 ?_ (h0 := by omega) (h1 := by omega))
  refine l_cons rfl (p_ldg hT (i := q) hq ty_5 ?_)
  refine l_cons rfl (p_conv in_5 in_3 ?_)
  refine l_cons rfl (p_assign ?_)
  refine l_nil ?_
  refine k_seq_normal ?_
  refine w_ret ?_
  refine ret1b rfl ?_ <;> exact ex2 subx ⟨by rw [htz], rfl⟩
theorem setLess_walk {w0 : World} (hT : Tab w0) {es : List Ent} (a b : W4) (ha : a.ok) (hb : b.ok) : ACalls Tryd.prog w0 154 [.agg a.row, .agg b.row] es fun v es' => v = .bool (a.less b) ∧ es' = es := by
 unfold W4.row
 refine calls2 (N := 28) Tryd.func154 rfl rfl (by decide) ?_
 refine w_seq ?_
 refine w_region ?_
 refine l_cons rfl (p_box fun s2 => ?_)
 refine l_cons rfl (p_box fun s3 => ?_)
 refine l_cons rfl (p_assign ?_)
 refine l_nil ?_
 refine k_seq_normal ?_
 refine w_seq ?_
 refine w_seq ?_
 refine w_region ?_
 refine l_cons rfl (p_move ?_)
 refine l_nil ?_
 refine k_seq_normal ?_
 refine w_block ?_
 refine w_loop (fun m f es' => ∃ k, m = 4 - k ∧ k ≤ 4 ∧ (∀ j, j < k → a.wd j = b.wd j) ∧ es' = .row s3 26 4 [[.int .u64 b.w0, .int .u64 b.w1, .int .u64 b.w2, .int .u64 b.w3]] :: .row s2 26 4 [[.int .u64 a.w0, .int .u64 a.w1, .int .u64 a.w2, .int .u64 a.w3]] :: es ∧ Knows f [(2, .ptr es.length s2 0 0), (3, .ptr (es.length + 1) s3 0 0), (7, .int .i64 k)]) (4) (⟨0, rfl, Nat.zero_le _, fun j hj => absurd hj (Nat.not_lt_zero _), rfl, by simp only [Knows, put, upd_apply, Nat.reduceEqDiff, ↓reduceIte, and_true, true_and, eq_self] <;> and_intros <;> rfl⟩) ?_
 rintro m f es' ⟨k, rfl, hk1, hk2, rfl, hk⟩
 refine w_pins _ (Sub.refl _) (hk) ?_
 simp only [pins]
 refine w_seq ?_
 refine w_region ?_
 refine l_cons rfl (p_cmp ?_)
 refine l_nil ?_
 refine k_seq_normal ?_
 refine w_seq ?_
 refine w_b (fun h1 => ?_) (fun h1 => ?_)
 ·skip
  have h1' := h1; (try simp only [decide_eq_true_eq, decide_eq_false_iff_not, Bool.not_eq_true', Bool.not_false, Bool.not_true, Bool.not_eq_false'] at h1')
  refine w_skip ?_
  refine k_seq_normal ?_
  refine w_seq ?_
  refine w_block ?_
  refine w_seq ?_
  refine w_region ?_
  refine l_cons rfl (p_move ?_)
  refine l_cons rfl (p_assign ?_)
  refine l_nil ?_
  refine k_seq_normal ?_
  refine w_seq ?_
  refine w_drawn 6 [] (fun e => e = _) mixed (by kernel_rfl) rfl ?_
  refine q1 5 (hg := rfl) (hu := rfl) (h := by rintro f _ rfl; exact p_move ⟨rfl, rfl⟩) (k := ?_)
  refine q2 2 10 (hg := rfl) (hu := rfl) (h := by rintro f _ rfl; exact p_ixa ar_26 (a := .ptr es.length s2 0 k) ⟨rfl, rfl⟩ (h0 := by omega) (h1 := by omega) (ho := by simp)) (k := ?_)
  refine q1 11 (hg := rfl) (hu := rfl) (h := by rintro f _ rfl; exact p_loadp ty_24 (a := .int .u64 (a.wd k)) ⟨rfl, rfl⟩ (hl := by simp only [List.length_cons, List.length_nil]; omega) (ha := wd_load a (by omega))) (k := ?_)
  refine q1 5 (hg := rfl) (hu := rfl) (h := by rintro f _ rfl; exact p_move ⟨rfl, rfl⟩) (k := ?_)
  refine q2 3 13 (hg := rfl) (hu := rfl) (h := by rintro f _ rfl; exact p_ixa ar_26 (a := .ptr (es.length + 1) s3 0 k) ⟨rfl, rfl⟩ (h0 := by omega) (h1 := by omega) (ho := by simp)) (k := ?_)
  refine q1 14 (hg := rfl) (hu := rfl) (h := by rintro f _ rfl; exact p_loadp ty_24 (a := .int .u64 (b.wd k)) ⟨rfl, rfl⟩ (hl := by simp only [List.length_cons, List.length_nil]; omega) (ha := wd_load b (by omega))) (k := ?_)
  refine q_end ?_
  refine m_end ?_
  refine l_cons rfl (p_arith ?_ (hb := arith_xor64 (W4.wd_ok ha k) (W4.wd_ok hb k)))
  refine l_cons rfl (p_assign ?_)
  refine l_nil ?_
  refine k_seq_normal ?_
  refine w_seq ?_
  refine w_region ?_
  refine l_cons rfl (p_move ?_)
  refine l_cons rfl (p_cmp ?_)
  refine l_nil ?_
  refine k_seq_normal ?_
  refine w_b (fun h2 => ?_) (fun h2 => ?_)
  ·skip
   have h2' := h2; (try simp only [decide_eq_true_eq, decide_eq_false_iff_not, Bool.not_eq_true', Bool.not_false, Bool.not_true, Bool.not_eq_false'] at h2')
   refine w_seq ?_
   refine w_drawn 5 [] (fun e => e = _) mixed (by kernel_rfl) rfl ?_
   refine q1 5 (hg := rfl) (hu := rfl) (h := by rintro f _ rfl; exact p_move ⟨rfl, rfl⟩) (k := ?_)
   refine q2 2 19 (hg := rfl) (hu := rfl) (h := by rintro f _ rfl; exact p_ixa ar_26 (a := .ptr es.length s2 0 k) ⟨rfl, rfl⟩ (h0 := by omega) (h1 := by omega) (ho := by simp)) (k := ?_)
   refine q1 20 (hg := rfl) (hu := rfl) (h := by rintro f _ rfl; exact p_loadp ty_24 (a := .int .u64 (a.wd k)) ⟨rfl, rfl⟩ (hl := by simp only [List.length_cons, List.length_nil]; omega) (ha := wd_load a (by omega))) (k := ?_)
   refine q1 6 (hg := rfl) (hu := rfl) (h := by rintro f _ rfl; exact p_move ⟨rfl, rfl⟩) (k := ?_)
   refine q1 22 (hg := rfl) (hu := rfl) (h := by rintro f _ rfl; exact p_callr en_171 (tz64_walk hT (xorI (a.wd k) (b.wd k)) (by assumption) (xor_range (W4.wd_ok ha k) (W4.wd_ok hb k))) ⟨rfl, rfl⟩) (k := ?_)
   refine q_end ?_
   refine m_end ?_
   refine l_cons rfl (p_shr ?_)
   refine l_cons rfl (p_arith ?_ (hb := and1 _))
   refine l_cons rfl (p_cmp ?_)
   refine l_cons rfl (p_assign ?_)
   refine l_nil ?_
   refine k_seq_normal ?_
   refine w_ret ?_
   refine k_blk_ret ?_
   refine k_seq_ret ?_
   refine k_seq_ret ?_
   refine k_blk_ret ?_
   refine k_seq_ret ?_
   refine ret1b rfl ?_ <;> exact ex2 subx ⟨by rw [less_word ha hb (by omega) hk2 (fun e => h2' ((xor_zero (W4.wd_ok ha k).1 (W4.wd_ok hb k).1).2 e))], rfl⟩
  ·skip
   have h2' := h2; (try simp only [decide_eq_true_eq, decide_eq_false_iff_not, Bool.not_eq_true', Bool.not_false, Bool.not_true, Bool.not_eq_false'] at h2')
   refine w_skip ?_
   refine k_blk_normal ?_
   refine k_seq_normal ?_
   refine w_region ?_
   refine l_cons rfl (p_arith ?_)
   refine l_cons rfl (p_move ?_)
   refine l_nil ?_
   refine k_seq_normal ?_
   exact ⟨4 - (k + 1), by omega, k + 1, rfl, by omega, lt_succ_cases hk2 ((xor_zero (W4.wd_ok ha k).1 (W4.wd_ok hb k).1).1 (by simpa using h2')), rfl, by simp only [Knows, put, upd_apply, Nat.reduceEqDiff, ↓reduceIte, and_true, true_and, eq_self] <;> and_intros <;> rfl⟩
 ·skip
  have h1' := h1; (try simp only [decide_eq_true_eq, decide_eq_false_iff_not, Bool.not_eq_true', Bool.not_false, Bool.not_true, Bool.not_eq_false'] at h1')
  refine w_exit ?_
  refine k_seq_exit ?_
  refine k_seq_exit ?_
  refine k_blk_here ?_
  refine k_seq_normal ?_
  refine w_seq ?_
  refine w_region ?_
  refine l_cons rfl (p_assign ?_)
  refine l_nil ?_
  refine k_seq_normal ?_
  refine w_ret ?_
  refine ret1b rfl ?_ <;> exact ex2 subx ⟨by rw [less_words ha hb (fun j hj => hk2 j (by omega))], rfl⟩
end Go.Proofs.YtfdgbghlanbddaaDoor.Av
set_option linter.unusedVariables false
set_option linter.unusedSimpArgs false
set_option maxRecDepth 8000
namespace Go.Proofs.YtfdgbghlanbddaaDoor.Av
open Go.RowKit Go.Proofs
theorem Rx.cells_eq (r : Rx) : r.cells = [.int .i64 r.kind, .int .u64 r.set.w0, .int .u64 r.set.w1, .int .u64 r.set.w2, .int .u64 r.set.w3, .list 6 (r.args.map Rx.cells)] := by simp only [Rx.cells, Rx.rows_eq]
theorem Rx.ok.set {r : Rx} (h : r.ok) : r.set.ok := by cases r; simp only [Rx.ok] at h; exact h.2.1
theorem Rx.ok.args {r : Rx} (h : r.ok) : ∀ a ∈ r.args, a.ok := by cases r; simp only [Rx.ok] at h; exact (Rx.oks_iff _).1 h.2.2
theorem Rx.ok.arg {r : Rx} (h : r.ok) {k : Nat} (hk : k < r.args.length) : (r.args[k]).ok := h.args _ (List.getElem_mem hk)
theorem Rx.nodes_eq (r : Rx) : r.nodes = 1 + Rx.nodesL r.args := by cases r; simp only [Rx.nodes, Rx.args]
theorem Rx.nodes_arg (r : Rx) {k : Nat} (hk : k < r.args.length) : (r.args[k]).nodes + 1 ≤ r.nodes := by
 have h1 := Rx.nodes_mem hk
 have h2 := r.nodes_eq
 omega
theorem wrap8 {n : Int} (h0 : 0 ≤ n) (h1 : n < 256) : IntKind.u8.wrap n = n := by
 have : IntKind.u8.wrap n = n % 256 := by simp [IntKind.wrap, IntKind.signed, IntKind.bits]
 omega
theorem eqA (a b : W4) : (a.row.map valOf == b.row.map valOf) = decide (a = b) := by
 cases a; cases b
 rw [Bool.eq_iff_iff]
 simp [W4.row, valOf]
theorem neA (a b : W4) : (!(a.row.map valOf == b.row.map valOf)) = !decide (a = b) := by rw [eqA]
theorem drop_cons {α : Type} {l : List α} {k : Nat} (h : k < l.length) : l.drop k = l[k] :: l.drop (k + 1) := List.drop_eq_getElem_cons h
theorem cmpL_next {l m : List Rx} {k : Nat} (h1 : k < l.length) (h2 : k < m.length) (e : Rx.cmpL l m = Rx.cmpL (l.drop k) (m.drop k)) (h0 : l[k].cmp m[k] = 0) : Rx.cmpL l m = Rx.cmpL (l.drop (k + 1)) (m.drop (k + 1)) := by
 rw [e, drop_cons h1, drop_cons h2, Rx.cmpL, if_pos h0]
theorem cmpL_hit {l m : List Rx} {k : Nat} (h1 : k < l.length) (h2 : k < m.length) (e : Rx.cmpL l m = Rx.cmpL (l.drop k) (m.drop k)) (h0 : ¬ l[k].cmp m[k] = 0) : Rx.cmpL l m = l[k].cmp m[k] := by
 rw [e, drop_cons h1, drop_cons h2, Rx.cmpL, if_neg h0]
theorem cmpL_long {l m : List Rx} {k : Nat} (h1 : k < l.length) (h2 : m.length ≤ k) (e : Rx.cmpL l m = Rx.cmpL (l.drop k) (m.drop k)) : Rx.cmpL l m = 1 := by
 rw [e, drop_cons h1, List.drop_eq_nil_of_le h2]
 simp only [Rx.cmpL]
theorem cmpL_end {l m : List Rx} {k : Nat} (h1 : k = l.length) (h2 : k ≤ m.length) (e : Rx.cmpL l m = Rx.cmpL (l.drop k) (m.drop k)) : Rx.cmpL l m = if l.length < m.length then -1 else 0 := by
 subst h1
 rw [e, List.drop_eq_nil_of_le (Nat.le_refl _)]
 by_cases h : l.length < m.length
 ·rw [if_pos h, drop_cons h]; simp only [Rx.cmpL]
 ·rw [if_neg h, List.drop_eq_nil_of_le (by omega)]; simp only [Rx.cmpL]
theorem cmpL_at {l m : List Rx} {k : Nat} (h1 : k ≤ l.length) (h2 : k ≤ m.length) (e : Rx.cmpL l m = Rx.cmpL (l.drop k) (m.drop k)) (h : ¬ (k < l.length ∧ k < m.length)) : Rx.cmpL l m = if l.length < m.length then -1 else if m.length < l.length then 1 else 0 := by
 by_cases h3 : k = l.length
 ·rw [cmpL_end h3 h2 e]
  split
  ·rfl
  ·rw [if_neg (by omega)]
 ·rw [cmpL_long (k := k) (by omega) (by omega) e, if_neg (by omega), if_pos (by omega)]
theorem cmp_def (a b : Rx) : a.cmp b = if a.kind < b.kind then -1 else if b.kind < a.kind then 1 else if a.kind = 3 ∧ a.set ≠ b.set then (if a.set.less b.set = true then -1 else 1) else Rx.cmpL a.args b.args := by
 cases a; cases b
 rw [Rx.cmp]
 rfl
theorem cmp_kind {a b : Rx} (h : ¬ (if a.kind < b.kind then (-1 : Int) else if b.kind < a.kind then 1 else 0) = 0) : a.cmp b = if a.kind < b.kind then -1 else if b.kind < a.kind then 1 else 0 := by
 rw [cmp_def]
 by_cases h1 : a.kind < b.kind
 ·rw [if_pos h1, if_pos h1]
 ·rw [if_neg h1, if_neg h1]
  by_cases h2 : b.kind < a.kind
  ·rw [if_pos h2, if_pos h2]
  ·rw [if_neg h1, if_neg h2] at h; exact absurd rfl h
theorem cmp_kind2 {a b : Rx} (h : ¬ a.kind = b.kind) : a.cmp b = if a.kind < b.kind then -1 else if b.kind < a.kind then 1 else 0 := cmp_kind (by split <;> first | omega | (split <;> omega))
theorem cmp_kind0 {a b : Rx} (h : (if a.kind < b.kind then (-1 : Int) else if b.kind < a.kind then 1 else 0) = 0) : a.kind = b.kind := by
 split at h
 ·omega
 ·split at h <;> omega
theorem cmp_set {a b : Rx} (h : a.kind = b.kind) (h3 : a.kind = 3) (hs : ¬ a.set = b.set) : a.cmp b = if a.set.less b.set = true then -1 else 1 := by
 rw [cmp_def, if_neg (by omega), if_neg (by omega), if_pos ⟨h3, hs⟩]
theorem cmp_args {a b : Rx} (h : a.kind = b.kind) (h3 : ¬ a.kind = 3 ∨ a.set = b.set) : a.cmp b = Rx.cmpL a.args b.args := by
 rw [cmp_def, if_neg (by omega), if_neg (by omega), if_neg (fun e => h3.elim (fun x => x e.1) (fun x => e.2 x))]
theorem isSet_walk {w0 : World} {es : List Ent} (r : Rx) : ACalls Tryd.prog w0 133 [.agg r.cells] es fun v es' => v = .bool (decide (r.kind = 3)) ∧ es' = es := by
 rw [Rx.cells_eq r]
 refine calls1 (N := 6) Tryd.func133 rfl rfl (by decide) ?_
 refine w_seq ?_
 refine w_region ?_
 refine l_cons rfl (p_box fun s1 => ?_)
 refine l_cons rfl (p_assign ?_)
 refine l_nil ?_
 refine k_seq_normal ?_
 refine w_seq ?_
 refine w_region ?_
 refine l_cons rfl (p_fap fa_29_0 ?_)
 refine l_cons rfl (p_loadp ty_3 ?_)
 refine l_cons rfl (p_cmp ?_)
 refine l_cons rfl (p_assign ?_)
 refine l_nil ?_
 refine k_seq_normal ?_
 refine w_ret ?_
 refine ret1b rfl ?_ <;> exact ex2 subx ⟨rfl, rfl⟩
theorem compareFunc_walk {w0 : World} {es : List Ent} (l m : List Rx) (h : ∀ k (h1 : k < l.length) (h2 : k < m.length) es, ACalls Tryd.prog w0 136 [.agg l[k].cells, .agg m[k].cells] es fun v es' => v = .int .i64 (l[k].cmp m[k]) ∧ es' = es) : ACalls Tryd.prog w0 155 [.list 6 (l.map Rx.cells), .list 6 (m.map Rx.cells), .fn (.func 136) [] []] es fun v es' => v = .int .i64 (Rx.cmpL l m) ∧ es' = es := by
 refine calls3 (N := 39) Tryd.func155 rfl rfl (by decide) ?_
 refine w_seq ?_
 refine w_region ?_
 refine l_cons rfl (p_assign ?_)
 refine l_nil ?_
 refine k_seq_normal ?_
 refine w_seq ?_
 refine w_seq ?_
 refine w_len 0 fun hl => ?_
 rw [List.length_map] at hl
 refine w_len 1 fun hm => ?_
 rw [List.length_map] at hm
 simp only [most] at hl hm
 refine w_region ?_
 refine l_cons rfl (p_move ?_)
 refine l_cons rfl (p_lenl sl_27 ?_)
 refine l_cons rfl (p_move ?_)
 refine l_nil ?_
 refine k_seq_normal ?_
 refine w_block ?_
 refine w_loop (fun q f es' => ∃ k, q = l.length - k ∧ k ≤ l.length ∧ k ≤ m.length ∧ Rx.cmpL l m = Rx.cmpL (l.drop k) (m.drop k) ∧ Sub es es' ∧ Knows f [(0, .list 6 (l.map Rx.cells)), (1, .list 6 (m.map Rx.cells)), (2, .fn (.func 136) [] []), (11, .list 6 (l.map Rx.cells)), (12, .int .i64 l.length), (13, .int .i64 k)]) (l.length) (⟨0, rfl, Nat.zero_le _, Nat.zero_le _, rfl, Sub.refl _, by simp only [Knows, put, upd_apply, Nat.reduceEqDiff, ↓reduceIte, and_true, true_and, eq_self] <;> and_intros <;> rfl⟩) ?_
 rintro q f es' ⟨k, rfl, hk1, hk2, hk3, hsub, hk⟩
 refine w_pins _ hsub (hk) ?_
 simp only [pins]
 refine w_seq ?_
 refine w_region ?_
 refine l_cons rfl (p_cmp ?_)
 refine l_nil ?_
 refine k_seq_normal ?_
 refine w_seq ?_
 refine w_b (fun h1 => ?_) (fun h1 => ?_)
 ·skip
  have h1' := h1; (try simp only [decide_eq_true_eq, decide_eq_false_iff_not, Bool.not_eq_true', Bool.not_false, Bool.not_true, Bool.not_eq_false'] at h1')
  refine w_skip ?_
  refine k_seq_normal ?_
  refine w_seq ?_
  refine w_block ?_
  refine w_seq ?_
  refine w_region ?_
  refine l_cons rfl (p_move ?_)
  refine l_cons rfl (p_ixl sl_27 ?_)
  refine l_cons rfl (p_loadf ty_29 ?_)
  refine l_cons rfl (p_alloc ze_29 fun s8 => ?_)
  refine l_cons rfl (p_assign ?_)
  refine l_cons rfl (p_store ty_29 ?_)
  refine l_nil ?_
  refine k_seq_normal ?_
  refine w_seq ?_
  refine w_seq ?_
  refine w_region ?_
  refine l_cons rfl (p_move ?_)
  refine l_cons rfl (p_move ?_)
  refine l_cons rfl (p_lenl sl_27 ?_)
  refine l_cons rfl (p_cmp ?_)
  refine l_nil ?_
  refine k_seq_normal ?_
  refine w_b (fun h2 => ?_) (fun h2 => ?_)
  ·skip
   have h2' := h2; (try simp only [decide_eq_true_eq, decide_eq_false_iff_not, Bool.not_eq_true', Bool.not_false, Bool.not_true, Bool.not_eq_false'] at h2')
   refine w_seq ?_
   refine w_region ?_
   refine l_cons rfl (p_assign ?_)
   refine l_nil ?_
   refine k_seq_normal ?_
   refine w_ret ?_
   refine k_seq_ret ?_
   refine k_blk_ret ?_
   refine k_seq_ret ?_
   refine k_seq_ret ?_
   refine k_blk_ret ?_
   refine k_seq_ret ?_
   refine ret1b rfl ?_ <;> exact ex2 subx ⟨by rw [cmpL_long (k := k) (by omega) (by omega) hk3], rfl⟩
  ·skip
   have h2' := h2; (try simp only [decide_eq_true_eq, decide_eq_false_iff_not, Bool.not_eq_true', Bool.not_false, Bool.not_true, Bool.not_eq_false'] at h2')
   refine w_skip ?_
   refine k_seq_normal ?_
   refine w_seq ?_
   refine w_region ?_
   refine l_cons rfl (p_move ?_)
   refine l_cons rfl (p_move ?_)
   refine l_cons rfl (p_ixl sl_27 ?_)
   refine l_cons rfl (p_loadf ty_29 ?_)
   refine l_cons rfl (p_alloc ze_29 fun s9 => ?_)
   refine l_cons rfl (p_store ty_29 ?_)
   refine l_nil ?_
   refine k_seq_normal ?_
   refine w_seq ?_
   refine w_region ?_
   refine l_cons rfl (p_move ?_)
   refine l_cons rfl (p_loadp ty_29 ?_)
   refine l_cons rfl (p_loadp ty_29 ?_)
   refine l_cons rfl (p_callr en_136 (h k (by omega) (by omega) _) ?_)
   refine l_cons rfl (p_assign ?_)
   refine l_nil ?_
   refine k_seq_normal ?_
   refine w_seq ?_
   refine w_region ?_
   refine l_cons rfl (p_move ?_)
   refine l_cons rfl (p_cmp ?_)
   refine l_nil ?_
   refine k_seq_normal ?_
   refine w_b (fun h3 => ?_) (fun h3 => ?_)
   ·skip
    have h3' := h3; (try simp only [decide_eq_true_eq, decide_eq_false_iff_not, Bool.not_eq_true', Bool.not_false, Bool.not_true, Bool.not_eq_false'] at h3')
    refine w_seq ?_
    refine w_region ?_
    refine l_cons rfl (p_move ?_)
    refine l_cons rfl (p_assign ?_)
    refine l_nil ?_
    refine k_seq_normal ?_
    refine w_ret ?_
    refine k_blk_ret ?_
    refine k_seq_ret ?_
    refine k_seq_ret ?_
    refine k_blk_ret ?_
    refine k_seq_ret ?_
    refine ret1b rfl ?_ <;> exact ex2 subx ⟨by rw [cmpL_hit (k := k) (by omega) (by omega) hk3 (by simpa using h3')], rfl⟩
   ·skip
    have h3' := h3; (try simp only [decide_eq_true_eq, decide_eq_false_iff_not, Bool.not_eq_true', Bool.not_false, Bool.not_true, Bool.not_eq_false'] at h3')
    refine w_skip ?_
    refine k_blk_normal ?_
    refine k_seq_normal ?_
    refine w_region ?_
    refine l_cons rfl (p_arith ?_)
    refine l_cons rfl (p_move ?_)
    refine l_nil ?_
    refine k_seq_normal ?_
    exact ⟨l.length - (k + 1), by omega, k + 1, rfl, by omega, by omega, cmpL_next (by omega) (by omega) hk3 (by simpa using h3'), (by first | exact sub2 _ _ _ | exact Sub.refl _), by simp only [Knows, put, upd_apply, Nat.reduceEqDiff, ↓reduceIte, and_true, true_and, eq_self] <;> and_intros <;> rfl⟩
 ·skip
  have h1' := h1; (try simp only [decide_eq_true_eq, decide_eq_false_iff_not, Bool.not_eq_true', Bool.not_false, Bool.not_true, Bool.not_eq_false'] at h1')
  refine w_exit ?_
  refine k_seq_exit ?_
  refine k_seq_exit ?_
  refine k_blk_here ?_
  refine k_seq_normal ?_
  refine w_seq ?_
  refine w_seq ?_
  refine w_region ?_
  refine l_cons rfl (p_move ?_)
  refine l_cons rfl (p_lenl sl_27 ?_)
  refine l_cons rfl (p_move ?_)
  refine l_cons rfl (p_lenl sl_27 ?_)
  refine l_cons rfl (p_cmp ?_)
  refine l_nil ?_
  refine k_seq_normal ?_
  refine w_b (fun h4 => ?_) (fun h4 => ?_)
  ·skip
   have h4' := h4; (try simp only [decide_eq_true_eq, decide_eq_false_iff_not, Bool.not_eq_true', Bool.not_false, Bool.not_true, Bool.not_eq_false'] at h4')
   refine w_seq ?_
   refine w_region ?_
   refine l_cons rfl (p_assign ?_)
   refine l_nil ?_
   refine k_seq_normal ?_
   refine w_ret ?_
   refine k_seq_ret ?_
   refine ret1b rfl ?_ <;> exact ex2 subx ⟨by rw [cmpL_end (k := k) (by omega) (by omega) hk3, if_pos (by omega)], rfl⟩
  ·skip
   have h4' := h4; (try simp only [decide_eq_true_eq, decide_eq_false_iff_not, Bool.not_eq_true', Bool.not_false, Bool.not_true, Bool.not_eq_false'] at h4')
   refine w_skip ?_
   refine k_seq_normal ?_
   refine w_seq ?_
   refine w_region ?_
   refine l_cons rfl (p_assign ?_)
   refine l_nil ?_
   refine k_seq_normal ?_
   refine w_ret ?_
   refine ret1b rfl ?_ <;> exact ex2 subx ⟨by rw [cmpL_end (k := k) (by omega) (by omega) hk3, if_neg (by omega)], rfl⟩
theorem rxCompare {w0 : World} (hT : Tab w0) : ∀ (B : Nat) (a b : Rx) (es : List Ent), a.nodes ≤ B → a.ok → b.ok → ACalls Tryd.prog w0 136 [.agg a.cells, .agg b.cells] es fun v es' => v = .int .i64 (a.cmp b) ∧ es' = es := by
 intro B
 induction B using Nat.strongRecOn with
 | _ B ih => ?_
 intro a b es hB ha hb
 rw [Rx.cells_eq a, Rx.cells_eq b]
 refine calls2 (N := 34) Tryd.func136 rfl rfl (by decide) ?_
 refine w_seq ?_
 refine w_region ?_
 refine l_cons rfl (p_box fun s2 => ?_)
 refine l_cons rfl (p_box fun s3 => ?_)
 refine l_cons rfl (p_assign ?_)
 refine l_nil ?_
 refine k_seq_normal ?_
 refine w_seq ?_
 refine w_seq ?_
 refine w_region ?_
 refine l_cons rfl (p_fap fa_29_0 ?_)
 refine l_cons rfl (p_loadp ty_3 ?_)
 refine l_cons rfl (p_fap fa_29_0 ?_)
 refine l_cons rfl (p_loadp ty_3 ?_)
 refine l_cons rfl (p_callr en_153 (cmpInt_walk _ _) ?_)
 refine l_cons rfl (p_assign ?_)
 refine l_nil ?_
 refine k_seq_normal ?_
 refine w_seq ?_
 refine w_region ?_
 refine l_cons rfl (p_move ?_)
 refine l_cons rfl (p_cmp ?_)
 refine l_nil ?_
 refine k_seq_normal ?_
 refine w_b (fun h1 => ?_) (fun h1 => ?_)
 ·skip
  have h1' := h1; (try simp only [decide_eq_true_eq, decide_eq_false_iff_not, Bool.not_eq_true', Bool.not_false, Bool.not_true, Bool.not_eq_false'] at h1')
  refine w_seq ?_
  refine w_region ?_
  refine l_cons rfl (p_move ?_)
  refine l_cons rfl (p_assign ?_)
  refine l_nil ?_
  refine k_seq_normal ?_
  refine w_ret ?_
  refine k_seq_ret ?_
  refine ret1b rfl ?_ <;> exact ex2 subx ⟨by rw [cmp_kind (by simpa using h1')], rfl⟩
 ·skip
  have h1' := h1; (try simp only [decide_eq_true_eq, decide_eq_false_iff_not, Bool.not_eq_true', Bool.not_false, Bool.not_true, Bool.not_eq_false'] at h1')
  refine w_skip ?_
  refine k_seq_normal ?_
  refine w_seq ?_
  refine w_seq ?_
  refine w_region ?_
  refine l_cons rfl (p_fap fa_29_0 ?_)
  refine l_cons rfl (p_loadp ty_3 ?_)
  refine l_cons rfl (p_cmp ?_)
  refine l_cons rfl (p_move ?_)
  refine g_b rfl (fun h2 => ?_) (fun h2 => ?_)
  ·skip
   have h2' := h2; (try simp only [decide_eq_true_eq, decide_eq_false_iff_not, Bool.not_eq_true', Bool.not_false, Bool.not_true, Bool.not_eq_false'] at h2')
   refine (p_fap fa_29_1 ?_)
   refine g_y rfl h2 (p_loadp ty_26 ?_)
   refine g_y rfl h2 (p_fap fa_29_1 ?_)
   refine g_y rfl h2 (p_loadp ty_26 ?_)
   refine g_y rfl h2 (p_nea ai_26 ?_ (hb := neA a.set b.set))
   refine l_cons rfl (p_pickt h2 ?_)
   refine l_nil ?_
   refine k_seq_normal ?_
   refine w_b (fun h3 => ?_) (fun h3 => ?_)
   ·skip
    have h3' := h3; (try simp only [decide_eq_true_eq, decide_eq_false_iff_not, Bool.not_eq_true', Bool.not_false, Bool.not_true, Bool.not_eq_false'] at h3')
    refine w_seq ?_
    refine w_seq ?_
    refine w_region ?_
    refine l_cons rfl (p_fap fa_29_1 ?_)
    refine l_cons rfl (p_loadp ty_26 ?_)
    refine l_cons rfl (p_fap fa_29_1 ?_)
    refine l_cons rfl (p_loadp ty_26 ?_)
    refine l_cons rfl (p_callr en_154 (setLess_walk hT a.set b.set ha.set hb.set) ?_)
    refine l_nil ?_
    refine k_seq_normal ?_
    refine w_b (fun h4 => ?_) (fun h4 => ?_)
    ·skip
     have h4' := h4; (try simp only [decide_eq_true_eq, decide_eq_false_iff_not, Bool.not_eq_true', Bool.not_false, Bool.not_true, Bool.not_eq_false'] at h4')
     refine w_seq ?_
     refine w_region ?_
     refine l_cons rfl (p_assign ?_)
     refine l_nil ?_
     refine k_seq_normal ?_
     refine w_ret ?_
     refine k_seq_ret ?_
     refine k_seq_ret ?_
     refine ret1b rfl ?_ <;> exact ex2 subx ⟨by rw [cmp_set (cmp_kind0 (by simpa using h1')) (by omega) h3', if_pos (by assumption)], rfl⟩
    ·skip
     have h4' := h4; (try simp only [decide_eq_true_eq, decide_eq_false_iff_not, Bool.not_eq_true', Bool.not_false, Bool.not_true, Bool.not_eq_false'] at h4')
     refine w_skip ?_
     refine k_seq_normal ?_
     refine w_seq ?_
     refine w_region ?_
     refine l_cons rfl (p_assign ?_)
     refine l_nil ?_
     refine k_seq_normal ?_
     refine w_ret ?_
     refine k_seq_ret ?_
     refine ret1b rfl ?_ <;> exact ex2 subx ⟨by rw [cmp_set (cmp_kind0 (by simpa using h1')) (by omega) h3', if_neg (by simp_all)], rfl⟩
   ·skip
    have h3' := h3; (try simp only [decide_eq_true_eq, decide_eq_false_iff_not, Bool.not_eq_true', Bool.not_false, Bool.not_true, Bool.not_eq_false'] at h3')
    refine w_skip ?_
    refine k_seq_normal ?_
    refine w_seq ?_
    refine w_region ?_
    refine l_cons rfl (p_fap fa_29_2 ?_)
    refine l_cons rfl (p_loadp ty_27 ?_)
    refine l_cons rfl (p_fap fa_29_2 ?_)
    refine l_cons rfl (p_loadp ty_27 ?_)
    refine l_cons rfl (p_callr en_155 (compareFunc_walk a.args b.args fun k h1 h2 es => ih (B - 1) (by have := a.nodes_pos; omega) _ _ es (by have := a.nodes_arg h1; omega) (ha.arg h1) (hb.arg h2)) ?_)
    refine l_cons rfl (p_assign ?_)
    refine l_nil ?_
    refine k_seq_normal ?_
    refine w_ret ?_
    refine ret1b rfl ?_ <;> exact ex2 subx ⟨by rw [cmp_args (cmp_kind0 (by simpa using h1')) (by first | exact .inl (by omega) | exact .inr (by simp_all))], rfl⟩
  ·skip
   have h2' := h2; (try simp only [decide_eq_true_eq, decide_eq_false_iff_not, Bool.not_eq_true', Bool.not_false, Bool.not_true, Bool.not_eq_false'] at h2')
   refine g_n rfl h2 ?_
   refine g_n rfl h2 ?_
   refine g_n rfl h2 ?_
   refine g_n rfl h2 ?_
   refine l_cons rfl (p_pickf h2 ?_)
   refine l_nil ?_
   refine k_seq_normal ?_
   refine w_f rfl ?_
   refine w_skip ?_
   refine k_seq_normal ?_
   refine w_seq ?_
   refine w_region ?_
   refine l_cons rfl (p_fap fa_29_2 ?_)
   refine l_cons rfl (p_loadp ty_27 ?_)
   refine l_cons rfl (p_fap fa_29_2 ?_)
   refine l_cons rfl (p_loadp ty_27 ?_)
   refine l_cons rfl (p_callr en_155 (compareFunc_walk a.args b.args fun k h1 h2 es => ih (B - 1) (by have := a.nodes_pos; omega) _ _ es (by have := a.nodes_arg h1; omega) (ha.arg h1) (hb.arg h2)) ?_)
   refine l_cons rfl (p_assign ?_)
   refine l_nil ?_
   refine k_seq_normal ?_
   refine w_ret ?_
   refine ret1b rfl ?_ <;> exact ex2 subx ⟨by rw [cmp_args (cmp_kind0 (by simpa using h1')) (by first | exact .inl (by omega) | exact .inr (by simp_all))], rfl⟩
theorem refLess_walk {w0 : World} {es : List Ent} (a b : W4) (ha : a.ok) (hb : b.ok) : ACalls Tryd.prog w0 148 [.agg a.row, .agg b.row] es fun v es' => v = .bool (a.less b) ∧ es' = es := by
 unfold W4.row
 refine calls2 (N := 23) Tryd.func148 rfl rfl (by decide) ?_
 refine w_seq ?_
 refine w_region ?_
 refine l_cons rfl (p_box fun s2 => ?_)
 refine l_cons rfl (p_box fun s3 => ?_)
 refine l_cons rfl (p_assign ?_)
 refine l_nil ?_
 refine k_seq_normal ?_
 refine w_seq ?_
 refine w_seq ?_
 refine w_region ?_
 refine l_cons rfl (p_assign ?_)
 refine l_nil ?_
 refine k_seq_normal ?_
 refine w_block ?_
 refine w_loop (fun m f es' => ∃ k, m = 256 - k ∧ k ≤ 256 ∧ (∀ j, j < k → a.has j = b.has j) ∧ es' = .row s3 26 4 [[.int .u64 b.w0, .int .u64 b.w1, .int .u64 b.w2, .int .u64 b.w3]] :: .row s2 26 4 [[.int .u64 a.w0, .int .u64 a.w1, .int .u64 a.w2, .int .u64 a.w3]] :: es ∧ Knows f [(2, .ptr es.length s2 0 0), (3, .ptr (es.length + 1) s3 0 0), (5, .int .i64 k)]) (256) (⟨0, rfl, Nat.zero_le _, fun j hj => absurd hj (Nat.not_lt_zero _), rfl, by simp only [Knows, put, upd_apply, Nat.reduceEqDiff, ↓reduceIte, and_true, true_and, eq_self] <;> and_intros <;> rfl⟩) ?_
 rintro m f es' ⟨k, rfl, hk1, hk2, rfl, hk⟩
 refine w_pins _ (Sub.refl _) (hk) ?_
 simp only [pins]
 refine w_seq ?_
 refine w_seq ?_
 refine w_region ?_
 refine l_cons rfl (p_move ?_)
 refine l_cons rfl (p_cmp ?_)
 refine l_nil ?_
 refine k_seq_normal ?_
 refine w_b (fun h1 => ?_) (fun h1 => ?_)
 ·skip
  have h1' := h1; (try simp only [decide_eq_true_eq, decide_eq_false_iff_not, Bool.not_eq_true', Bool.not_false, Bool.not_true, Bool.not_eq_false'] at h1')
  refine w_skip ?_
  refine k_seq_normal ?_
  refine w_seq ?_
  refine w_block ?_
  refine w_seq ?_
  refine w_drawn 7 [] (fun e => e = _) mixed (by kernel_rfl) rfl ?_
  refine q1 2 (hg := rfl) (hu := rfl) (h := by rintro f _ rfl; exact p_loadp ty_26 ⟨rfl, rfl⟩) (k := ?_)
  refine q1 5 (hg := rfl) (hu := rfl) (h := by rintro f _ rfl; exact p_move ⟨rfl, rfl⟩) (k := ?_)
  refine q1 11 (hg := rfl) (hu := rfl) (h := by rintro f _ rfl; exact p_conv in_3 in_5 ⟨rfl, rfl⟩ (hb := wrap8 (n := (k : Int)) (by omega) (by omega))) (k := ?_)
  refine q2 10 12 (hg := rfl) (hu := rfl) (h := by rintro f _ rfl; exact p_callr en_55 (ref1Has a.w0 a.w1 a.w2 a.w3 (k : Int) (by omega) (by omega) ha.1 ha.2.1 ha.2.2.1 ha.2.2.2.1) ⟨rfl, rfl⟩) (k := ?_)
  refine q1 3 (hg := rfl) (hu := rfl) (h := by rintro f _ rfl; exact p_loadp ty_26 ⟨rfl, rfl⟩) (k := ?_)
  refine q1 5 (hg := rfl) (hu := rfl) (h := by rintro f _ rfl; exact p_move ⟨rfl, rfl⟩) (k := ?_)
  refine q1 15 (hg := rfl) (hu := rfl) (h := by rintro f _ rfl; exact p_conv in_3 in_5 ⟨rfl, rfl⟩ (hb := wrap8 (n := (k : Int)) (by omega) (by omega))) (k := ?_)
  refine q_end ?_
  refine m_end ?_
  refine l_cons rfl (p_callr en_55 (ref1Has b.w0 b.w1 b.w2 b.w3 (k : Int) (by omega) (by omega) hb.1 hb.2.1 hb.2.2.1 hb.2.2.2.1) ?_)
  refine l_cons rfl (p_neb ub_4 ?_)
  refine l_nil ?_
  refine k_seq_normal ?_
  refine w_b (fun h2 => ?_) (fun h2 => ?_)
  ·skip
   have h2' := h2; (try simp only [decide_eq_true_eq, decide_eq_false_iff_not, Bool.not_eq_true', Bool.not_false, Bool.not_true, Bool.not_eq_false'] at h2')
   refine w_seq ?_
   refine w_region ?_
   refine l_cons rfl (p_loadp ty_26 ?_)
   refine l_cons rfl (p_move ?_)
   refine l_cons rfl (p_conv in_3 in_5 ?_ (hb := wrap8 (n := (k : Int)) (by omega) (by omega)))
   refine l_cons rfl (p_callr en_55 (ref1Has a.w0 a.w1 a.w2 a.w3 (k : Int) (by omega) (by omega) ha.1 ha.2.1 ha.2.2.1 ha.2.2.2.1) ?_)
   refine l_cons rfl (p_assign ?_)
   refine l_nil ?_
   refine k_seq_normal ?_
   refine w_ret ?_
   refine k_blk_ret ?_
   refine k_seq_ret ?_
   refine k_seq_ret ?_
   refine k_blk_ret ?_
   refine k_seq_ret ?_
   refine ret1b rfl ?_ <;> exact ex2 subx ⟨by rw [W4.less_at (by omega) hk2 (by unfold W4.has; simpa using h2')]; rfl, rfl⟩
  ·skip
   have h2' := h2; (try simp only [decide_eq_true_eq, decide_eq_false_iff_not, Bool.not_eq_true', Bool.not_false, Bool.not_true, Bool.not_eq_false'] at h2')
   refine w_skip ?_
   refine k_blk_normal ?_
   refine k_seq_normal ?_
   refine w_region ?_
   refine l_cons rfl (p_move ?_)
   refine l_cons rfl (p_arith ?_)
   refine l_cons rfl (p_assign ?_)
   refine l_nil ?_
   refine k_seq_normal ?_
   exact ⟨256 - (k + 1), by omega, k + 1, rfl, by omega, lt_succ_cases hk2 (by unfold W4.has; simpa using h2'), rfl, by simp only [Knows, put, upd_apply, Nat.reduceEqDiff, ↓reduceIte, and_true, true_and, eq_self] <;> and_intros <;> rfl⟩
 ·skip
  have h1' := h1; (try simp only [decide_eq_true_eq, decide_eq_false_iff_not, Bool.not_eq_true', Bool.not_false, Bool.not_true, Bool.not_eq_false'] at h1')
  refine w_exit ?_
  refine k_seq_exit ?_
  refine k_seq_exit ?_
  refine k_blk_here ?_
  refine k_seq_normal ?_
  refine w_seq ?_
  refine w_region ?_
  refine l_cons rfl (p_assign ?_)
  refine l_nil ?_
  refine k_seq_normal ?_
  refine w_ret ?_
  refine ret1b rfl ?_ <;> exact ex2 subx ⟨by rw [W4.less_no (fun j hj => hk2 j (by omega))], rfl⟩
theorem refCompare {w0 : World} : ∀ (B : Nat) (a b : Rx) (es : List Ent), a.nodes ≤ B → a.ok → b.ok → ACalls Tryd.prog w0 121 [.agg a.cells, .agg b.cells] es fun v es' => v = .int .i64 (a.cmp b) ∧ es' = es := by
 intro B
 induction B using Nat.strongRecOn with
 | _ B ih => ?_
 intro a b es hB ha hb
 rw [Rx.cells_eq a, Rx.cells_eq b]
 refine calls2 (N := 74) Tryd.func121 rfl rfl (by decide) ?_
 refine w_seq ?_
 refine w_region ?_
 refine l_cons rfl (p_box fun s2 => ?_)
 refine l_cons rfl (p_box fun s3 => ?_)
 refine l_cons rfl (p_assign ?_)
 refine l_nil ?_
 refine k_seq_normal ?_
 refine w_seq ?_
 refine w_seq ?_
 refine w_region ?_
 refine l_cons rfl (p_fap fa_29_0 ?_)
 refine l_cons rfl (p_loadp ty_3 ?_)
 refine l_cons rfl (p_fap fa_29_0 ?_)
 refine l_cons rfl (p_loadp ty_3 ?_)
 refine l_cons rfl (p_cmp ?_)
 refine l_nil ?_
 refine k_seq_normal ?_
 refine w_b (fun h1 => ?_) (fun h1 => ?_)
 ·skip
  have h1' := h1; (try simp only [decide_eq_true_eq, decide_eq_false_iff_not, Bool.not_eq_true', Bool.not_false, Bool.not_true, Bool.not_eq_false'] at h1')
  refine w_seq ?_
  refine w_seq ?_
  refine w_region ?_
  refine l_cons rfl (p_fap fa_29_0 ?_)
  refine l_cons rfl (p_loadp ty_3 ?_)
  refine l_cons rfl (p_fap fa_29_0 ?_)
  refine l_cons rfl (p_loadp ty_3 ?_)
  refine l_cons rfl (p_cmp ?_)
  refine l_nil ?_
  refine k_seq_normal ?_
  refine w_b (fun h2 => ?_) (fun h2 => ?_)
  ·skip
   have h2' := h2; (try simp only [decide_eq_true_eq, decide_eq_false_iff_not, Bool.not_eq_true', Bool.not_false, Bool.not_true, Bool.not_eq_false'] at h2')
   refine w_seq ?_
   refine w_region ?_
   refine l_cons rfl (p_assign ?_)
   refine l_nil ?_
   refine k_seq_normal ?_
   refine w_ret ?_
   refine k_seq_ret ?_
   refine k_seq_ret ?_
   refine ret1b rfl ?_ <;> exact ex2 subx ⟨by rw [cmp_kind2 (by simpa using h1'), if_pos (by omega)], rfl⟩
  ·skip
   have h2' := h2; (try simp only [decide_eq_true_eq, decide_eq_false_iff_not, Bool.not_eq_true', Bool.not_false, Bool.not_true, Bool.not_eq_false'] at h2')
   refine w_skip ?_
   refine k_seq_normal ?_
   refine w_seq ?_
   refine w_region ?_
   refine l_cons rfl (p_assign ?_)
   refine l_nil ?_
   refine k_seq_normal ?_
   refine w_ret ?_
   refine k_seq_ret ?_
   refine ret1b rfl ?_ <;> exact ex2 subx ⟨by rw [cmp_kind2 (by simpa using h1'), if_neg (by omega), if_pos (by omega)], rfl⟩
 ·skip
  have h1' := h1; (try simp only [decide_eq_true_eq, decide_eq_false_iff_not, Bool.not_eq_true', Bool.not_false, Bool.not_true, Bool.not_eq_false'] at h1')
  refine w_skip ?_
  refine k_seq_normal ?_
  refine w_seq ?_
  refine w_seq ?_
  refine w_region ?_
  refine l_cons rfl (p_fap fa_29_0 ?_)
  refine l_cons rfl (p_loadp ty_3 ?_)
  refine l_cons rfl (p_cmp ?_)
  refine l_cons rfl (p_move ?_)
  refine g_b rfl (fun h3 => ?_) (fun h3 => ?_)
  ·skip
   have h3' := h3; (try simp only [decide_eq_true_eq, decide_eq_false_iff_not, Bool.not_eq_true', Bool.not_false, Bool.not_true, Bool.not_eq_false'] at h3')
   refine (p_fap fa_29_1 ?_)
   refine g_y rfl h3 (p_loadp ty_26 ?_)
   refine g_y rfl h3 (p_fap fa_29_1 ?_)
   refine g_y rfl h3 (p_loadp ty_26 ?_)
   refine g_y rfl h3 (p_nea ai_26 ?_ (hb := neA a.set b.set))
   refine l_cons rfl (p_pickt h3 ?_)
   refine l_nil ?_
   refine k_seq_normal ?_
   refine w_b (fun h4 => ?_) (fun h4 => ?_)
   ·skip
    have h4' := h4; (try simp only [decide_eq_true_eq, decide_eq_false_iff_not, Bool.not_eq_true', Bool.not_false, Bool.not_true, Bool.not_eq_false'] at h4')
    refine w_seq ?_
    refine w_seq ?_
    refine w_region ?_
    refine l_cons rfl (p_fap fa_29_1 ?_)
    refine l_cons rfl (p_loadp ty_26 ?_)
    refine l_cons rfl (p_fap fa_29_1 ?_)
    refine l_cons rfl (p_loadp ty_26 ?_)
    refine l_cons rfl (p_callr en_148 (refLess_walk a.set b.set ha.set hb.set) ?_)
    refine l_nil ?_
    refine k_seq_normal ?_
    refine w_b (fun h5 => ?_) (fun h5 => ?_)
    ·skip
     have h5' := h5; (try simp only [decide_eq_true_eq, decide_eq_false_iff_not, Bool.not_eq_true', Bool.not_false, Bool.not_true, Bool.not_eq_false'] at h5')
     refine w_seq ?_
     refine w_region ?_
     refine l_cons rfl (p_assign ?_)
     refine l_nil ?_
     refine k_seq_normal ?_
     refine w_ret ?_
     refine k_seq_ret ?_
     refine k_seq_ret ?_
     refine ret1b rfl ?_ <;> exact ex2 subx ⟨by rw [cmp_set (by simpa using h1') (by omega) h4', if_pos (by assumption)], rfl⟩
    ·skip
     have h5' := h5; (try simp only [decide_eq_true_eq, decide_eq_false_iff_not, Bool.not_eq_true', Bool.not_false, Bool.not_true, Bool.not_eq_false'] at h5')
     refine w_skip ?_
     refine k_seq_normal ?_
     refine w_seq ?_
     refine w_region ?_
     refine l_cons rfl (p_assign ?_)
     refine l_nil ?_
     refine k_seq_normal ?_
     refine w_ret ?_
     refine k_seq_ret ?_
     refine ret1b rfl ?_ <;> exact ex2 subx ⟨by rw [cmp_set (by simpa using h1') (by omega) h4', if_neg (by simp_all)], rfl⟩
   ·skip
    have h4' := h4; (try simp only [decide_eq_true_eq, decide_eq_false_iff_not, Bool.not_eq_true', Bool.not_false, Bool.not_true, Bool.not_eq_false'] at h4')
    refine w_skip ?_
    refine k_seq_normal ?_
    refine w_seq ?_
    refine w_seq ?_
    have hargs : a.cmp b = Rx.cmpL a.args b.args := cmp_args (by simpa using h1') (by first | exact .inl (by omega) | exact .inr (by simp_all))
    refine w_region ?_
    refine l_cons rfl (p_assign ?_)
    refine l_nil ?_
    refine k_seq_normal ?_
    refine w_block ?_
    refine w_loop (fun q f es' => ∃ k, q = a.args.length - k ∧ k ≤ a.args.length ∧ k ≤ b.args.length ∧ Rx.cmpL a.args b.args = Rx.cmpL (a.args.drop k) (b.args.drop k) ∧ es' = .row s3 29 6 [[.int .i64 b.kind, .int .u64 b.set.w0, .int .u64 b.set.w1, .int .u64 b.set.w2, .int .u64 b.set.w3, .list 6 (b.args.map Rx.cells)]] :: .row s2 29 6 [[.int .i64 a.kind, .int .u64 a.set.w0, .int .u64 a.set.w1, .int .u64 a.set.w2, .int .u64 a.set.w3, .list 6 (a.args.map Rx.cells)]] :: es ∧ Knows f [(2, .ptr es.length s2 0 0), (3, .ptr (es.length + 1) s3 0 0), (5, .int .i64 k)]) (a.args.length) (⟨0, rfl, Nat.zero_le _, Nat.zero_le _, rfl, rfl, by simp only [Knows, put, upd_apply, Nat.reduceEqDiff, ↓reduceIte, and_true, true_and, eq_self] <;> and_intros <;> rfl⟩) ?_
    rintro q f es' ⟨k, rfl, hk1, hk2, hk3, rfl, hk⟩
    refine w_pins _ (Sub.refl _) (hk) ?_
    simp only [pins]
    refine w_seq ?_
    refine w_seq ?_
    refine w_region ?_
    refine l_cons rfl (p_move ?_)
    refine l_cons rfl (p_fap fa_29_2 ?_)
    refine l_cons rfl (p_loadp ty_27 ?_)
    refine l_len 34 fun hl => ?_
    simp only [List.length_map, most] at hl
    first | refine l_cons rfl (p_lenl sl_27 ?_) | refine l_cons rfl (p_leno sl_27 ?_) | refine l_cons rfl (p_lenn sl_27 ?_)
    refine l_cons rfl (p_cmp ?_)
    refine l_cons rfl (p_move ?_)
    refine g_b rfl (fun h6 => ?_) (fun h6 => ?_)
    ·skip
     have h6' := h6; (try simp only [decide_eq_true_eq, decide_eq_false_iff_not, Bool.not_eq_true', Bool.not_false, Bool.not_true, Bool.not_eq_false'] at h6')
     refine (p_move ?_)
     refine g_y rfl h6 (p_fap fa_29_2 ?_)
     refine g_y rfl h6 (p_loadp ty_27 ?_)
     first | refine g_y rfl h6 (p_lenl sl_27 ?_) | refine g_y rfl h6 (p_leno sl_27 ?_) | refine g_y rfl h6 (p_lenn sl_27 ?_)
     refine g_y rfl h6 (p_cmp ?_)
     refine l_cons rfl (p_pickt h6 ?_)
     refine l_nil ?_
     refine k_seq_normal ?_
     refine w_b (fun h7 => ?_) (fun h7 => ?_)
     ·skip
      have h7' := h7; (try simp only [decide_eq_true_eq, decide_eq_false_iff_not, Bool.not_eq_true', Bool.not_false, Bool.not_true, Bool.not_eq_false'] at h7')
      refine w_skip ?_
      refine k_seq_normal ?_
      refine w_seq ?_
      refine w_block ?_
      refine w_seq ?_
      refine w_drawn 10 [] (fun e => e = _) mixed (by kernel_rfl) rfl ?_
      refine q1 2 (hg := rfl) (hu := rfl) (h := by rintro f _ rfl; exact p_fap fa_29_2 ⟨rfl, rfl⟩) (k := ?_)
      refine q1 46 (hg := rfl) (hu := rfl) (h := by rintro f _ rfl; exact p_loadp ty_27 ⟨rfl, rfl⟩) (k := ?_)
      refine q1 5 (hg := rfl) (hu := rfl) (h := by rintro f _ rfl; exact p_move ⟨rfl, rfl⟩) (k := ?_)
      first | refine q2 47 48 (hg := rfl) (hu := rfl) (h := by rintro f _ rfl; exact p_ixl sl_27 ⟨rfl, rfl⟩) (k := ?_) | refine q2 47 48 (hg := rfl) (hu := rfl) (h := by rintro f _ rfl; exact p_ixo sl_27 ⟨rfl, rfl⟩) (k := ?_)
      first | refine q1 49 (hg := rfl) (hu := rfl) (h := by rintro f _ rfl; exact p_loadf ty_29 ⟨rfl, rfl⟩) (k := ?_) | refine q1 49 (hg := rfl) (hu := rfl) (h := by rintro f _ rfl; exact p_loadp ty_29 ⟨rfl, rfl⟩) (k := ?_)
      refine q1 3 (hg := rfl) (hu := rfl) (h := by rintro f _ rfl; exact p_fap fa_29_2 ⟨rfl, rfl⟩) (k := ?_)
      refine q1 51 (hg := rfl) (hu := rfl) (h := by rintro f _ rfl; exact p_loadp ty_27 ⟨rfl, rfl⟩) (k := ?_)
      refine q1 5 (hg := rfl) (hu := rfl) (h := by rintro f _ rfl; exact p_move ⟨rfl, rfl⟩) (k := ?_)
      first | refine q2 52 53 (hg := rfl) (hu := rfl) (h := by rintro f _ rfl; exact p_ixl sl_27 ⟨rfl, rfl⟩) (k := ?_) | refine q2 52 53 (hg := rfl) (hu := rfl) (h := by rintro f _ rfl; exact p_ixo sl_27 ⟨rfl, rfl⟩) (k := ?_)
      first | refine q1 54 (hg := rfl) (hu := rfl) (h := by rintro f _ rfl; exact p_loadf ty_29 ⟨rfl, rfl⟩) (k := ?_) | refine q1 54 (hg := rfl) (hu := rfl) (h := by rintro f _ rfl; exact p_loadp ty_29 ⟨rfl, rfl⟩) (k := ?_)
      refine q_end ?_
      refine m_end ?_
      refine l_cons rfl (p_callr en_121 (ih (B - 1) (by have := a.nodes_pos; omega) (a.args[k]'(by omega)) (b.args[k]'(by omega)) _ (by have := a.nodes_arg (k := k) (by omega); omega) (ha.arg (by omega)) (hb.arg (by omega))) ?_)
      refine l_cons rfl (p_assign ?_)
      refine l_nil ?_
      refine k_seq_normal ?_
      refine w_seq ?_
      refine w_region ?_
      refine l_cons rfl (p_move ?_)
      refine l_cons rfl (p_cmp ?_)
      refine l_nil ?_
      refine k_seq_normal ?_
      refine w_b (fun h8 => ?_) (fun h8 => ?_)
      ·skip
       have h8' := h8; (try simp only [decide_eq_true_eq, decide_eq_false_iff_not, Bool.not_eq_true', Bool.not_false, Bool.not_true, Bool.not_eq_false'] at h8')
       refine w_seq ?_
       refine w_region ?_
       refine l_cons rfl (p_move ?_)
       refine l_cons rfl (p_assign ?_)
       refine l_nil ?_
       refine k_seq_normal ?_
       refine w_ret ?_
       refine k_blk_ret ?_
       refine k_seq_ret ?_
       refine k_seq_ret ?_
       refine k_blk_ret ?_
       refine k_seq_ret ?_
       refine ret1b rfl ?_ <;> exact ex2 subx ⟨by rw [hargs, cmpL_hit (k := k) (by omega) (by omega) hk3 (by simp_all)], rfl⟩
      ·skip
       have h8' := h8; (try simp only [decide_eq_true_eq, decide_eq_false_iff_not, Bool.not_eq_true', Bool.not_false, Bool.not_true, Bool.not_eq_false'] at h8')
       refine w_skip ?_
       refine k_blk_normal ?_
       refine k_seq_normal ?_
       refine w_region ?_
       refine l_cons rfl (p_move ?_)
       refine l_cons rfl (p_arith ?_)
       refine l_cons rfl (p_assign ?_)
       refine l_nil ?_
       refine k_seq_normal ?_
       exact ⟨a.args.length - (k + 1), by omega, k + 1, rfl, by omega, by omega, cmpL_next (by omega) (by omega) hk3 (by simp_all), rfl, by simp only [Knows, put, upd_apply, Nat.reduceEqDiff, ↓reduceIte, and_true, true_and, eq_self] <;> and_intros <;> rfl⟩
     ·skip
      have h7' := h7; (try simp only [decide_eq_true_eq, decide_eq_false_iff_not, Bool.not_eq_true', Bool.not_false, Bool.not_true, Bool.not_eq_false'] at h7')
      refine w_exit ?_
      refine k_seq_exit ?_
      refine k_seq_exit ?_
      refine k_blk_here ?_
      refine k_seq_normal ?_
      refine w_seq ?_
      refine w_seq ?_
      refine w_region ?_
      refine l_cons rfl (p_fap fa_29_2 ?_)
      refine l_cons rfl (p_loadp ty_27 ?_)
      first | refine l_cons rfl (p_lenl sl_27 ?_) | refine l_cons rfl (p_leno sl_27 ?_) | refine l_cons rfl (p_lenn sl_27 ?_)
      refine l_cons rfl (p_fap fa_29_2 ?_)
      refine l_cons rfl (p_loadp ty_27 ?_)
      first | refine l_cons rfl (p_lenl sl_27 ?_) | refine l_cons rfl (p_leno sl_27 ?_) | refine l_cons rfl (p_lenn sl_27 ?_)
      refine l_cons rfl (p_cmp ?_)
      refine l_nil ?_
      refine k_seq_normal ?_
      refine w_b (fun h9 => ?_) (fun h9 => ?_)
      ·skip
       have h9' := h9; (try simp only [decide_eq_true_eq, decide_eq_false_iff_not, Bool.not_eq_true', Bool.not_false, Bool.not_true, Bool.not_eq_false'] at h9')
       refine w_seq ?_
       refine w_region ?_
       refine l_cons rfl (p_assign ?_)
       refine l_nil ?_
       refine k_seq_normal ?_
       refine w_ret ?_
       refine k_seq_ret ?_
       refine ret1b rfl ?_ <;> exact ex2 subx ⟨by rw [hargs, cmpL_at (k := k) hk1 hk2 hk3 (by omega), if_pos (by omega)], rfl⟩
      ·skip
       have h9' := h9; (try simp only [decide_eq_true_eq, decide_eq_false_iff_not, Bool.not_eq_true', Bool.not_false, Bool.not_true, Bool.not_eq_false'] at h9')
       refine w_skip ?_
       refine k_seq_normal ?_
       refine w_seq ?_
       refine w_seq ?_
       refine w_region ?_
       refine l_cons rfl (p_fap fa_29_2 ?_)
       refine l_cons rfl (p_loadp ty_27 ?_)
       first | refine l_cons rfl (p_lenl sl_27 ?_) | refine l_cons rfl (p_leno sl_27 ?_) | refine l_cons rfl (p_lenn sl_27 ?_)
       refine l_cons rfl (p_fap fa_29_2 ?_)
       refine l_cons rfl (p_loadp ty_27 ?_)
       first | refine l_cons rfl (p_lenl sl_27 ?_) | refine l_cons rfl (p_leno sl_27 ?_) | refine l_cons rfl (p_lenn sl_27 ?_)
       refine l_cons rfl (p_cmp ?_)
       refine l_nil ?_
       refine k_seq_normal ?_
       refine w_b (fun h10 => ?_) (fun h10 => ?_)
       ·skip
        have h10' := h10; (try simp only [decide_eq_true_eq, decide_eq_false_iff_not, Bool.not_eq_true', Bool.not_false, Bool.not_true, Bool.not_eq_false'] at h10')
        refine w_seq ?_
        refine w_region ?_
        refine l_cons rfl (p_assign ?_)
        refine l_nil ?_
        refine k_seq_normal ?_
        refine w_ret ?_
        refine k_seq_ret ?_
        refine ret1b rfl ?_ <;> exact ex2 subx ⟨by rw [hargs, cmpL_at (k := k) hk1 hk2 hk3 (by omega), if_neg (by omega), if_pos (by omega)], rfl⟩
       ·skip
        have h10' := h10; (try simp only [decide_eq_true_eq, decide_eq_false_iff_not, Bool.not_eq_true', Bool.not_false, Bool.not_true, Bool.not_eq_false'] at h10')
        refine w_skip ?_
        refine k_seq_normal ?_
        refine w_seq ?_
        refine w_region ?_
        refine l_cons rfl (p_assign ?_)
        refine l_nil ?_
        refine k_seq_normal ?_
        refine w_ret ?_
        refine ret1b rfl ?_ <;> exact ex2 subx ⟨by rw [hargs, cmpL_at (k := k) hk1 hk2 hk3 (by omega), if_neg (by omega), if_neg (by omega)], rfl⟩
    ·skip
     have h6' := h6; (try simp only [decide_eq_true_eq, decide_eq_false_iff_not, Bool.not_eq_true', Bool.not_false, Bool.not_true, Bool.not_eq_false'] at h6')
     refine g_n rfl h6 ?_
     refine g_n rfl h6 ?_
     refine g_n rfl h6 ?_
     refine g_n rfl h6 ?_
     refine l_cons rfl (p_pickf h6 ?_)
     refine l_nil ?_
     refine k_seq_normal ?_
     refine w_f rfl ?_
     refine w_exit ?_
     refine k_seq_exit ?_
     refine k_seq_exit ?_
     refine k_blk_here ?_
     refine k_seq_normal ?_
     refine w_seq ?_
     refine w_seq ?_
     refine w_region ?_
     refine l_cons rfl (p_fap fa_29_2 ?_)
     refine l_cons rfl (p_loadp ty_27 ?_)
     first | refine l_cons rfl (p_lenl sl_27 ?_) | refine l_cons rfl (p_leno sl_27 ?_) | refine l_cons rfl (p_lenn sl_27 ?_)
     refine l_cons rfl (p_fap fa_29_2 ?_)
     refine l_cons rfl (p_loadp ty_27 ?_)
     first | refine l_cons rfl (p_lenl sl_27 ?_) | refine l_cons rfl (p_leno sl_27 ?_) | refine l_cons rfl (p_lenn sl_27 ?_)
     refine l_cons rfl (p_cmp ?_)
     refine l_nil ?_
     refine k_seq_normal ?_
     refine w_b (fun h11 => ?_) (fun h11 => ?_)
     ·skip
      have h11' := h11; (try simp only [decide_eq_true_eq, decide_eq_false_iff_not, Bool.not_eq_true', Bool.not_false, Bool.not_true, Bool.not_eq_false'] at h11')
      refine w_seq ?_
      refine w_region ?_
      refine l_cons rfl (p_assign ?_)
      refine l_nil ?_
      refine k_seq_normal ?_
      refine w_ret ?_
      refine k_seq_ret ?_
      refine ret1b rfl ?_ <;> exact ex2 subx ⟨by rw [hargs, cmpL_at (k := k) hk1 hk2 hk3 (by omega), if_pos (by omega)], rfl⟩
     ·skip
      have h11' := h11; (try simp only [decide_eq_true_eq, decide_eq_false_iff_not, Bool.not_eq_true', Bool.not_false, Bool.not_true, Bool.not_eq_false'] at h11')
      refine w_skip ?_
      refine k_seq_normal ?_
      refine w_seq ?_
      refine w_seq ?_
      refine w_region ?_
      refine l_cons rfl (p_fap fa_29_2 ?_)
      refine l_cons rfl (p_loadp ty_27 ?_)
      first | refine l_cons rfl (p_lenl sl_27 ?_) | refine l_cons rfl (p_leno sl_27 ?_) | refine l_cons rfl (p_lenn sl_27 ?_)
      refine l_cons rfl (p_fap fa_29_2 ?_)
      refine l_cons rfl (p_loadp ty_27 ?_)
      first | refine l_cons rfl (p_lenl sl_27 ?_) | refine l_cons rfl (p_leno sl_27 ?_) | refine l_cons rfl (p_lenn sl_27 ?_)
      refine l_cons rfl (p_cmp ?_)
      refine l_nil ?_
      refine k_seq_normal ?_
      refine w_b (fun h12 => ?_) (fun h12 => ?_)
      ·skip
       have h12' := h12; (try simp only [decide_eq_true_eq, decide_eq_false_iff_not, Bool.not_eq_true', Bool.not_false, Bool.not_true, Bool.not_eq_false'] at h12')
       refine w_seq ?_
       refine w_region ?_
       refine l_cons rfl (p_assign ?_)
       refine l_nil ?_
       refine k_seq_normal ?_
       refine w_ret ?_
       refine k_seq_ret ?_
       refine ret1b rfl ?_ <;> exact ex2 subx ⟨by rw [hargs, cmpL_at (k := k) hk1 hk2 hk3 (by omega), if_neg (by omega), if_pos (by omega)], rfl⟩
      ·skip
       have h12' := h12; (try simp only [decide_eq_true_eq, decide_eq_false_iff_not, Bool.not_eq_true', Bool.not_false, Bool.not_true, Bool.not_eq_false'] at h12')
       refine w_skip ?_
       refine k_seq_normal ?_
       refine w_seq ?_
       refine w_region ?_
       refine l_cons rfl (p_assign ?_)
       refine l_nil ?_
       refine k_seq_normal ?_
       refine w_ret ?_
       refine ret1b rfl ?_ <;> exact ex2 subx ⟨by rw [hargs, cmpL_at (k := k) hk1 hk2 hk3 (by omega), if_neg (by omega), if_neg (by omega)], rfl⟩
  ·skip
   have h3' := h3; (try simp only [decide_eq_true_eq, decide_eq_false_iff_not, Bool.not_eq_true', Bool.not_false, Bool.not_true, Bool.not_eq_false'] at h3')
   refine g_n rfl h3 ?_
   refine g_n rfl h3 ?_
   refine g_n rfl h3 ?_
   refine g_n rfl h3 ?_
   refine l_cons rfl (p_pickf h3 ?_)
   refine l_nil ?_
   refine k_seq_normal ?_
   refine w_f rfl ?_
   refine w_skip ?_
   refine k_seq_normal ?_
   refine w_seq ?_
   refine w_seq ?_
   have hargs : a.cmp b = Rx.cmpL a.args b.args := cmp_args (by simpa using h1') (by first | exact .inl (by omega) | exact .inr (by simp_all))
   refine w_region ?_
   refine l_cons rfl (p_assign ?_)
   refine l_nil ?_
   refine k_seq_normal ?_
   refine w_block ?_
   refine w_loop (fun q f es' => ∃ k, q = a.args.length - k ∧ k ≤ a.args.length ∧ k ≤ b.args.length ∧ Rx.cmpL a.args b.args = Rx.cmpL (a.args.drop k) (b.args.drop k) ∧ es' = .row s3 29 6 [[.int .i64 b.kind, .int .u64 b.set.w0, .int .u64 b.set.w1, .int .u64 b.set.w2, .int .u64 b.set.w3, .list 6 (b.args.map Rx.cells)]] :: .row s2 29 6 [[.int .i64 a.kind, .int .u64 a.set.w0, .int .u64 a.set.w1, .int .u64 a.set.w2, .int .u64 a.set.w3, .list 6 (a.args.map Rx.cells)]] :: es ∧ Knows f [(2, .ptr es.length s2 0 0), (3, .ptr (es.length + 1) s3 0 0), (5, .int .i64 k)]) (a.args.length) (⟨0, rfl, Nat.zero_le _, Nat.zero_le _, rfl, rfl, by simp only [Knows, put, upd_apply, Nat.reduceEqDiff, ↓reduceIte, and_true, true_and, eq_self] <;> and_intros <;> rfl⟩) ?_
   rintro q f es' ⟨k, rfl, hk1, hk2, hk3, rfl, hk⟩
   refine w_pins _ (Sub.refl _) (hk) ?_
   simp only [pins]
   refine w_seq ?_
   refine w_seq ?_
   refine w_region ?_
   refine l_cons rfl (p_move ?_)
   refine l_cons rfl (p_fap fa_29_2 ?_)
   refine l_cons rfl (p_loadp ty_27 ?_)
   refine l_len 34 fun hl => ?_
   simp only [List.length_map, most] at hl
   first | refine l_cons rfl (p_lenl sl_27 ?_) | refine l_cons rfl (p_leno sl_27 ?_) | refine l_cons rfl (p_lenn sl_27 ?_)
   refine l_cons rfl (p_cmp ?_)
   refine l_cons rfl (p_move ?_)
   refine g_b rfl (fun h13 => ?_) (fun h13 => ?_)
   ·skip
    have h13' := h13; (try simp only [decide_eq_true_eq, decide_eq_false_iff_not, Bool.not_eq_true', Bool.not_false, Bool.not_true, Bool.not_eq_false'] at h13')
    refine (p_move ?_)
    refine g_y rfl h13 (p_fap fa_29_2 ?_)
    refine g_y rfl h13 (p_loadp ty_27 ?_)
    first | refine g_y rfl h13 (p_lenl sl_27 ?_) | refine g_y rfl h13 (p_leno sl_27 ?_) | refine g_y rfl h13 (p_lenn sl_27 ?_)
    refine g_y rfl h13 (p_cmp ?_)
    refine l_cons rfl (p_pickt h13 ?_)
    refine l_nil ?_
    refine k_seq_normal ?_
    refine w_b (fun h14 => ?_) (fun h14 => ?_)
    ·skip
     have h14' := h14; (try simp only [decide_eq_true_eq, decide_eq_false_iff_not, Bool.not_eq_true', Bool.not_false, Bool.not_true, Bool.not_eq_false'] at h14')
     refine w_skip ?_
     refine k_seq_normal ?_
     refine w_seq ?_
     refine w_block ?_
     refine w_seq ?_
     refine w_drawn 10 [] (fun e => e = _) mixed (by kernel_rfl) rfl ?_
     refine q1 2 (hg := rfl) (hu := rfl) (h := by rintro f _ rfl; exact p_fap fa_29_2 ⟨rfl, rfl⟩) (k := ?_)
     refine q1 46 (hg := rfl) (hu := rfl) (h := by rintro f _ rfl; exact p_loadp ty_27 ⟨rfl, rfl⟩) (k := ?_)
     refine q1 5 (hg := rfl) (hu := rfl) (h := by rintro f _ rfl; exact p_move ⟨rfl, rfl⟩) (k := ?_)
     first | refine q2 47 48 (hg := rfl) (hu := rfl) (h := by rintro f _ rfl; exact p_ixl sl_27 ⟨rfl, rfl⟩) (k := ?_) | refine q2 47 48 (hg := rfl) (hu := rfl) (h := by rintro f _ rfl; exact p_ixo sl_27 ⟨rfl, rfl⟩) (k := ?_)
     first | refine q1 49 (hg := rfl) (hu := rfl) (h := by rintro f _ rfl; exact p_loadf ty_29 ⟨rfl, rfl⟩) (k := ?_) | refine q1 49 (hg := rfl) (hu := rfl) (h := by rintro f _ rfl; exact p_loadp ty_29 ⟨rfl, rfl⟩) (k := ?_)
     refine q1 3 (hg := rfl) (hu := rfl) (h := by rintro f _ rfl; exact p_fap fa_29_2 ⟨rfl, rfl⟩) (k := ?_)
     refine q1 51 (hg := rfl) (hu := rfl) (h := by rintro f _ rfl; exact p_loadp ty_27 ⟨rfl, rfl⟩) (k := ?_)
     refine q1 5 (hg := rfl) (hu := rfl) (h := by rintro f _ rfl; exact p_move ⟨rfl, rfl⟩) (k := ?_)
     first | refine q2 52 53 (hg := rfl) (hu := rfl) (h := by rintro f _ rfl; exact p_ixl sl_27 ⟨rfl, rfl⟩) (k := ?_) | refine q2 52 53 (hg := rfl) (hu := rfl) (h := by rintro f _ rfl; exact p_ixo sl_27 ⟨rfl, rfl⟩) (k := ?_)
     first | refine q1 54 (hg := rfl) (hu := rfl) (h := by rintro f _ rfl; exact p_loadf ty_29 ⟨rfl, rfl⟩) (k := ?_) | refine q1 54 (hg := rfl) (hu := rfl) (h := by rintro f _ rfl; exact p_loadp ty_29 ⟨rfl, rfl⟩) (k := ?_)
     refine q_end ?_
     refine m_end ?_
     refine l_cons rfl (p_callr en_121 (ih (B - 1) (by have := a.nodes_pos; omega) (a.args[k]'(by omega)) (b.args[k]'(by omega)) _ (by have := a.nodes_arg (k := k) (by omega); omega) (ha.arg (by omega)) (hb.arg (by omega))) ?_)
     refine l_cons rfl (p_assign ?_)
     refine l_nil ?_
     refine k_seq_normal ?_
     refine w_seq ?_
     refine w_region ?_
     refine l_cons rfl (p_move ?_)
     refine l_cons rfl (p_cmp ?_)
     refine l_nil ?_
     refine k_seq_normal ?_
     refine w_b (fun h15 => ?_) (fun h15 => ?_)
     ·skip
      have h15' := h15; (try simp only [decide_eq_true_eq, decide_eq_false_iff_not, Bool.not_eq_true', Bool.not_false, Bool.not_true, Bool.not_eq_false'] at h15')
      refine w_seq ?_
      refine w_region ?_
      refine l_cons rfl (p_move ?_)
      refine l_cons rfl (p_assign ?_)
      refine l_nil ?_
      refine k_seq_normal ?_
      refine w_ret ?_
      refine k_blk_ret ?_
      refine k_seq_ret ?_
      refine k_seq_ret ?_
      refine k_blk_ret ?_
      refine k_seq_ret ?_
      refine ret1b rfl ?_ <;> exact ex2 subx ⟨by rw [hargs, cmpL_hit (k := k) (by omega) (by omega) hk3 (by simp_all)], rfl⟩
     ·skip
      have h15' := h15; (try simp only [decide_eq_true_eq, decide_eq_false_iff_not, Bool.not_eq_true', Bool.not_false, Bool.not_true, Bool.not_eq_false'] at h15')
      refine w_skip ?_
      refine k_blk_normal ?_
      refine k_seq_normal ?_
      refine w_region ?_
      refine l_cons rfl (p_move ?_)
      refine l_cons rfl (p_arith ?_)
      refine l_cons rfl (p_assign ?_)
      refine l_nil ?_
      refine k_seq_normal ?_
      exact ⟨a.args.length - (k + 1), by omega, k + 1, rfl, by omega, by omega, cmpL_next (by omega) (by omega) hk3 (by simp_all), rfl, by simp only [Knows, put, upd_apply, Nat.reduceEqDiff, ↓reduceIte, and_true, true_and, eq_self] <;> and_intros <;> rfl⟩
    ·skip
     have h14' := h14; (try simp only [decide_eq_true_eq, decide_eq_false_iff_not, Bool.not_eq_true', Bool.not_false, Bool.not_true, Bool.not_eq_false'] at h14')
     refine w_exit ?_
     refine k_seq_exit ?_
     refine k_seq_exit ?_
     refine k_blk_here ?_
     refine k_seq_normal ?_
     refine w_seq ?_
     refine w_seq ?_
     refine w_region ?_
     refine l_cons rfl (p_fap fa_29_2 ?_)
     refine l_cons rfl (p_loadp ty_27 ?_)
     first | refine l_cons rfl (p_lenl sl_27 ?_) | refine l_cons rfl (p_leno sl_27 ?_) | refine l_cons rfl (p_lenn sl_27 ?_)
     refine l_cons rfl (p_fap fa_29_2 ?_)
     refine l_cons rfl (p_loadp ty_27 ?_)
     first | refine l_cons rfl (p_lenl sl_27 ?_) | refine l_cons rfl (p_leno sl_27 ?_) | refine l_cons rfl (p_lenn sl_27 ?_)
     refine l_cons rfl (p_cmp ?_)
     refine l_nil ?_
     refine k_seq_normal ?_
     refine w_b (fun h16 => ?_) (fun h16 => ?_)
     ·skip
      have h16' := h16; (try simp only [decide_eq_true_eq, decide_eq_false_iff_not, Bool.not_eq_true', Bool.not_false, Bool.not_true, Bool.not_eq_false'] at h16')
      refine w_seq ?_
      refine w_region ?_
      refine l_cons rfl (p_assign ?_)
      refine l_nil ?_
      refine k_seq_normal ?_
      refine w_ret ?_
      refine k_seq_ret ?_
      refine ret1b rfl ?_ <;> exact ex2 subx ⟨by rw [hargs, cmpL_at (k := k) hk1 hk2 hk3 (by omega), if_pos (by omega)], rfl⟩
     ·skip
      have h16' := h16; (try simp only [decide_eq_true_eq, decide_eq_false_iff_not, Bool.not_eq_true', Bool.not_false, Bool.not_true, Bool.not_eq_false'] at h16')
      refine w_skip ?_
      refine k_seq_normal ?_
      refine w_seq ?_
      refine w_seq ?_
      refine w_region ?_
      refine l_cons rfl (p_fap fa_29_2 ?_)
      refine l_cons rfl (p_loadp ty_27 ?_)
      first | refine l_cons rfl (p_lenl sl_27 ?_) | refine l_cons rfl (p_leno sl_27 ?_) | refine l_cons rfl (p_lenn sl_27 ?_)
      refine l_cons rfl (p_fap fa_29_2 ?_)
      refine l_cons rfl (p_loadp ty_27 ?_)
      first | refine l_cons rfl (p_lenl sl_27 ?_) | refine l_cons rfl (p_leno sl_27 ?_) | refine l_cons rfl (p_lenn sl_27 ?_)
      refine l_cons rfl (p_cmp ?_)
      refine l_nil ?_
      refine k_seq_normal ?_
      refine w_b (fun h17 => ?_) (fun h17 => ?_)
      ·skip
       have h17' := h17; (try simp only [decide_eq_true_eq, decide_eq_false_iff_not, Bool.not_eq_true', Bool.not_false, Bool.not_true, Bool.not_eq_false'] at h17')
       refine w_seq ?_
       refine w_region ?_
       refine l_cons rfl (p_assign ?_)
       refine l_nil ?_
       refine k_seq_normal ?_
       refine w_ret ?_
       refine k_seq_ret ?_
       refine ret1b rfl ?_ <;> exact ex2 subx ⟨by rw [hargs, cmpL_at (k := k) hk1 hk2 hk3 (by omega), if_neg (by omega), if_pos (by omega)], rfl⟩
      ·skip
       have h17' := h17; (try simp only [decide_eq_true_eq, decide_eq_false_iff_not, Bool.not_eq_true', Bool.not_false, Bool.not_true, Bool.not_eq_false'] at h17')
       refine w_skip ?_
       refine k_seq_normal ?_
       refine w_seq ?_
       refine w_region ?_
       refine l_cons rfl (p_assign ?_)
       refine l_nil ?_
       refine k_seq_normal ?_
       refine w_ret ?_
       refine ret1b rfl ?_ <;> exact ex2 subx ⟨by rw [hargs, cmpL_at (k := k) hk1 hk2 hk3 (by omega), if_neg (by omega), if_neg (by omega)], rfl⟩
   ·skip
    have h13' := h13; (try simp only [decide_eq_true_eq, decide_eq_false_iff_not, Bool.not_eq_true', Bool.not_false, Bool.not_true, Bool.not_eq_false'] at h13')
    refine g_n rfl h13 ?_
    refine g_n rfl h13 ?_
    refine g_n rfl h13 ?_
    refine g_n rfl h13 ?_
    refine l_cons rfl (p_pickf h13 ?_)
    refine l_nil ?_
    refine k_seq_normal ?_
    refine w_f rfl ?_
    refine w_exit ?_
    refine k_seq_exit ?_
    refine k_seq_exit ?_
    refine k_blk_here ?_
    refine k_seq_normal ?_
    refine w_seq ?_
    refine w_seq ?_
    refine w_region ?_
    refine l_cons rfl (p_fap fa_29_2 ?_)
    refine l_cons rfl (p_loadp ty_27 ?_)
    first | refine l_cons rfl (p_lenl sl_27 ?_) | refine l_cons rfl (p_leno sl_27 ?_) | refine l_cons rfl (p_lenn sl_27 ?_)
    refine l_cons rfl (p_fap fa_29_2 ?_)
    refine l_cons rfl (p_loadp ty_27 ?_)
    first | refine l_cons rfl (p_lenl sl_27 ?_) | refine l_cons rfl (p_leno sl_27 ?_) | refine l_cons rfl (p_lenn sl_27 ?_)
    refine l_cons rfl (p_cmp ?_)
    refine l_nil ?_
    refine k_seq_normal ?_
    refine w_b (fun h18 => ?_) (fun h18 => ?_)
    ·skip
     have h18' := h18; (try simp only [decide_eq_true_eq, decide_eq_false_iff_not, Bool.not_eq_true', Bool.not_false, Bool.not_true, Bool.not_eq_false'] at h18')
     refine w_seq ?_
     refine w_region ?_
     refine l_cons rfl (p_assign ?_)
     refine l_nil ?_
     refine k_seq_normal ?_
     refine w_ret ?_
     refine k_seq_ret ?_
     refine ret1b rfl ?_ <;> exact ex2 subx ⟨by rw [hargs, cmpL_at (k := k) hk1 hk2 hk3 (by omega), if_pos (by omega)], rfl⟩
    ·skip
     have h18' := h18; (try simp only [decide_eq_true_eq, decide_eq_false_iff_not, Bool.not_eq_true', Bool.not_false, Bool.not_true, Bool.not_eq_false'] at h18')
     refine w_skip ?_
     refine k_seq_normal ?_
     refine w_seq ?_
     refine w_seq ?_
     refine w_region ?_
     refine l_cons rfl (p_fap fa_29_2 ?_)
     refine l_cons rfl (p_loadp ty_27 ?_)
     first | refine l_cons rfl (p_lenl sl_27 ?_) | refine l_cons rfl (p_leno sl_27 ?_) | refine l_cons rfl (p_lenn sl_27 ?_)
     refine l_cons rfl (p_fap fa_29_2 ?_)
     refine l_cons rfl (p_loadp ty_27 ?_)
     first | refine l_cons rfl (p_lenl sl_27 ?_) | refine l_cons rfl (p_leno sl_27 ?_) | refine l_cons rfl (p_lenn sl_27 ?_)
     refine l_cons rfl (p_cmp ?_)
     refine l_nil ?_
     refine k_seq_normal ?_
     refine w_b (fun h19 => ?_) (fun h19 => ?_)
     ·skip
      have h19' := h19; (try simp only [decide_eq_true_eq, decide_eq_false_iff_not, Bool.not_eq_true', Bool.not_false, Bool.not_true, Bool.not_eq_false'] at h19')
      refine w_seq ?_
      refine w_region ?_
      refine l_cons rfl (p_assign ?_)
      refine l_nil ?_
      refine k_seq_normal ?_
      refine w_ret ?_
      refine k_seq_ret ?_
      refine ret1b rfl ?_ <;> exact ex2 subx ⟨by rw [hargs, cmpL_at (k := k) hk1 hk2 hk3 (by omega), if_neg (by omega), if_pos (by omega)], rfl⟩
     ·skip
      have h19' := h19; (try simp only [decide_eq_true_eq, decide_eq_false_iff_not, Bool.not_eq_true', Bool.not_false, Bool.not_true, Bool.not_eq_false'] at h19')
      refine w_skip ?_
      refine k_seq_normal ?_
      refine w_seq ?_
      refine w_region ?_
      refine l_cons rfl (p_assign ?_)
      refine l_nil ?_
      refine k_seq_normal ?_
      refine w_ret ?_
      refine ret1b rfl ?_ <;> exact ex2 subx ⟨by rw [hargs, cmpL_at (k := k) hk1 hk2 hk3 (by omega), if_neg (by omega), if_neg (by omega)], rfl⟩
theorem refEqual {w0 : World} {es : List Ent} (a b : Rx) (ha : a.ok) (hb : b.ok) : ACalls Tryd.prog w0 122 [.agg a.cells, .agg b.cells] es fun v es' => v = .bool (decide (a.cmp b = 0)) ∧ es' = es := by
 refine calls2 (N := 9) Tryd.func122 rfl rfl (by decide) ?_
 refine w_seq ?_
 refine w_region ?_
 refine l_cons rfl (p_box fun s2 => ?_)
 refine l_cons rfl (p_box fun s3 => ?_)
 refine l_cons rfl (p_assign ?_)
 refine l_nil ?_
 refine k_seq_normal ?_
 refine w_seq ?_
 refine w_region ?_
 refine l_cons rfl (p_loadp ty_29 ?_)
 refine l_cons rfl (p_loadp ty_29 ?_)
 refine l_cons rfl (p_callr en_121 (refCompare _ a b _ (Nat.le_refl _) ha hb) ?_)
 refine l_cons rfl (p_cmp ?_)
 refine l_cons rfl (p_assign ?_)
 refine l_nil ?_
 refine k_seq_normal ?_
 refine w_ret ?_
 refine ret1b rfl ?_ <;> exact ex2 subx ⟨rfl, rfl⟩
end Go.Proofs.YtfdgbghlanbddaaDoor.Av
