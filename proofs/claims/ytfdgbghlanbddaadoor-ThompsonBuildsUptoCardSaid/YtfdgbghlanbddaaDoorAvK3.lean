import Derived.Test.YtfdgbghlanbddaaDoorAvK0
import Derived.Test.YtfdgbghlanbddaaDoorAvK1
import Derived.Test.YtfdgbghlanbddaaDoorAvK2
set_option linter.unusedVariables false
set_option linter.unusedSimpArgs false
set_option maxRecDepth 8000
namespace Go.Proofs.YtfdgbghlanbddaaDoor.Av
open Go.RowKit Go.Proofs
theorem Rx.cells_eq (r : Rx) : r.cells = [.int .i64 r.kind, .int .u64 r.set.w0, .int .u64 r.set.w1, .int .u64 r.set.w2, .int .u64 r.set.w3, .list 6 (r.args.map Rx.cells)] := by simp only [Rx.cells, Rx.rows_eq]
theorem Rx.ok.set {r : Rx} (h : r.ok) : r.set.ok := by cases r; simp only [Rx.ok] at h; exact h.2.1
theorem Rx.ok.args {r : Rx} (h : r.ok) : ∀ a ∈ r.args, a.ok := by cases r; simp only [Rx.ok] at h; exact (Rx.oks_iff _).1 h.2.2
theorem Rx.ok.arg {r : Rx} (h : r.ok) {k : Nat} (hk : k < r.args.length) : (r.args[k]).ok := h.args _ (List.getElem_mem hk)
theorem Rx.nodes_eq (r : Rx) : r.nodes = 1 + Rx.nodesL r.args := by cases r; simp only [Rx.nodes, Rx.args]
theorem Rx.nodes_arg (r : Rx) {k : Nat} (hk : k < r.args.length) : (r.args[k]).nodes + 1 ≤ r.nodes := by
  have h1 := Rx.nodes_mem hk
  have h2 := r.nodes_eq
  omega
theorem wrap8 {n : Int} (h0 : 0 ≤ n) (h1 : n < 256) : IntKind.u8.wrap n = n := by
  have : IntKind.u8.wrap n = n % 256 := by simp [IntKind.wrap, IntKind.signed, IntKind.bits]
  omega
theorem eqA (a b : W4) : (a.row.map valOf == b.row.map valOf) = decide (a = b) := by
  cases a; cases b
  rw [Bool.eq_iff_iff]
  simp [W4.row, valOf]
theorem neA (a b : W4) : (!(a.row.map valOf == b.row.map valOf)) = !decide (a = b) := by rw [eqA]
theorem drop_cons {α : Type} {l : List α} {k : Nat} (h : k < l.length) : l.drop k = l[k] :: l.drop (k + 1) := List.drop_eq_getElem_cons h
theorem cmpL_next {l m : List Rx} {k : Nat} (h1 : k < l.length) (h2 : k < m.length) (e : Rx.cmpL l m = Rx.cmpL (l.drop k) (m.drop k)) (h0 : l[k].cmp m[k] = 0) : Rx.cmpL l m = Rx.cmpL (l.drop (k + 1)) (m.drop (k + 1)) := by
  rw [e, drop_cons h1, drop_cons h2, Rx.cmpL, if_pos h0]
theorem cmpL_hit {l m : List Rx} {k : Nat} (h1 : k < l.length) (h2 : k < m.length) (e : Rx.cmpL l m = Rx.cmpL (l.drop k) (m.drop k)) (h0 : ¬ l[k].cmp m[k] = 0) : Rx.cmpL l m = l[k].cmp m[k] := by
  rw [e, drop_cons h1, drop_cons h2, Rx.cmpL, if_neg h0]
theorem cmpL_long {l m : List Rx} {k : Nat} (h1 : k < l.length) (h2 : m.length ≤ k) (e : Rx.cmpL l m = Rx.cmpL (l.drop k) (m.drop k)) : Rx.cmpL l m = 1 := by
  rw [e, drop_cons h1, List.drop_eq_nil_of_le h2]
  simp only [Rx.cmpL]
theorem cmpL_end {l m : List Rx} {k : Nat} (h1 : k = l.length) (h2 : k ≤ m.length) (e : Rx.cmpL l m = Rx.cmpL (l.drop k) (m.drop k)) : Rx.cmpL l m = if l.length < m.length then -1 else 0 := by
  subst h1
  rw [e, List.drop_eq_nil_of_le (Nat.le_refl _)]
  by_cases h : l.length < m.length
  · rw [if_pos h, drop_cons h]; simp only [Rx.cmpL]
  · rw [if_neg h, List.drop_eq_nil_of_le (by omega)]; simp only [Rx.cmpL]
theorem cmpL_at {l m : List Rx} {k : Nat} (h1 : k ≤ l.length) (h2 : k ≤ m.length) (e : Rx.cmpL l m = Rx.cmpL (l.drop k) (m.drop k)) (h : ¬ (k < l.length ∧ k < m.length)) : Rx.cmpL l m = if l.length < m.length then -1 else if m.length < l.length then 1 else 0 := by
  by_cases h3 : k = l.length
  · rw [cmpL_end h3 h2 e]
    split
    · rfl
    · rw [if_neg (by omega)]
  · rw [cmpL_long (k := k) (by omega) (by omega) e, if_neg (by omega), if_pos (by omega)]
theorem cmp_def (a b : Rx) : a.cmp b = if a.kind < b.kind then -1 else if b.kind < a.kind then 1 else if a.kind = 3 ∧ a.set ≠ b.set then (if a.set.less b.set = true then -1 else 1) else Rx.cmpL a.args b.args := by
  cases a; cases b
  rw [Rx.cmp]
  rfl
theorem cmp_kind {a b : Rx} (h : ¬ (if a.kind < b.kind then (-1 : Int) else if b.kind < a.kind then 1 else 0) = 0) : a.cmp b = if a.kind < b.kind then -1 else if b.kind < a.kind then 1 else 0 := by
  rw [cmp_def]
  by_cases h1 : a.kind < b.kind
  · rw [if_pos h1, if_pos h1]
  · rw [if_neg h1, if_neg h1]
    by_cases h2 : b.kind < a.kind
    · rw [if_pos h2, if_pos h2]
    · rw [if_neg h1, if_neg h2] at h; exact absurd rfl h
theorem cmp_kind2 {a b : Rx} (h : ¬ a.kind = b.kind) : a.cmp b = if a.kind < b.kind then -1 else if b.kind < a.kind then 1 else 0 := cmp_kind (by split <;> first | omega | (split <;> omega))
theorem cmp_kind0 {a b : Rx} (h : (if a.kind < b.kind then (-1 : Int) else if b.kind < a.kind then 1 else 0) = 0) : a.kind = b.kind := by
  split at h
  · omega
  · split at h <;> omega
theorem cmp_set {a b : Rx} (h : a.kind = b.kind) (h3 : a.kind = 3) (hs : ¬ a.set = b.set) : a.cmp b = if a.set.less b.set = true then -1 else 1 := by
  rw [cmp_def, if_neg (by omega), if_neg (by omega), if_pos ⟨h3, hs⟩]
theorem cmp_args {a b : Rx} (h : a.kind = b.kind) (h3 : ¬ a.kind = 3 ∨ a.set = b.set) : a.cmp b = Rx.cmpL a.args b.args := by
  rw [cmp_def, if_neg (by omega), if_neg (by omega), if_neg (fun e => h3.elim (fun x => x e.1) (fun x => e.2 x))]
theorem isSet_walk {w0 : World} {es : List Ent} (r : Rx) : ACalls Tryd.prog w0 133 [.agg r.cells] es fun v es' => v = .bool (decide (r.kind = 3)) ∧ es' = es := by
  rw [Rx.cells_eq r]
  refine calls1 (N := 6) Tryd.func133 rfl rfl (by decide) ?_
  refine w_seq ?_
  refine w_region ?_
  refine l_cons rfl (p_box fun s1 => ?_)
  refine l_cons rfl (p_assign ?_)
  refine l_nil ?_
  refine k_seq_normal ?_
  refine w_seq ?_
  refine w_region ?_
  refine l_cons rfl (p_fap fa_29_0 ?_)
  refine l_cons rfl (p_loadp ty_3 ?_)
  refine l_cons rfl (p_cmp ?_)
  refine l_cons rfl (p_assign ?_)
  refine l_nil ?_
  refine k_seq_normal ?_
  refine w_ret ?_
  exact ret1 rfl (by simp only [ev_tmp, ev_const, ev_func, ofConst_int, ofConst_bool, ofConst_str, ofConst_nil, upd_apply, Nat.reduceEqDiff, ↓reduceIte] <;> exact rfl) (by first | exact Sub.refl _ | exact sub1 _ _ | exact sub2 _ _ _ | exact sub3 _ _ _ _ | exact sub4 _ _ _ _ _ | exact sub5 _ _ _ _ _ _) ⟨rfl, rfl⟩
theorem compareFunc_walk {w0 : World} {es : List Ent} (l m : List Rx) (h : ∀ k (h1 : k < l.length) (h2 : k < m.length) es, ACalls Tryd.prog w0 136 [.agg l[k].cells, .agg m[k].cells] es fun v es' => v = .int .i64 (l[k].cmp m[k]) ∧ es' = es) : ACalls Tryd.prog w0 155 [.list 6 (l.map Rx.cells), .list 6 (m.map Rx.cells), .fn (.func 136) [] []] es fun v es' => v = .int .i64 (Rx.cmpL l m) ∧ es' = es := by
  refine calls3 (N := 39) Tryd.func155 rfl rfl (by decide) ?_
  refine w_seq ?_
  refine w_region ?_
  refine l_cons rfl (p_assign ?_)
  refine l_nil ?_
  refine k_seq_normal ?_
  refine w_seq ?_
  refine w_seq ?_
  refine w_len 0 fun hl => ?_
  rw [List.length_map] at hl
  refine w_len 1 fun hm => ?_
  rw [List.length_map] at hm
  simp only [most] at hl hm
  refine w_region ?_
  refine l_cons rfl (p_move ?_)
  refine l_cons rfl (p_lenl sl_27 ?_)
  refine l_cons rfl (p_move ?_)
  refine l_nil ?_
  refine k_seq_normal ?_
  refine w_block ?_
  refine w_loop (fun q f es' => ∃ k, q = l.length - k ∧ k ≤ l.length ∧ k ≤ m.length ∧ Rx.cmpL l m = Rx.cmpL (l.drop k) (m.drop k) ∧ Sub es es' ∧ Knows f [(0, .list 6 (l.map Rx.cells)), (1, .list 6 (m.map Rx.cells)), (2, .fn (.func 136) [] []), (11, .list 6 (l.map Rx.cells)), (12, .int .i64 l.length), (13, .int .i64 k)]) (l.length) (⟨0, rfl, Nat.zero_le _, Nat.zero_le _, rfl, Sub.refl _, by simp only [Knows, put, upd_apply, Nat.reduceEqDiff, ↓reduceIte, and_true, true_and, eq_self] <;> and_intros <;> rfl⟩) ?_
  rintro q f es' ⟨k, rfl, hk1, hk2, hk3, hsub, hk⟩
  refine w_pins _ hsub (hk) ?_
  simp only [pins]
  refine w_seq ?_
  refine w_region ?_
  refine l_cons rfl (p_cmp ?_)
  refine l_nil ?_
  refine k_seq_normal ?_
  refine w_seq ?_
  refine w_b (fun h1 => ?_) (fun h1 => ?_)
  · skip
    have h1' := h1; (try simp only [decide_eq_true_eq, decide_eq_false_iff_not, Bool.not_eq_true', Bool.not_false, Bool.not_true, Bool.not_eq_false'] at h1')
    refine w_skip ?_
    refine k_seq_normal ?_
    refine w_seq ?_
    refine w_block ?_
    refine w_seq ?_
    refine w_region ?_
    refine l_cons rfl (p_move ?_)
    refine l_cons rfl (p_ixl sl_27 ?_)
    refine l_cons rfl (p_loadf ty_29 ?_)
    refine l_cons rfl (p_alloc ze_29 fun s8 => ?_)
    refine l_cons rfl (p_assign ?_)
    refine l_cons rfl (p_store ty_29 ?_)
    refine l_nil ?_
    refine k_seq_normal ?_
    refine w_seq ?_
    refine w_seq ?_
    refine w_region ?_
    refine l_cons rfl (p_move ?_)
    refine l_cons rfl (p_move ?_)
    refine l_cons rfl (p_lenl sl_27 ?_)
    refine l_cons rfl (p_cmp ?_)
    refine l_nil ?_
    refine k_seq_normal ?_
    refine w_b (fun h2 => ?_) (fun h2 => ?_)
    · skip
      have h2' := h2; (try simp only [decide_eq_true_eq, decide_eq_false_iff_not, Bool.not_eq_true', Bool.not_false, Bool.not_true, Bool.not_eq_false'] at h2')
      refine w_seq ?_
      refine w_region ?_
      refine l_cons rfl (p_assign ?_)
      refine l_nil ?_
      refine k_seq_normal ?_
      refine w_ret ?_
      refine k_seq_ret ?_
      refine k_blk_ret ?_
      refine k_seq_ret ?_
      refine k_seq_ret ?_
      refine k_blk_ret ?_
      refine k_seq_ret ?_
      exact ret1 rfl (by simp only [ev_tmp, ev_const, ev_func, ofConst_int, ofConst_bool, ofConst_str, ofConst_nil, upd_apply, Nat.reduceEqDiff, ↓reduceIte] <;> exact rfl) (by first | exact Sub.refl _ | exact sub1 _ _ | exact sub2 _ _ _ | exact sub3 _ _ _ _ | exact sub4 _ _ _ _ _ | exact sub5 _ _ _ _ _ _) ⟨by rw [cmpL_long (k := k) (by omega) (by omega) hk3], rfl⟩
    · skip
      have h2' := h2; (try simp only [decide_eq_true_eq, decide_eq_false_iff_not, Bool.not_eq_true', Bool.not_false, Bool.not_true, Bool.not_eq_false'] at h2')
      refine w_skip ?_
      refine k_seq_normal ?_
      refine w_seq ?_
      refine w_region ?_
      refine l_cons rfl (p_move ?_)
      refine l_cons rfl (p_move ?_)
      refine l_cons rfl (p_ixl sl_27 ?_)
      refine l_cons rfl (p_loadf ty_29 ?_)
      refine l_cons rfl (p_alloc ze_29 fun s9 => ?_)
      refine l_cons rfl (p_store ty_29 ?_)
      refine l_nil ?_
      refine k_seq_normal ?_
      refine w_seq ?_
      refine w_region ?_
      refine l_cons rfl (p_move ?_)
      refine l_cons rfl (p_loadp ty_29 ?_)
      refine l_cons rfl (p_loadp ty_29 ?_)
      refine l_cons rfl (p_callr en_136 (h k (by omega) (by omega) _) ?_)
      refine l_cons rfl (p_assign ?_)
      refine l_nil ?_
      refine k_seq_normal ?_
      refine w_seq ?_
      refine w_region ?_
      refine l_cons rfl (p_move ?_)
      refine l_cons rfl (p_cmp ?_)
      refine l_nil ?_
      refine k_seq_normal ?_
      refine w_b (fun h3 => ?_) (fun h3 => ?_)
      · skip
        have h3' := h3; (try simp only [decide_eq_true_eq, decide_eq_false_iff_not, Bool.not_eq_true', Bool.not_false, Bool.not_true, Bool.not_eq_false'] at h3')
        refine w_seq ?_
        refine w_region ?_
        refine l_cons rfl (p_move ?_)
        refine l_cons rfl (p_assign ?_)
        refine l_nil ?_
        refine k_seq_normal ?_
        refine w_ret ?_
        refine k_blk_ret ?_
        refine k_seq_ret ?_
        refine k_seq_ret ?_
        refine k_blk_ret ?_
        refine k_seq_ret ?_
        exact ret1 rfl (by simp only [ev_tmp, ev_const, ev_func, ofConst_int, ofConst_bool, ofConst_str, ofConst_nil, upd_apply, Nat.reduceEqDiff, ↓reduceIte] <;> exact rfl) (by first | exact Sub.refl _ | exact sub1 _ _ | exact sub2 _ _ _ | exact sub3 _ _ _ _ | exact sub4 _ _ _ _ _ | exact sub5 _ _ _ _ _ _) ⟨by rw [cmpL_hit (k := k) (by omega) (by omega) hk3 (by simpa using h3')], rfl⟩
      · skip
        have h3' := h3; (try simp only [decide_eq_true_eq, decide_eq_false_iff_not, Bool.not_eq_true', Bool.not_false, Bool.not_true, Bool.not_eq_false'] at h3')
        refine w_skip ?_
        refine k_blk_normal ?_
        refine k_seq_normal ?_
        refine w_region ?_
        refine l_cons rfl (p_arith ?_)
        refine l_cons rfl (p_move ?_)
        refine l_nil ?_
        refine k_seq_normal ?_
        exact ⟨l.length - (k + 1), by omega, k + 1, rfl, by omega, by omega, cmpL_next (by omega) (by omega) hk3 (by simpa using h3'), (by first | exact sub2 _ _ _ | exact Sub.refl _), by simp only [Knows, put, upd_apply, Nat.reduceEqDiff, ↓reduceIte, and_true, true_and, eq_self] <;> and_intros <;> rfl⟩
  · skip
    have h1' := h1; (try simp only [decide_eq_true_eq, decide_eq_false_iff_not, Bool.not_eq_true', Bool.not_false, Bool.not_true, Bool.not_eq_false'] at h1')
    refine w_exit ?_
    refine k_seq_exit ?_
    refine k_seq_exit ?_
    refine k_blk_here ?_
    refine k_seq_normal ?_
    refine w_seq ?_
    refine w_seq ?_
    refine w_region ?_
    refine l_cons rfl (p_move ?_)
    refine l_cons rfl (p_lenl sl_27 ?_)
    refine l_cons rfl (p_move ?_)
    refine l_cons rfl (p_lenl sl_27 ?_)
    refine l_cons rfl (p_cmp ?_)
    refine l_nil ?_
    refine k_seq_normal ?_
    refine w_b (fun h4 => ?_) (fun h4 => ?_)
    · skip
      have h4' := h4; (try simp only [decide_eq_true_eq, decide_eq_false_iff_not, Bool.not_eq_true', Bool.not_false, Bool.not_true, Bool.not_eq_false'] at h4')
      refine w_seq ?_
      refine w_region ?_
      refine l_cons rfl (p_assign ?_)
      refine l_nil ?_
      refine k_seq_normal ?_
      refine w_ret ?_
      refine k_seq_ret ?_
      exact ret1 rfl (by simp only [ev_tmp, ev_const, ev_func, ofConst_int, ofConst_bool, ofConst_str, ofConst_nil, upd_apply, Nat.reduceEqDiff, ↓reduceIte] <;> exact rfl) (by first | exact Sub.refl _ | exact sub1 _ _ | exact sub2 _ _ _ | exact sub3 _ _ _ _ | exact sub4 _ _ _ _ _ | exact sub5 _ _ _ _ _ _) ⟨by rw [cmpL_end (k := k) (by omega) (by omega) hk3, if_pos (by omega)], rfl⟩
    · skip
      have h4' := h4; (try simp only [decide_eq_true_eq, decide_eq_false_iff_not, Bool.not_eq_true', Bool.not_false, Bool.not_true, Bool.not_eq_false'] at h4')
      refine w_skip ?_
      refine k_seq_normal ?_
      refine w_seq ?_
      refine w_region ?_
      refine l_cons rfl (p_assign ?_)
      refine l_nil ?_
      refine k_seq_normal ?_
      refine w_ret ?_
      exact ret1 rfl (by simp only [ev_tmp, ev_const, ev_func, ofConst_int, ofConst_bool, ofConst_str, ofConst_nil, upd_apply, Nat.reduceEqDiff, ↓reduceIte] <;> exact rfl) (by first | exact Sub.refl _ | exact sub1 _ _ | exact sub2 _ _ _ | exact sub3 _ _ _ _ | exact sub4 _ _ _ _ _ | exact sub5 _ _ _ _ _ _) ⟨by rw [cmpL_end (k := k) (by omega) (by omega) hk3, if_neg (by omega)], rfl⟩
theorem rxCompare {w0 : World} (hT : Tab w0) : ∀ (B : Nat) (a b : Rx) (es : List Ent), a.nodes ≤ B → a.ok → b.ok → ACalls Tryd.prog w0 136 [.agg a.cells, .agg b.cells] es fun v es' => v = .int .i64 (a.cmp b) ∧ es' = es := by
  intro B
  induction B using Nat.strongRecOn with
  | _ B ih => ?_
  intro a b es hB ha hb
  rw [Rx.cells_eq a, Rx.cells_eq b]
  refine calls2 (N := 34) Tryd.func136 rfl rfl (by decide) ?_
  refine w_seq ?_
  refine w_region ?_
  refine l_cons rfl (p_box fun s2 => ?_)
  refine l_cons rfl (p_box fun s3 => ?_)
  refine l_cons rfl (p_assign ?_)
  refine l_nil ?_
  refine k_seq_normal ?_
  refine w_seq ?_
  refine w_seq ?_
  refine w_region ?_
  refine l_cons rfl (p_fap fa_29_0 ?_)
  refine l_cons rfl (p_loadp ty_3 ?_)
  refine l_cons rfl (p_fap fa_29_0 ?_)
  refine l_cons rfl (p_loadp ty_3 ?_)
  refine l_cons rfl (p_callr en_153 (cmpInt_walk _ _) ?_)
  refine l_cons rfl (p_assign ?_)
  refine l_nil ?_
  refine k_seq_normal ?_
  refine w_seq ?_
  refine w_region ?_
  refine l_cons rfl (p_move ?_)
  refine l_cons rfl (p_cmp ?_)
  refine l_nil ?_
  refine k_seq_normal ?_
  refine w_b (fun h1 => ?_) (fun h1 => ?_)
  · skip
    have h1' := h1; (try simp only [decide_eq_true_eq, decide_eq_false_iff_not, Bool.not_eq_true', Bool.not_false, Bool.not_true, Bool.not_eq_false'] at h1')
    refine w_seq ?_
    refine w_region ?_
    refine l_cons rfl (p_move ?_)
    refine l_cons rfl (p_assign ?_)
    refine l_nil ?_
    refine k_seq_normal ?_
    refine w_ret ?_
    refine k_seq_ret ?_
    exact ret1 rfl (by simp only [ev_tmp, ev_const, ev_func, ofConst_int, ofConst_bool, ofConst_str, ofConst_nil, upd_apply, Nat.reduceEqDiff, ↓reduceIte] <;> exact rfl) (by first | exact Sub.refl _ | exact sub1 _ _ | exact sub2 _ _ _ | exact sub3 _ _ _ _ | exact sub4 _ _ _ _ _ | exact sub5 _ _ _ _ _ _) ⟨by rw [cmp_kind (by simpa using h1')], rfl⟩
  · skip
    have h1' := h1; (try simp only [decide_eq_true_eq, decide_eq_false_iff_not, Bool.not_eq_true', Bool.not_false, Bool.not_true, Bool.not_eq_false'] at h1')
    refine w_skip ?_
    refine k_seq_normal ?_
    refine w_seq ?_
    refine w_seq ?_
    refine w_region ?_
    refine l_cons rfl (p_fap fa_29_0 ?_)
    refine l_cons rfl (p_loadp ty_3 ?_)
    refine l_cons rfl (p_cmp ?_)
    refine l_cons rfl (p_move ?_)
    refine g_b rfl (fun h2 => ?_) (fun h2 => ?_)
    · skip
      have h2' := h2; (try simp only [decide_eq_true_eq, decide_eq_false_iff_not, Bool.not_eq_true', Bool.not_false, Bool.not_true, Bool.not_eq_false'] at h2')
      refine (p_fap fa_29_1 ?_)
      refine g_y rfl h2 (p_loadp ty_26 ?_)
      refine g_y rfl h2 (p_fap fa_29_1 ?_)
      refine g_y rfl h2 (p_loadp ty_26 ?_)
      refine g_y rfl h2 (p_nea ai_26 ?_ (hb := neA a.set b.set))
      refine l_cons rfl (p_pickt h2 ?_)
      refine l_nil ?_
      refine k_seq_normal ?_
      refine w_b (fun h3 => ?_) (fun h3 => ?_)
      · skip
        have h3' := h3; (try simp only [decide_eq_true_eq, decide_eq_false_iff_not, Bool.not_eq_true', Bool.not_false, Bool.not_true, Bool.not_eq_false'] at h3')
        refine w_seq ?_
        refine w_seq ?_
        refine w_region ?_
        refine l_cons rfl (p_fap fa_29_1 ?_)
        refine l_cons rfl (p_loadp ty_26 ?_)
        refine l_cons rfl (p_fap fa_29_1 ?_)
        refine l_cons rfl (p_loadp ty_26 ?_)
        refine l_cons rfl (p_callr en_154 (setLess_walk hT a.set b.set ha.set hb.set) ?_)
        refine l_nil ?_
        refine k_seq_normal ?_
        refine w_b (fun h4 => ?_) (fun h4 => ?_)
        · skip
          have h4' := h4; (try simp only [decide_eq_true_eq, decide_eq_false_iff_not, Bool.not_eq_true', Bool.not_false, Bool.not_true, Bool.not_eq_false'] at h4')
          refine w_seq ?_
          refine w_region ?_
          refine l_cons rfl (p_assign ?_)
          refine l_nil ?_
          refine k_seq_normal ?_
          refine w_ret ?_
          refine k_seq_ret ?_
          refine k_seq_ret ?_
          exact ret1 rfl (by simp only [ev_tmp, ev_const, ev_func, ofConst_int, ofConst_bool, ofConst_str, ofConst_nil, upd_apply, Nat.reduceEqDiff, ↓reduceIte] <;> exact rfl) (by first | exact Sub.refl _ | exact sub1 _ _ | exact sub2 _ _ _ | exact sub3 _ _ _ _ | exact sub4 _ _ _ _ _ | exact sub5 _ _ _ _ _ _) ⟨by rw [cmp_set (cmp_kind0 (by simpa using h1')) (by omega) h3', if_pos (by assumption)], rfl⟩
        · skip
          have h4' := h4; (try simp only [decide_eq_true_eq, decide_eq_false_iff_not, Bool.not_eq_true', Bool.not_false, Bool.not_true, Bool.not_eq_false'] at h4')
          refine w_skip ?_
          refine k_seq_normal ?_
          refine w_seq ?_
          refine w_region ?_
          refine l_cons rfl (p_assign ?_)
          refine l_nil ?_
          refine k_seq_normal ?_
          refine w_ret ?_
          refine k_seq_ret ?_
          exact ret1 rfl (by simp only [ev_tmp, ev_const, ev_func, ofConst_int, ofConst_bool, ofConst_str, ofConst_nil, upd_apply, Nat.reduceEqDiff, ↓reduceIte] <;> exact rfl) (by first | exact Sub.refl _ | exact sub1 _ _ | exact sub2 _ _ _ | exact sub3 _ _ _ _ | exact sub4 _ _ _ _ _ | exact sub5 _ _ _ _ _ _) ⟨by rw [cmp_set (cmp_kind0 (by simpa using h1')) (by omega) h3', if_neg (by simp_all)], rfl⟩
      · skip
        have h3' := h3; (try simp only [decide_eq_true_eq, decide_eq_false_iff_not, Bool.not_eq_true', Bool.not_false, Bool.not_true, Bool.not_eq_false'] at h3')
        refine w_skip ?_
        refine k_seq_normal ?_
        refine w_seq ?_
        refine w_region ?_
        refine l_cons rfl (p_fap fa_29_2 ?_)
        refine l_cons rfl (p_loadp ty_27 ?_)
        refine l_cons rfl (p_fap fa_29_2 ?_)
        refine l_cons rfl (p_loadp ty_27 ?_)
        refine l_cons rfl (p_callr en_155 (compareFunc_walk a.args b.args fun k h1 h2 es => ih (B - 1) (by have := a.nodes_pos; omega) _ _ es (by have := a.nodes_arg h1; omega) (ha.arg h1) (hb.arg h2)) ?_)
        refine l_cons rfl (p_assign ?_)
        refine l_nil ?_
        refine k_seq_normal ?_
        refine w_ret ?_
        exact ret1 rfl (by simp only [ev_tmp, ev_const, ev_func, ofConst_int, ofConst_bool, ofConst_str, ofConst_nil, upd_apply, Nat.reduceEqDiff, ↓reduceIte] <;> exact rfl) (by first | exact Sub.refl _ | exact sub1 _ _ | exact sub2 _ _ _ | exact sub3 _ _ _ _ | exact sub4 _ _ _ _ _ | exact sub5 _ _ _ _ _ _) ⟨by rw [cmp_args (cmp_kind0 (by simpa using h1')) (by first | exact .inl (by omega) | exact .inr (by simp_all))], rfl⟩
    · skip
      have h2' := h2; (try simp only [decide_eq_true_eq, decide_eq_false_iff_not, Bool.not_eq_true', Bool.not_false, Bool.not_true, Bool.not_eq_false'] at h2')
      refine g_n rfl h2 ?_
      refine g_n rfl h2 ?_
      refine g_n rfl h2 ?_
      refine g_n rfl h2 ?_
      refine l_cons rfl (p_pickf h2 ?_)
      refine l_nil ?_
      refine k_seq_normal ?_
      refine w_f rfl ?_
      refine w_skip ?_
      refine k_seq_normal ?_
      refine w_seq ?_
      refine w_region ?_
      refine l_cons rfl (p_fap fa_29_2 ?_)
      refine l_cons rfl (p_loadp ty_27 ?_)
      refine l_cons rfl (p_fap fa_29_2 ?_)
      refine l_cons rfl (p_loadp ty_27 ?_)
      refine l_cons rfl (p_callr en_155 (compareFunc_walk a.args b.args fun k h1 h2 es => ih (B - 1) (by have := a.nodes_pos; omega) _ _ es (by have := a.nodes_arg h1; omega) (ha.arg h1) (hb.arg h2)) ?_)
      refine l_cons rfl (p_assign ?_)
      refine l_nil ?_
      refine k_seq_normal ?_
      refine w_ret ?_
      exact ret1 rfl (by simp only [ev_tmp, ev_const, ev_func, ofConst_int, ofConst_bool, ofConst_str, ofConst_nil, upd_apply, Nat.reduceEqDiff, ↓reduceIte] <;> exact rfl) (by first | exact Sub.refl _ | exact sub1 _ _ | exact sub2 _ _ _ | exact sub3 _ _ _ _ | exact sub4 _ _ _ _ _ | exact sub5 _ _ _ _ _ _) ⟨by rw [cmp_args (cmp_kind0 (by simpa using h1')) (by first | exact .inl (by omega) | exact .inr (by simp_all))], rfl⟩
theorem refLess_walk {w0 : World} {es : List Ent} (a b : W4) (ha : a.ok) (hb : b.ok) : ACalls Tryd.prog w0 148 [.agg a.row, .agg b.row] es fun v es' => v = .bool (a.less b) ∧ es' = es := by
  unfold W4.row
  refine calls2 (N := 23) Tryd.func148 rfl rfl (by decide) ?_
  refine w_seq ?_
  refine w_region ?_
  refine l_cons rfl (p_box fun s2 => ?_)
  refine l_cons rfl (p_box fun s3 => ?_)
  refine l_cons rfl (p_assign ?_)
  refine l_nil ?_
  refine k_seq_normal ?_
  refine w_seq ?_
  refine w_seq ?_
  refine w_region ?_
  refine l_cons rfl (p_assign ?_)
  refine l_nil ?_
  refine k_seq_normal ?_
  refine w_block ?_
  refine w_loop (fun m f es' => ∃ k, m = 256 - k ∧ k ≤ 256 ∧ (∀ j, j < k → a.has j = b.has j) ∧ es' = .row s3 26 4 [[.int .u64 b.w0, .int .u64 b.w1, .int .u64 b.w2, .int .u64 b.w3]] :: .row s2 26 4 [[.int .u64 a.w0, .int .u64 a.w1, .int .u64 a.w2, .int .u64 a.w3]] :: es ∧ Knows f [(2, .ptr es.length s2 0 0), (3, .ptr (es.length + 1) s3 0 0), (5, .int .i64 k)]) (256) (⟨0, rfl, Nat.zero_le _, fun j hj => absurd hj (Nat.not_lt_zero _), rfl, by simp only [Knows, put, upd_apply, Nat.reduceEqDiff, ↓reduceIte, and_true, true_and, eq_self] <;> and_intros <;> rfl⟩) ?_
  rintro m f es' ⟨k, rfl, hk1, hk2, rfl, hk⟩
  refine w_pins _ (Sub.refl _) (hk) ?_
  simp only [pins]
  refine w_seq ?_
  refine w_seq ?_
  refine w_region ?_
  refine l_cons rfl (p_move ?_)
  refine l_cons rfl (p_cmp ?_)
  refine l_nil ?_
  refine k_seq_normal ?_
  refine w_b (fun h1 => ?_) (fun h1 => ?_)
  · skip
    have h1' := h1; (try simp only [decide_eq_true_eq, decide_eq_false_iff_not, Bool.not_eq_true', Bool.not_false, Bool.not_true, Bool.not_eq_false'] at h1')
    refine w_skip ?_
    refine k_seq_normal ?_
    refine w_seq ?_
    refine w_block ?_
    refine w_seq ?_
    refine w_drawn 7 [] (fun e => e = _) mixed (by kernel_rfl) rfl ?_
    refine q1 2 (hg := rfl) (hu := rfl) (h := by rintro f _ rfl; exact p_loadp ty_26 ⟨rfl, rfl⟩) (k := ?_)
    refine q1 5 (hg := rfl) (hu := rfl) (h := by rintro f _ rfl; exact p_move ⟨rfl, rfl⟩) (k := ?_)
    refine q1 11 (hg := rfl) (hu := rfl) (h := by rintro f _ rfl; exact p_conv in_3 in_5 ⟨rfl, rfl⟩ (hb := wrap8 (n := (k : Int)) (by omega) (by omega))) (k := ?_)
    refine q2 10 12 (hg := rfl) (hu := rfl) (h := by rintro f _ rfl; exact p_callr en_55 (ref1Has a.w0 a.w1 a.w2 a.w3 (k : Int) (by omega) (by omega) ha.1 ha.2.1 ha.2.2.1 ha.2.2.2.1) ⟨rfl, rfl⟩) (k := ?_)
    refine q1 3 (hg := rfl) (hu := rfl) (h := by rintro f _ rfl; exact p_loadp ty_26 ⟨rfl, rfl⟩) (k := ?_)
    refine q1 5 (hg := rfl) (hu := rfl) (h := by rintro f _ rfl; exact p_move ⟨rfl, rfl⟩) (k := ?_)
    refine q1 15 (hg := rfl) (hu := rfl) (h := by rintro f _ rfl; exact p_conv in_3 in_5 ⟨rfl, rfl⟩ (hb := wrap8 (n := (k : Int)) (by omega) (by omega))) (k := ?_)
    refine q_end ?_
    refine m_end ?_
    refine l_cons rfl (p_callr en_55 (ref1Has b.w0 b.w1 b.w2 b.w3 (k : Int) (by omega) (by omega) hb.1 hb.2.1 hb.2.2.1 hb.2.2.2.1) ?_)
    refine l_cons rfl (p_neb ub_4 ?_)
    refine l_nil ?_
    refine k_seq_normal ?_
    refine w_b (fun h2 => ?_) (fun h2 => ?_)
    · skip
      have h2' := h2; (try simp only [decide_eq_true_eq, decide_eq_false_iff_not, Bool.not_eq_true', Bool.not_false, Bool.not_true, Bool.not_eq_false'] at h2')
      refine w_seq ?_
      refine w_region ?_
      refine l_cons rfl (p_loadp ty_26 ?_)
      refine l_cons rfl (p_move ?_)
      refine l_cons rfl (p_conv in_3 in_5 ?_ (hb := wrap8 (n := (k : Int)) (by omega) (by omega)))
      refine l_cons rfl (p_callr en_55 (ref1Has a.w0 a.w1 a.w2 a.w3 (k : Int) (by omega) (by omega) ha.1 ha.2.1 ha.2.2.1 ha.2.2.2.1) ?_)
      refine l_cons rfl (p_assign ?_)
      refine l_nil ?_
      refine k_seq_normal ?_
      refine w_ret ?_
      refine k_blk_ret ?_
      refine k_seq_ret ?_
      refine k_seq_ret ?_
      refine k_blk_ret ?_
      refine k_seq_ret ?_
      exact ret1 rfl (by simp only [ev_tmp, ev_const, ev_func, ofConst_int, ofConst_bool, ofConst_str, ofConst_nil, upd_apply, Nat.reduceEqDiff, ↓reduceIte] <;> exact rfl) (by first | exact Sub.refl _ | exact sub1 _ _ | exact sub2 _ _ _ | exact sub3 _ _ _ _ | exact sub4 _ _ _ _ _ | exact sub5 _ _ _ _ _ _) ⟨by rw [W4.less_at (by omega) hk2 (by unfold W4.has; simpa using h2')]; rfl, rfl⟩
    · skip
      have h2' := h2; (try simp only [decide_eq_true_eq, decide_eq_false_iff_not, Bool.not_eq_true', Bool.not_false, Bool.not_true, Bool.not_eq_false'] at h2')
      refine w_skip ?_
      refine k_blk_normal ?_
      refine k_seq_normal ?_
      refine w_region ?_
      refine l_cons rfl (p_move ?_)
      refine l_cons rfl (p_arith ?_)
      refine l_cons rfl (p_assign ?_)
      refine l_nil ?_
      refine k_seq_normal ?_
      exact ⟨256 - (k + 1), by omega, k + 1, rfl, by omega, lt_succ_cases hk2 (by unfold W4.has; simpa using h2'), rfl, by simp only [Knows, put, upd_apply, Nat.reduceEqDiff, ↓reduceIte, and_true, true_and, eq_self] <;> and_intros <;> rfl⟩
  · skip
    have h1' := h1; (try simp only [decide_eq_true_eq, decide_eq_false_iff_not, Bool.not_eq_true', Bool.not_false, Bool.not_true, Bool.not_eq_false'] at h1')
    refine w_exit ?_
    refine k_seq_exit ?_
    refine k_seq_exit ?_
    refine k_blk_here ?_
    refine k_seq_normal ?_
    refine w_seq ?_
    refine w_region ?_
    refine l_cons rfl (p_assign ?_)
    refine l_nil ?_
    refine k_seq_normal ?_
    refine w_ret ?_
    exact ret1 rfl (by simp only [ev_tmp, ev_const, ev_func, ofConst_int, ofConst_bool, ofConst_str, ofConst_nil, upd_apply, Nat.reduceEqDiff, ↓reduceIte] <;> exact rfl) (by first | exact Sub.refl _ | exact sub1 _ _ | exact sub2 _ _ _ | exact sub3 _ _ _ _ | exact sub4 _ _ _ _ _ | exact sub5 _ _ _ _ _ _) ⟨by rw [W4.less_no (fun j hj => hk2 j (by omega))], rfl⟩
theorem refCompare {w0 : World} : ∀ (B : Nat) (a b : Rx) (es : List Ent), a.nodes ≤ B → a.ok → b.ok → ACalls Tryd.prog w0 121 [.agg a.cells, .agg b.cells] es fun v es' => v = .int .i64 (a.cmp b) ∧ es' = es := by
  intro B
  induction B using Nat.strongRecOn with
  | _ B ih => ?_
  intro a b es hB ha hb
  rw [Rx.cells_eq a, Rx.cells_eq b]
  refine calls2 (N := 74) Tryd.func121 rfl rfl (by decide) ?_
  refine w_seq ?_
  refine w_region ?_
  refine l_cons rfl (p_box fun s2 => ?_)
  refine l_cons rfl (p_box fun s3 => ?_)
  refine l_cons rfl (p_assign ?_)
  refine l_nil ?_
  refine k_seq_normal ?_
  refine w_seq ?_
  refine w_seq ?_
  refine w_region ?_
  refine l_cons rfl (p_fap fa_29_0 ?_)
  refine l_cons rfl (p_loadp ty_3 ?_)
  refine l_cons rfl (p_fap fa_29_0 ?_)
  refine l_cons rfl (p_loadp ty_3 ?_)
  refine l_cons rfl (p_cmp ?_)
  refine l_nil ?_
  refine k_seq_normal ?_
  refine w_b (fun h1 => ?_) (fun h1 => ?_)
  · skip
    have h1' := h1; (try simp only [decide_eq_true_eq, decide_eq_false_iff_not, Bool.not_eq_true', Bool.not_false, Bool.not_true, Bool.not_eq_false'] at h1')
    refine w_seq ?_
    refine w_seq ?_
    refine w_region ?_
    refine l_cons rfl (p_fap fa_29_0 ?_)
    refine l_cons rfl (p_loadp ty_3 ?_)
    refine l_cons rfl (p_fap fa_29_0 ?_)
    refine l_cons rfl (p_loadp ty_3 ?_)
    refine l_cons rfl (p_cmp ?_)
    refine l_nil ?_
    refine k_seq_normal ?_
    refine w_b (fun h2 => ?_) (fun h2 => ?_)
    · skip
      have h2' := h2; (try simp only [decide_eq_true_eq, decide_eq_false_iff_not, Bool.not_eq_true', Bool.not_false, Bool.not_true, Bool.not_eq_false'] at h2')
      refine w_seq ?_
      refine w_region ?_
      refine l_cons rfl (p_assign ?_)
      refine l_nil ?_
      refine k_seq_normal ?_
      refine w_ret ?_
      refine k_seq_ret ?_
      refine k_seq_ret ?_
      exact ret1 rfl (by simp only [ev_tmp, ev_const, ev_func, ofConst_int, ofConst_bool, ofConst_str, ofConst_nil, upd_apply, Nat.reduceEqDiff, ↓reduceIte] <;> exact rfl) (by first | exact Sub.refl _ | exact sub1 _ _ | exact sub2 _ _ _ | exact sub3 _ _ _ _ | exact sub4 _ _ _ _ _ | exact sub5 _ _ _ _ _ _) ⟨by rw [cmp_kind2 (by simpa using h1'), if_pos (by omega)], rfl⟩
    · skip
      have h2' := h2; (try simp only [decide_eq_true_eq, decide_eq_false_iff_not, Bool.not_eq_true', Bool.not_false, Bool.not_true, Bool.not_eq_false'] at h2')
      refine w_skip ?_
      refine k_seq_normal ?_
      refine w_seq ?_
      refine w_region ?_
      refine l_cons rfl (p_assign ?_)
      refine l_nil ?_
      refine k_seq_normal ?_
      refine w_ret ?_
      refine k_seq_ret ?_
      exact ret1 rfl (by simp only [ev_tmp, ev_const, ev_func, ofConst_int, ofConst_bool, ofConst_str, ofConst_nil, upd_apply, Nat.reduceEqDiff, ↓reduceIte] <;> exact rfl) (by first | exact Sub.refl _ | exact sub1 _ _ | exact sub2 _ _ _ | exact sub3 _ _ _ _ | exact sub4 _ _ _ _ _ | exact sub5 _ _ _ _ _ _) ⟨by rw [cmp_kind2 (by simpa using h1'), if_neg (by omega), if_pos (by omega)], rfl⟩
  · skip
    have h1' := h1; (try simp only [decide_eq_true_eq, decide_eq_false_iff_not, Bool.not_eq_true', Bool.not_false, Bool.not_true, Bool.not_eq_false'] at h1')
    refine w_skip ?_
    refine k_seq_normal ?_
    refine w_seq ?_
    refine w_seq ?_
    refine w_region ?_
    refine l_cons rfl (p_fap fa_29_0 ?_)
    refine l_cons rfl (p_loadp ty_3 ?_)
    refine l_cons rfl (p_cmp ?_)
    refine l_cons rfl (p_move ?_)
    refine g_b rfl (fun h3 => ?_) (fun h3 => ?_)
    · skip
      have h3' := h3; (try simp only [decide_eq_true_eq, decide_eq_false_iff_not, Bool.not_eq_true', Bool.not_false, Bool.not_true, Bool.not_eq_false'] at h3')
      refine (p_fap fa_29_1 ?_)
      refine g_y rfl h3 (p_loadp ty_26 ?_)
      refine g_y rfl h3 (p_fap fa_29_1 ?_)
      refine g_y rfl h3 (p_loadp ty_26 ?_)
      refine g_y rfl h3 (p_nea ai_26 ?_ (hb := neA a.set b.set))
      refine l_cons rfl (p_pickt h3 ?_)
      refine l_nil ?_
      refine k_seq_normal ?_
      refine w_b (fun h4 => ?_) (fun h4 => ?_)
      · skip
        have h4' := h4; (try simp only [decide_eq_true_eq, decide_eq_false_iff_not, Bool.not_eq_true', Bool.not_false, Bool.not_true, Bool.not_eq_false'] at h4')
        refine w_seq ?_
        refine w_seq ?_
        refine w_region ?_
        refine l_cons rfl (p_fap fa_29_1 ?_)
        refine l_cons rfl (p_loadp ty_26 ?_)
        refine l_cons rfl (p_fap fa_29_1 ?_)
        refine l_cons rfl (p_loadp ty_26 ?_)
        refine l_cons rfl (p_callr en_148 (refLess_walk a.set b.set ha.set hb.set) ?_)
        refine l_nil ?_
        refine k_seq_normal ?_
        refine w_b (fun h5 => ?_) (fun h5 => ?_)
        · skip
          have h5' := h5; (try simp only [decide_eq_true_eq, decide_eq_false_iff_not, Bool.not_eq_true', Bool.not_false, Bool.not_true, Bool.not_eq_false'] at h5')
          refine w_seq ?_
          refine w_region ?_
          refine l_cons rfl (p_assign ?_)
          refine l_nil ?_
          refine k_seq_normal ?_
          refine w_ret ?_
          refine k_seq_ret ?_
          refine k_seq_ret ?_
          exact ret1 rfl (by simp only [ev_tmp, ev_const, ev_func, ofConst_int, ofConst_bool, ofConst_str, ofConst_nil, upd_apply, Nat.reduceEqDiff, ↓reduceIte] <;> exact rfl) (by first | exact Sub.refl _ | exact sub1 _ _ | exact sub2 _ _ _ | exact sub3 _ _ _ _ | exact sub4 _ _ _ _ _ | exact sub5 _ _ _ _ _ _) ⟨by rw [cmp_set (by simpa using h1') (by omega) h4', if_pos (by assumption)], rfl⟩
        · skip
          have h5' := h5; (try simp only [decide_eq_true_eq, decide_eq_false_iff_not, Bool.not_eq_true', Bool.not_false, Bool.not_true, Bool.not_eq_false'] at h5')
          refine w_skip ?_
          refine k_seq_normal ?_
          refine w_seq ?_
          refine w_region ?_
          refine l_cons rfl (p_assign ?_)
          refine l_nil ?_
          refine k_seq_normal ?_
          refine w_ret ?_
          refine k_seq_ret ?_
          exact ret1 rfl (by simp only [ev_tmp, ev_const, ev_func, ofConst_int, ofConst_bool, ofConst_str, ofConst_nil, upd_apply, Nat.reduceEqDiff, ↓reduceIte] <;> exact rfl) (by first | exact Sub.refl _ | exact sub1 _ _ | exact sub2 _ _ _ | exact sub3 _ _ _ _ | exact sub4 _ _ _ _ _ | exact sub5 _ _ _ _ _ _) ⟨by rw [cmp_set (by simpa using h1') (by omega) h4', if_neg (by simp_all)], rfl⟩
      · skip
        have h4' := h4; (try simp only [decide_eq_true_eq, decide_eq_false_iff_not, Bool.not_eq_true', Bool.not_false, Bool.not_true, Bool.not_eq_false'] at h4')
        refine w_skip ?_
        refine k_seq_normal ?_
        refine w_seq ?_
        refine w_seq ?_
        have hargs : a.cmp b = Rx.cmpL a.args b.args := cmp_args (by simpa using h1') (by first | exact .inl (by omega) | exact .inr (by simp_all))
        refine w_region ?_
        refine l_cons rfl (p_assign ?_)
        refine l_nil ?_
        refine k_seq_normal ?_
        refine w_block ?_
        refine w_loop (fun q f es' => ∃ k, q = a.args.length - k ∧ k ≤ a.args.length ∧ k ≤ b.args.length ∧ Rx.cmpL a.args b.args = Rx.cmpL (a.args.drop k) (b.args.drop k) ∧ es' = .row s3 29 6 [[.int .i64 b.kind, .int .u64 b.set.w0, .int .u64 b.set.w1, .int .u64 b.set.w2, .int .u64 b.set.w3, .list 6 (b.args.map Rx.cells)]] :: .row s2 29 6 [[.int .i64 a.kind, .int .u64 a.set.w0, .int .u64 a.set.w1, .int .u64 a.set.w2, .int .u64 a.set.w3, .list 6 (a.args.map Rx.cells)]] :: es ∧ Knows f [(2, .ptr es.length s2 0 0), (3, .ptr (es.length + 1) s3 0 0), (5, .int .i64 k)]) (a.args.length) (⟨0, rfl, Nat.zero_le _, Nat.zero_le _, rfl, rfl, by simp only [Knows, put, upd_apply, Nat.reduceEqDiff, ↓reduceIte, and_true, true_and, eq_self] <;> and_intros <;> rfl⟩) ?_
        rintro q f es' ⟨k, rfl, hk1, hk2, hk3, rfl, hk⟩
        refine w_pins _ (Sub.refl _) (hk) ?_
        simp only [pins]
        refine w_seq ?_
        refine w_seq ?_
        refine w_region ?_
        refine l_cons rfl (p_move ?_)
        refine l_cons rfl (p_fap fa_29_2 ?_)
        refine l_cons rfl (p_loadp ty_27 ?_)
        refine l_len 34 fun hl => ?_
        simp only [List.length_map, most] at hl
        first | refine l_cons rfl (p_lenl sl_27 ?_) | refine l_cons rfl (p_leno sl_27 ?_) | refine l_cons rfl (p_lenn sl_27 ?_)
        refine l_cons rfl (p_cmp ?_)
        refine l_cons rfl (p_move ?_)
        refine g_b rfl (fun h6 => ?_) (fun h6 => ?_)
        · skip
          have h6' := h6; (try simp only [decide_eq_true_eq, decide_eq_false_iff_not, Bool.not_eq_true', Bool.not_false, Bool.not_true, Bool.not_eq_false'] at h6')
          refine (p_move ?_)
          refine g_y rfl h6 (p_fap fa_29_2 ?_)
          refine g_y rfl h6 (p_loadp ty_27 ?_)
          first | refine g_y rfl h6 (p_lenl sl_27 ?_) | refine g_y rfl h6 (p_leno sl_27 ?_) | refine g_y rfl h6 (p_lenn sl_27 ?_)
          refine g_y rfl h6 (p_cmp ?_)
          refine l_cons rfl (p_pickt h6 ?_)
          refine l_nil ?_
          refine k_seq_normal ?_
          refine w_b (fun h7 => ?_) (fun h7 => ?_)
          · skip
            have h7' := h7; (try simp only [decide_eq_true_eq, decide_eq_false_iff_not, Bool.not_eq_true', Bool.not_false, Bool.not_true, Bool.not_eq_false'] at h7')
            refine w_skip ?_
            refine k_seq_normal ?_
            refine w_seq ?_
            refine w_block ?_
            refine w_seq ?_
            refine w_drawn 10 [] (fun e => e = _) mixed (by kernel_rfl) rfl ?_
            refine q1 2 (hg := rfl) (hu := rfl) (h := by rintro f _ rfl; exact p_fap fa_29_2 ⟨rfl, rfl⟩) (k := ?_)
            refine q1 46 (hg := rfl) (hu := rfl) (h := by rintro f _ rfl; exact p_loadp ty_27 ⟨rfl, rfl⟩) (k := ?_)
            refine q1 5 (hg := rfl) (hu := rfl) (h := by rintro f _ rfl; exact p_move ⟨rfl, rfl⟩) (k := ?_)
            first | refine q2 47 48 (hg := rfl) (hu := rfl) (h := by rintro f _ rfl; exact p_ixl sl_27 ⟨rfl, rfl⟩) (k := ?_) | refine q2 47 48 (hg := rfl) (hu := rfl) (h := by rintro f _ rfl; exact p_ixo sl_27 ⟨rfl, rfl⟩) (k := ?_)
            first | refine q1 49 (hg := rfl) (hu := rfl) (h := by rintro f _ rfl; exact p_loadf ty_29 ⟨rfl, rfl⟩) (k := ?_) | refine q1 49 (hg := rfl) (hu := rfl) (h := by rintro f _ rfl; exact p_loadp ty_29 ⟨rfl, rfl⟩) (k := ?_)
            refine q1 3 (hg := rfl) (hu := rfl) (h := by rintro f _ rfl; exact p_fap fa_29_2 ⟨rfl, rfl⟩) (k := ?_)
            refine q1 51 (hg := rfl) (hu := rfl) (h := by rintro f _ rfl; exact p_loadp ty_27 ⟨rfl, rfl⟩) (k := ?_)
            refine q1 5 (hg := rfl) (hu := rfl) (h := by rintro f _ rfl; exact p_move ⟨rfl, rfl⟩) (k := ?_)
            first | refine q2 52 53 (hg := rfl) (hu := rfl) (h := by rintro f _ rfl; exact p_ixl sl_27 ⟨rfl, rfl⟩) (k := ?_) | refine q2 52 53 (hg := rfl) (hu := rfl) (h := by rintro f _ rfl; exact p_ixo sl_27 ⟨rfl, rfl⟩) (k := ?_)
            first | refine q1 54 (hg := rfl) (hu := rfl) (h := by rintro f _ rfl; exact p_loadf ty_29 ⟨rfl, rfl⟩) (k := ?_) | refine q1 54 (hg := rfl) (hu := rfl) (h := by rintro f _ rfl; exact p_loadp ty_29 ⟨rfl, rfl⟩) (k := ?_)
            refine q_end ?_
            refine m_end ?_
            refine l_cons rfl (p_callr en_121 (ih (B - 1) (by have := a.nodes_pos; omega) (a.args[k]'(by omega)) (b.args[k]'(by omega)) _ (by have := a.nodes_arg (k := k) (by omega); omega) (ha.arg (by omega)) (hb.arg (by omega))) ?_)
            refine l_cons rfl (p_assign ?_)
            refine l_nil ?_
            refine k_seq_normal ?_
            refine w_seq ?_
            refine w_region ?_
            refine l_cons rfl (p_move ?_)
            refine l_cons rfl (p_cmp ?_)
            refine l_nil ?_
            refine k_seq_normal ?_
            refine w_b (fun h8 => ?_) (fun h8 => ?_)
            · skip
              have h8' := h8; (try simp only [decide_eq_true_eq, decide_eq_false_iff_not, Bool.not_eq_true', Bool.not_false, Bool.not_true, Bool.not_eq_false'] at h8')
              refine w_seq ?_
              refine w_region ?_
              refine l_cons rfl (p_move ?_)
              refine l_cons rfl (p_assign ?_)
              refine l_nil ?_
              refine k_seq_normal ?_
              refine w_ret ?_
              refine k_blk_ret ?_
              refine k_seq_ret ?_
              refine k_seq_ret ?_
              refine k_blk_ret ?_
              refine k_seq_ret ?_
              exact ret1 rfl (by simp only [ev_tmp, ev_const, ev_func, ofConst_int, ofConst_bool, ofConst_str, ofConst_nil, upd_apply, Nat.reduceEqDiff, ↓reduceIte] <;> exact rfl) (by first | exact Sub.refl _ | exact sub1 _ _ | exact sub2 _ _ _ | exact sub3 _ _ _ _ | exact sub4 _ _ _ _ _ | exact sub5 _ _ _ _ _ _) ⟨by rw [hargs, cmpL_hit (k := k) (by omega) (by omega) hk3 (by simp_all)], rfl⟩
            · skip
              have h8' := h8; (try simp only [decide_eq_true_eq, decide_eq_false_iff_not, Bool.not_eq_true', Bool.not_false, Bool.not_true, Bool.not_eq_false'] at h8')
              refine w_skip ?_
              refine k_blk_normal ?_
              refine k_seq_normal ?_
              refine w_region ?_
              refine l_cons rfl (p_move ?_)
              refine l_cons rfl (p_arith ?_)
              refine l_cons rfl (p_assign ?_)
              refine l_nil ?_
              refine k_seq_normal ?_
              exact ⟨a.args.length - (k + 1), by omega, k + 1, rfl, by omega, by omega, cmpL_next (by omega) (by omega) hk3 (by simp_all), rfl, by simp only [Knows, put, upd_apply, Nat.reduceEqDiff, ↓reduceIte, and_true, true_and, eq_self] <;> and_intros <;> rfl⟩
          · skip
            have h7' := h7; (try simp only [decide_eq_true_eq, decide_eq_false_iff_not, Bool.not_eq_true', Bool.not_false, Bool.not_true, Bool.not_eq_false'] at h7')
            refine w_exit ?_
            refine k_seq_exit ?_
            refine k_seq_exit ?_
            refine k_blk_here ?_
            refine k_seq_normal ?_
            refine w_seq ?_
            refine w_seq ?_
            refine w_region ?_
            refine l_cons rfl (p_fap fa_29_2 ?_)
            refine l_cons rfl (p_loadp ty_27 ?_)
            first | refine l_cons rfl (p_lenl sl_27 ?_) | refine l_cons rfl (p_leno sl_27 ?_) | refine l_cons rfl (p_lenn sl_27 ?_)
            refine l_cons rfl (p_fap fa_29_2 ?_)
            refine l_cons rfl (p_loadp ty_27 ?_)
            first | refine l_cons rfl (p_lenl sl_27 ?_) | refine l_cons rfl (p_leno sl_27 ?_) | refine l_cons rfl (p_lenn sl_27 ?_)
            refine l_cons rfl (p_cmp ?_)
            refine l_nil ?_
            refine k_seq_normal ?_
            refine w_b (fun h9 => ?_) (fun h9 => ?_)
            · skip
              have h9' := h9; (try simp only [decide_eq_true_eq, decide_eq_false_iff_not, Bool.not_eq_true', Bool.not_false, Bool.not_true, Bool.not_eq_false'] at h9')
              refine w_seq ?_
              refine w_region ?_
              refine l_cons rfl (p_assign ?_)
              refine l_nil ?_
              refine k_seq_normal ?_
              refine w_ret ?_
              refine k_seq_ret ?_
              exact ret1 rfl (by simp only [ev_tmp, ev_const, ev_func, ofConst_int, ofConst_bool, ofConst_str, ofConst_nil, upd_apply, Nat.reduceEqDiff, ↓reduceIte] <;> exact rfl) (by first | exact Sub.refl _ | exact sub1 _ _ | exact sub2 _ _ _ | exact sub3 _ _ _ _ | exact sub4 _ _ _ _ _ | exact sub5 _ _ _ _ _ _) ⟨by rw [hargs, cmpL_at (k := k) hk1 hk2 hk3 (by omega), if_pos (by omega)], rfl⟩
            · skip
              have h9' := h9; (try simp only [decide_eq_true_eq, decide_eq_false_iff_not, Bool.not_eq_true', Bool.not_false, Bool.not_true, Bool.not_eq_false'] at h9')
              refine w_skip ?_
              refine k_seq_normal ?_
              refine w_seq ?_
              refine w_seq ?_
              refine w_region ?_
              refine l_cons rfl (p_fap fa_29_2 ?_)
              refine l_cons rfl (p_loadp ty_27 ?_)
              first | refine l_cons rfl (p_lenl sl_27 ?_) | refine l_cons rfl (p_leno sl_27 ?_) | refine l_cons rfl (p_lenn sl_27 ?_)
              refine l_cons rfl (p_fap fa_29_2 ?_)
              refine l_cons rfl (p_loadp ty_27 ?_)
              first | refine l_cons rfl (p_lenl sl_27 ?_) | refine l_cons rfl (p_leno sl_27 ?_) | refine l_cons rfl (p_lenn sl_27 ?_)
              refine l_cons rfl (p_cmp ?_)
              refine l_nil ?_
              refine k_seq_normal ?_
              refine w_b (fun h10 => ?_) (fun h10 => ?_)
              · skip
                have h10' := h10; (try simp only [decide_eq_true_eq, decide_eq_false_iff_not, Bool.not_eq_true', Bool.not_false, Bool.not_true, Bool.not_eq_false'] at h10')
                refine w_seq ?_
                refine w_region ?_
                refine l_cons rfl (p_assign ?_)
                refine l_nil ?_
                refine k_seq_normal ?_
                refine w_ret ?_
                refine k_seq_ret ?_
                exact ret1 rfl (by simp only [ev_tmp, ev_const, ev_func, ofConst_int, ofConst_bool, ofConst_str, ofConst_nil, upd_apply, Nat.reduceEqDiff, ↓reduceIte] <;> exact rfl) (by first | exact Sub.refl _ | exact sub1 _ _ | exact sub2 _ _ _ | exact sub3 _ _ _ _ | exact sub4 _ _ _ _ _ | exact sub5 _ _ _ _ _ _) ⟨by rw [hargs, cmpL_at (k := k) hk1 hk2 hk3 (by omega), if_neg (by omega), if_pos (by omega)], rfl⟩
              · skip
                have h10' := h10; (try simp only [decide_eq_true_eq, decide_eq_false_iff_not, Bool.not_eq_true', Bool.not_false, Bool.not_true, Bool.not_eq_false'] at h10')
                refine w_skip ?_
                refine k_seq_normal ?_
                refine w_seq ?_
                refine w_region ?_
                refine l_cons rfl (p_assign ?_)
                refine l_nil ?_
                refine k_seq_normal ?_
                refine w_ret ?_
                exact ret1 rfl (by simp only [ev_tmp, ev_const, ev_func, ofConst_int, ofConst_bool, ofConst_str, ofConst_nil, upd_apply, Nat.reduceEqDiff, ↓reduceIte] <;> exact rfl) (by first | exact Sub.refl _ | exact sub1 _ _ | exact sub2 _ _ _ | exact sub3 _ _ _ _ | exact sub4 _ _ _ _ _ | exact sub5 _ _ _ _ _ _) ⟨by rw [hargs, cmpL_at (k := k) hk1 hk2 hk3 (by omega), if_neg (by omega), if_neg (by omega)], rfl⟩
        · skip
          have h6' := h6; (try simp only [decide_eq_true_eq, decide_eq_false_iff_not, Bool.not_eq_true', Bool.not_false, Bool.not_true, Bool.not_eq_false'] at h6')
          refine g_n rfl h6 ?_
          refine g_n rfl h6 ?_
          refine g_n rfl h6 ?_
          refine g_n rfl h6 ?_
          refine l_cons rfl (p_pickf h6 ?_)
          refine l_nil ?_
          refine k_seq_normal ?_
          refine w_f rfl ?_
          refine w_exit ?_
          refine k_seq_exit ?_
          refine k_seq_exit ?_
          refine k_blk_here ?_
          refine k_seq_normal ?_
          refine w_seq ?_
          refine w_seq ?_
          refine w_region ?_
          refine l_cons rfl (p_fap fa_29_2 ?_)
          refine l_cons rfl (p_loadp ty_27 ?_)
          first | refine l_cons rfl (p_lenl sl_27 ?_) | refine l_cons rfl (p_leno sl_27 ?_) | refine l_cons rfl (p_lenn sl_27 ?_)
          refine l_cons rfl (p_fap fa_29_2 ?_)
          refine l_cons rfl (p_loadp ty_27 ?_)
          first | refine l_cons rfl (p_lenl sl_27 ?_) | refine l_cons rfl (p_leno sl_27 ?_) | refine l_cons rfl (p_lenn sl_27 ?_)
          refine l_cons rfl (p_cmp ?_)
          refine l_nil ?_
          refine k_seq_normal ?_
          refine w_b (fun h11 => ?_) (fun h11 => ?_)
          · skip
            have h11' := h11; (try simp only [decide_eq_true_eq, decide_eq_false_iff_not, Bool.not_eq_true', Bool.not_false, Bool.not_true, Bool.not_eq_false'] at h11')
            refine w_seq ?_
            refine w_region ?_
            refine l_cons rfl (p_assign ?_)
            refine l_nil ?_
            refine k_seq_normal ?_
            refine w_ret ?_
            refine k_seq_ret ?_
            exact ret1 rfl (by simp only [ev_tmp, ev_const, ev_func, ofConst_int, ofConst_bool, ofConst_str, ofConst_nil, upd_apply, Nat.reduceEqDiff, ↓reduceIte] <;> exact rfl) (by first | exact Sub.refl _ | exact sub1 _ _ | exact sub2 _ _ _ | exact sub3 _ _ _ _ | exact sub4 _ _ _ _ _ | exact sub5 _ _ _ _ _ _) ⟨by rw [hargs, cmpL_at (k := k) hk1 hk2 hk3 (by omega), if_pos (by omega)], rfl⟩
          · skip
            have h11' := h11; (try simp only [decide_eq_true_eq, decide_eq_false_iff_not, Bool.not_eq_true', Bool.not_false, Bool.not_true, Bool.not_eq_false'] at h11')
            refine w_skip ?_
            refine k_seq_normal ?_
            refine w_seq ?_
            refine w_seq ?_
            refine w_region ?_
            refine l_cons rfl (p_fap fa_29_2 ?_)
            refine l_cons rfl (p_loadp ty_27 ?_)
            first | refine l_cons rfl (p_lenl sl_27 ?_) | refine l_cons rfl (p_leno sl_27 ?_) | refine l_cons rfl (p_lenn sl_27 ?_)
            refine l_cons rfl (p_fap fa_29_2 ?_)
            refine l_cons rfl (p_loadp ty_27 ?_)
            first | refine l_cons rfl (p_lenl sl_27 ?_) | refine l_cons rfl (p_leno sl_27 ?_) | refine l_cons rfl (p_lenn sl_27 ?_)
            refine l_cons rfl (p_cmp ?_)
            refine l_nil ?_
            refine k_seq_normal ?_
            refine w_b (fun h12 => ?_) (fun h12 => ?_)
            · skip
              have h12' := h12; (try simp only [decide_eq_true_eq, decide_eq_false_iff_not, Bool.not_eq_true', Bool.not_false, Bool.not_true, Bool.not_eq_false'] at h12')
              refine w_seq ?_
              refine w_region ?_
              refine l_cons rfl (p_assign ?_)
              refine l_nil ?_
              refine k_seq_normal ?_
              refine w_ret ?_
              refine k_seq_ret ?_
              exact ret1 rfl (by simp only [ev_tmp, ev_const, ev_func, ofConst_int, ofConst_bool, ofConst_str, ofConst_nil, upd_apply, Nat.reduceEqDiff, ↓reduceIte] <;> exact rfl) (by first | exact Sub.refl _ | exact sub1 _ _ | exact sub2 _ _ _ | exact sub3 _ _ _ _ | exact sub4 _ _ _ _ _ | exact sub5 _ _ _ _ _ _) ⟨by rw [hargs, cmpL_at (k := k) hk1 hk2 hk3 (by omega), if_neg (by omega), if_pos (by omega)], rfl⟩
            · skip
              have h12' := h12; (try simp only [decide_eq_true_eq, decide_eq_false_iff_not, Bool.not_eq_true', Bool.not_false, Bool.not_true, Bool.not_eq_false'] at h12')
              refine w_skip ?_
              refine k_seq_normal ?_
              refine w_seq ?_
              refine w_region ?_
              refine l_cons rfl (p_assign ?_)
              refine l_nil ?_
              refine k_seq_normal ?_
              refine w_ret ?_
              exact ret1 rfl (by simp only [ev_tmp, ev_const, ev_func, ofConst_int, ofConst_bool, ofConst_str, ofConst_nil, upd_apply, Nat.reduceEqDiff, ↓reduceIte] <;> exact rfl) (by first | exact Sub.refl _ | exact sub1 _ _ | exact sub2 _ _ _ | exact sub3 _ _ _ _ | exact sub4 _ _ _ _ _ | exact sub5 _ _ _ _ _ _) ⟨by rw [hargs, cmpL_at (k := k) hk1 hk2 hk3 (by omega), if_neg (by omega), if_neg (by omega)], rfl⟩
    · skip
      have h3' := h3; (try simp only [decide_eq_true_eq, decide_eq_false_iff_not, Bool.not_eq_true', Bool.not_false, Bool.not_true, Bool.not_eq_false'] at h3')
      refine g_n rfl h3 ?_
      refine g_n rfl h3 ?_
      refine g_n rfl h3 ?_
      refine g_n rfl h3 ?_
      refine l_cons rfl (p_pickf h3 ?_)
      refine l_nil ?_
      refine k_seq_normal ?_
      refine w_f rfl ?_
      refine w_skip ?_
      refine k_seq_normal ?_
      refine w_seq ?_
      refine w_seq ?_
      have hargs : a.cmp b = Rx.cmpL a.args b.args := cmp_args (by simpa using h1') (by first | exact .inl (by omega) | exact .inr (by simp_all))
      refine w_region ?_
      refine l_cons rfl (p_assign ?_)
      refine l_nil ?_
      refine k_seq_normal ?_
      refine w_block ?_
      refine w_loop (fun q f es' => ∃ k, q = a.args.length - k ∧ k ≤ a.args.length ∧ k ≤ b.args.length ∧ Rx.cmpL a.args b.args = Rx.cmpL (a.args.drop k) (b.args.drop k) ∧ es' = .row s3 29 6 [[.int .i64 b.kind, .int .u64 b.set.w0, .int .u64 b.set.w1, .int .u64 b.set.w2, .int .u64 b.set.w3, .list 6 (b.args.map Rx.cells)]] :: .row s2 29 6 [[.int .i64 a.kind, .int .u64 a.set.w0, .int .u64 a.set.w1, .int .u64 a.set.w2, .int .u64 a.set.w3, .list 6 (a.args.map Rx.cells)]] :: es ∧ Knows f [(2, .ptr es.length s2 0 0), (3, .ptr (es.length + 1) s3 0 0), (5, .int .i64 k)]) (a.args.length) (⟨0, rfl, Nat.zero_le _, Nat.zero_le _, rfl, rfl, by simp only [Knows, put, upd_apply, Nat.reduceEqDiff, ↓reduceIte, and_true, true_and, eq_self] <;> and_intros <;> rfl⟩) ?_
      rintro q f es' ⟨k, rfl, hk1, hk2, hk3, rfl, hk⟩
      refine w_pins _ (Sub.refl _) (hk) ?_
      simp only [pins]
      refine w_seq ?_
      refine w_seq ?_
      refine w_region ?_
      refine l_cons rfl (p_move ?_)
      refine l_cons rfl (p_fap fa_29_2 ?_)
      refine l_cons rfl (p_loadp ty_27 ?_)
      refine l_len 34 fun hl => ?_
      simp only [List.length_map, most] at hl
      first | refine l_cons rfl (p_lenl sl_27 ?_) | refine l_cons rfl (p_leno sl_27 ?_) | refine l_cons rfl (p_lenn sl_27 ?_)
      refine l_cons rfl (p_cmp ?_)
      refine l_cons rfl (p_move ?_)
      refine g_b rfl (fun h13 => ?_) (fun h13 => ?_)
      · skip
        have h13' := h13; (try simp only [decide_eq_true_eq, decide_eq_false_iff_not, Bool.not_eq_true', Bool.not_false, Bool.not_true, Bool.not_eq_false'] at h13')
        refine (p_move ?_)
        refine g_y rfl h13 (p_fap fa_29_2 ?_)
        refine g_y rfl h13 (p_loadp ty_27 ?_)
        first | refine g_y rfl h13 (p_lenl sl_27 ?_) | refine g_y rfl h13 (p_leno sl_27 ?_) | refine g_y rfl h13 (p_lenn sl_27 ?_)
        refine g_y rfl h13 (p_cmp ?_)
        refine l_cons rfl (p_pickt h13 ?_)
        refine l_nil ?_
        refine k_seq_normal ?_
        refine w_b (fun h14 => ?_) (fun h14 => ?_)
        · skip
          have h14' := h14; (try simp only [decide_eq_true_eq, decide_eq_false_iff_not, Bool.not_eq_true', Bool.not_false, Bool.not_true, Bool.not_eq_false'] at h14')
          refine w_skip ?_
          refine k_seq_normal ?_
          refine w_seq ?_
          refine w_block ?_
          refine w_seq ?_
          refine w_drawn 10 [] (fun e => e = _) mixed (by kernel_rfl) rfl ?_
          refine q1 2 (hg := rfl) (hu := rfl) (h := by rintro f _ rfl; exact p_fap fa_29_2 ⟨rfl, rfl⟩) (k := ?_)
          refine q1 46 (hg := rfl) (hu := rfl) (h := by rintro f _ rfl; exact p_loadp ty_27 ⟨rfl, rfl⟩) (k := ?_)
          refine q1 5 (hg := rfl) (hu := rfl) (h := by rintro f _ rfl; exact p_move ⟨rfl, rfl⟩) (k := ?_)
          first | refine q2 47 48 (hg := rfl) (hu := rfl) (h := by rintro f _ rfl; exact p_ixl sl_27 ⟨rfl, rfl⟩) (k := ?_) | refine q2 47 48 (hg := rfl) (hu := rfl) (h := by rintro f _ rfl; exact p_ixo sl_27 ⟨rfl, rfl⟩) (k := ?_)
          first | refine q1 49 (hg := rfl) (hu := rfl) (h := by rintro f _ rfl; exact p_loadf ty_29 ⟨rfl, rfl⟩) (k := ?_) | refine q1 49 (hg := rfl) (hu := rfl) (h := by rintro f _ rfl; exact p_loadp ty_29 ⟨rfl, rfl⟩) (k := ?_)
          refine q1 3 (hg := rfl) (hu := rfl) (h := by rintro f _ rfl; exact p_fap fa_29_2 ⟨rfl, rfl⟩) (k := ?_)
          refine q1 51 (hg := rfl) (hu := rfl) (h := by rintro f _ rfl; exact p_loadp ty_27 ⟨rfl, rfl⟩) (k := ?_)
          refine q1 5 (hg := rfl) (hu := rfl) (h := by rintro f _ rfl; exact p_move ⟨rfl, rfl⟩) (k := ?_)
          first | refine q2 52 53 (hg := rfl) (hu := rfl) (h := by rintro f _ rfl; exact p_ixl sl_27 ⟨rfl, rfl⟩) (k := ?_) | refine q2 52 53 (hg := rfl) (hu := rfl) (h := by rintro f _ rfl; exact p_ixo sl_27 ⟨rfl, rfl⟩) (k := ?_)
          first | refine q1 54 (hg := rfl) (hu := rfl) (h := by rintro f _ rfl; exact p_loadf ty_29 ⟨rfl, rfl⟩) (k := ?_) | refine q1 54 (hg := rfl) (hu := rfl) (h := by rintro f _ rfl; exact p_loadp ty_29 ⟨rfl, rfl⟩) (k := ?_)
          refine q_end ?_
          refine m_end ?_
          refine l_cons rfl (p_callr en_121 (ih (B - 1) (by have := a.nodes_pos; omega) (a.args[k]'(by omega)) (b.args[k]'(by omega)) _ (by have := a.nodes_arg (k := k) (by omega); omega) (ha.arg (by omega)) (hb.arg (by omega))) ?_)
          refine l_cons rfl (p_assign ?_)
          refine l_nil ?_
          refine k_seq_normal ?_
          refine w_seq ?_
          refine w_region ?_
          refine l_cons rfl (p_move ?_)
          refine l_cons rfl (p_cmp ?_)
          refine l_nil ?_
          refine k_seq_normal ?_
          refine w_b (fun h15 => ?_) (fun h15 => ?_)
          · skip
            have h15' := h15; (try simp only [decide_eq_true_eq, decide_eq_false_iff_not, Bool.not_eq_true', Bool.not_false, Bool.not_true, Bool.not_eq_false'] at h15')
            refine w_seq ?_
            refine w_region ?_
            refine l_cons rfl (p_move ?_)
            refine l_cons rfl (p_assign ?_)
            refine l_nil ?_
            refine k_seq_normal ?_
            refine w_ret ?_
            refine k_blk_ret ?_
            refine k_seq_ret ?_
            refine k_seq_ret ?_
            refine k_blk_ret ?_
            refine k_seq_ret ?_
            exact ret1 rfl (by simp only [ev_tmp, ev_const, ev_func, ofConst_int, ofConst_bool, ofConst_str, ofConst_nil, upd_apply, Nat.reduceEqDiff, ↓reduceIte] <;> exact rfl) (by first | exact Sub.refl _ | exact sub1 _ _ | exact sub2 _ _ _ | exact sub3 _ _ _ _ | exact sub4 _ _ _ _ _ | exact sub5 _ _ _ _ _ _) ⟨by rw [hargs, cmpL_hit (k := k) (by omega) (by omega) hk3 (by simp_all)], rfl⟩
          · skip
            have h15' := h15; (try simp only [decide_eq_true_eq, decide_eq_false_iff_not, Bool.not_eq_true', Bool.not_false, Bool.not_true, Bool.not_eq_false'] at h15')
            refine w_skip ?_
            refine k_blk_normal ?_
            refine k_seq_normal ?_
            refine w_region ?_
            refine l_cons rfl (p_move ?_)
            refine l_cons rfl (p_arith ?_)
            refine l_cons rfl (p_assign ?_)
            refine l_nil ?_
            refine k_seq_normal ?_
            exact ⟨a.args.length - (k + 1), by omega, k + 1, rfl, by omega, by omega, cmpL_next (by omega) (by omega) hk3 (by simp_all), rfl, by simp only [Knows, put, upd_apply, Nat.reduceEqDiff, ↓reduceIte, and_true, true_and, eq_self] <;> and_intros <;> rfl⟩
        · skip
          have h14' := h14; (try simp only [decide_eq_true_eq, decide_eq_false_iff_not, Bool.not_eq_true', Bool.not_false, Bool.not_true, Bool.not_eq_false'] at h14')
          refine w_exit ?_
          refine k_seq_exit ?_
          refine k_seq_exit ?_
          refine k_blk_here ?_
          refine k_seq_normal ?_
          refine w_seq ?_
          refine w_seq ?_
          refine w_region ?_
          refine l_cons rfl (p_fap fa_29_2 ?_)
          refine l_cons rfl (p_loadp ty_27 ?_)
          first | refine l_cons rfl (p_lenl sl_27 ?_) | refine l_cons rfl (p_leno sl_27 ?_) | refine l_cons rfl (p_lenn sl_27 ?_)
          refine l_cons rfl (p_fap fa_29_2 ?_)
          refine l_cons rfl (p_loadp ty_27 ?_)
          first | refine l_cons rfl (p_lenl sl_27 ?_) | refine l_cons rfl (p_leno sl_27 ?_) | refine l_cons rfl (p_lenn sl_27 ?_)
          refine l_cons rfl (p_cmp ?_)
          refine l_nil ?_
          refine k_seq_normal ?_
          refine w_b (fun h16 => ?_) (fun h16 => ?_)
          · skip
            have h16' := h16; (try simp only [decide_eq_true_eq, decide_eq_false_iff_not, Bool.not_eq_true', Bool.not_false, Bool.not_true, Bool.not_eq_false'] at h16')
            refine w_seq ?_
            refine w_region ?_
            refine l_cons rfl (p_assign ?_)
            refine l_nil ?_
            refine k_seq_normal ?_
            refine w_ret ?_
            refine k_seq_ret ?_
            exact ret1 rfl (by simp only [ev_tmp, ev_const, ev_func, ofConst_int, ofConst_bool, ofConst_str, ofConst_nil, upd_apply, Nat.reduceEqDiff, ↓reduceIte] <;> exact rfl) (by first | exact Sub.refl _ | exact sub1 _ _ | exact sub2 _ _ _ | exact sub3 _ _ _ _ | exact sub4 _ _ _ _ _ | exact sub5 _ _ _ _ _ _) ⟨by rw [hargs, cmpL_at (k := k) hk1 hk2 hk3 (by omega), if_pos (by omega)], rfl⟩
          · skip
            have h16' := h16; (try simp only [decide_eq_true_eq, decide_eq_false_iff_not, Bool.not_eq_true', Bool.not_false, Bool.not_true, Bool.not_eq_false'] at h16')
            refine w_skip ?_
            refine k_seq_normal ?_
            refine w_seq ?_
            refine w_seq ?_
            refine w_region ?_
            refine l_cons rfl (p_fap fa_29_2 ?_)
            refine l_cons rfl (p_loadp ty_27 ?_)
            first | refine l_cons rfl (p_lenl sl_27 ?_) | refine l_cons rfl (p_leno sl_27 ?_) | refine l_cons rfl (p_lenn sl_27 ?_)
            refine l_cons rfl (p_fap fa_29_2 ?_)
            refine l_cons rfl (p_loadp ty_27 ?_)
            first | refine l_cons rfl (p_lenl sl_27 ?_) | refine l_cons rfl (p_leno sl_27 ?_) | refine l_cons rfl (p_lenn sl_27 ?_)
            refine l_cons rfl (p_cmp ?_)
            refine l_nil ?_
            refine k_seq_normal ?_
            refine w_b (fun h17 => ?_) (fun h17 => ?_)
            · skip
              have h17' := h17; (try simp only [decide_eq_true_eq, decide_eq_false_iff_not, Bool.not_eq_true', Bool.not_false, Bool.not_true, Bool.not_eq_false'] at h17')
              refine w_seq ?_
              refine w_region ?_
              refine l_cons rfl (p_assign ?_)
              refine l_nil ?_
              refine k_seq_normal ?_
              refine w_ret ?_
              refine k_seq_ret ?_
              exact ret1 rfl (by simp only [ev_tmp, ev_const, ev_func, ofConst_int, ofConst_bool, ofConst_str, ofConst_nil, upd_apply, Nat.reduceEqDiff, ↓reduceIte] <;> exact rfl) (by first | exact Sub.refl _ | exact sub1 _ _ | exact sub2 _ _ _ | exact sub3 _ _ _ _ | exact sub4 _ _ _ _ _ | exact sub5 _ _ _ _ _ _) ⟨by rw [hargs, cmpL_at (k := k) hk1 hk2 hk3 (by omega), if_neg (by omega), if_pos (by omega)], rfl⟩
            · skip
              have h17' := h17; (try simp only [decide_eq_true_eq, decide_eq_false_iff_not, Bool.not_eq_true', Bool.not_false, Bool.not_true, Bool.not_eq_false'] at h17')
              refine w_skip ?_
              refine k_seq_normal ?_
              refine w_seq ?_
              refine w_region ?_
              refine l_cons rfl (p_assign ?_)
              refine l_nil ?_
              refine k_seq_normal ?_
              refine w_ret ?_
              exact ret1 rfl (by simp only [ev_tmp, ev_const, ev_func, ofConst_int, ofConst_bool, ofConst_str, ofConst_nil, upd_apply, Nat.reduceEqDiff, ↓reduceIte] <;> exact rfl) (by first | exact Sub.refl _ | exact sub1 _ _ | exact sub2 _ _ _ | exact sub3 _ _ _ _ | exact sub4 _ _ _ _ _ | exact sub5 _ _ _ _ _ _) ⟨by rw [hargs, cmpL_at (k := k) hk1 hk2 hk3 (by omega), if_neg (by omega), if_neg (by omega)], rfl⟩
      · skip
        have h13' := h13; (try simp only [decide_eq_true_eq, decide_eq_false_iff_not, Bool.not_eq_true', Bool.not_false, Bool.not_true, Bool.not_eq_false'] at h13')
        refine g_n rfl h13 ?_
        refine g_n rfl h13 ?_
        refine g_n rfl h13 ?_
        refine g_n rfl h13 ?_
        refine l_cons rfl (p_pickf h13 ?_)
        refine l_nil ?_
        refine k_seq_normal ?_
        refine w_f rfl ?_
        refine w_exit ?_
        refine k_seq_exit ?_
        refine k_seq_exit ?_
        refine k_blk_here ?_
        refine k_seq_normal ?_
        refine w_seq ?_
        refine w_seq ?_
        refine w_region ?_
        refine l_cons rfl (p_fap fa_29_2 ?_)
        refine l_cons rfl (p_loadp ty_27 ?_)
        first | refine l_cons rfl (p_lenl sl_27 ?_) | refine l_cons rfl (p_leno sl_27 ?_) | refine l_cons rfl (p_lenn sl_27 ?_)
        refine l_cons rfl (p_fap fa_29_2 ?_)
        refine l_cons rfl (p_loadp ty_27 ?_)
        first | refine l_cons rfl (p_lenl sl_27 ?_) | refine l_cons rfl (p_leno sl_27 ?_) | refine l_cons rfl (p_lenn sl_27 ?_)
        refine l_cons rfl (p_cmp ?_)
        refine l_nil ?_
        refine k_seq_normal ?_
        refine w_b (fun h18 => ?_) (fun h18 => ?_)
        · skip
          have h18' := h18; (try simp only [decide_eq_true_eq, decide_eq_false_iff_not, Bool.not_eq_true', Bool.not_false, Bool.not_true, Bool.not_eq_false'] at h18')
          refine w_seq ?_
          refine w_region ?_
          refine l_cons rfl (p_assign ?_)
          refine l_nil ?_
          refine k_seq_normal ?_
          refine w_ret ?_
          refine k_seq_ret ?_
          exact ret1 rfl (by simp only [ev_tmp, ev_const, ev_func, ofConst_int, ofConst_bool, ofConst_str, ofConst_nil, upd_apply, Nat.reduceEqDiff, ↓reduceIte] <;> exact rfl) (by first | exact Sub.refl _ | exact sub1 _ _ | exact sub2 _ _ _ | exact sub3 _ _ _ _ | exact sub4 _ _ _ _ _ | exact sub5 _ _ _ _ _ _) ⟨by rw [hargs, cmpL_at (k := k) hk1 hk2 hk3 (by omega), if_pos (by omega)], rfl⟩
        · skip
          have h18' := h18; (try simp only [decide_eq_true_eq, decide_eq_false_iff_not, Bool.not_eq_true', Bool.not_false, Bool.not_true, Bool.not_eq_false'] at h18')
          refine w_skip ?_
          refine k_seq_normal ?_
          refine w_seq ?_
          refine w_seq ?_
          refine w_region ?_
          refine l_cons rfl (p_fap fa_29_2 ?_)
          refine l_cons rfl (p_loadp ty_27 ?_)
          first | refine l_cons rfl (p_lenl sl_27 ?_) | refine l_cons rfl (p_leno sl_27 ?_) | refine l_cons rfl (p_lenn sl_27 ?_)
          refine l_cons rfl (p_fap fa_29_2 ?_)
          refine l_cons rfl (p_loadp ty_27 ?_)
          first | refine l_cons rfl (p_lenl sl_27 ?_) | refine l_cons rfl (p_leno sl_27 ?_) | refine l_cons rfl (p_lenn sl_27 ?_)
          refine l_cons rfl (p_cmp ?_)
          refine l_nil ?_
          refine k_seq_normal ?_
          refine w_b (fun h19 => ?_) (fun h19 => ?_)
          · skip
            have h19' := h19; (try simp only [decide_eq_true_eq, decide_eq_false_iff_not, Bool.not_eq_true', Bool.not_false, Bool.not_true, Bool.not_eq_false'] at h19')
            refine w_seq ?_
            refine w_region ?_
            refine l_cons rfl (p_assign ?_)
            refine l_nil ?_
            refine k_seq_normal ?_
            refine w_ret ?_
            refine k_seq_ret ?_
            exact ret1 rfl (by simp only [ev_tmp, ev_const, ev_func, ofConst_int, ofConst_bool, ofConst_str, ofConst_nil, upd_apply, Nat.reduceEqDiff, ↓reduceIte] <;> exact rfl) (by first | exact Sub.refl _ | exact sub1 _ _ | exact sub2 _ _ _ | exact sub3 _ _ _ _ | exact sub4 _ _ _ _ _ | exact sub5 _ _ _ _ _ _) ⟨by rw [hargs, cmpL_at (k := k) hk1 hk2 hk3 (by omega), if_neg (by omega), if_pos (by omega)], rfl⟩
          · skip
            have h19' := h19; (try simp only [decide_eq_true_eq, decide_eq_false_iff_not, Bool.not_eq_true', Bool.not_false, Bool.not_true, Bool.not_eq_false'] at h19')
            refine w_skip ?_
            refine k_seq_normal ?_
            refine w_seq ?_
            refine w_region ?_
            refine l_cons rfl (p_assign ?_)
            refine l_nil ?_
            refine k_seq_normal ?_
            refine w_ret ?_
            exact ret1 rfl (by simp only [ev_tmp, ev_const, ev_func, ofConst_int, ofConst_bool, ofConst_str, ofConst_nil, upd_apply, Nat.reduceEqDiff, ↓reduceIte] <;> exact rfl) (by first | exact Sub.refl _ | exact sub1 _ _ | exact sub2 _ _ _ | exact sub3 _ _ _ _ | exact sub4 _ _ _ _ _ | exact sub5 _ _ _ _ _ _) ⟨by rw [hargs, cmpL_at (k := k) hk1 hk2 hk3 (by omega), if_neg (by omega), if_neg (by omega)], rfl⟩
theorem refEqual {w0 : World} {es : List Ent} (a b : Rx) (ha : a.ok) (hb : b.ok) : ACalls Tryd.prog w0 122 [.agg a.cells, .agg b.cells] es fun v es' => v = .bool (decide (a.cmp b = 0)) ∧ es' = es := by
  refine calls2 (N := 9) Tryd.func122 rfl rfl (by decide) ?_
  refine w_seq ?_
  refine w_region ?_
  refine l_cons rfl (p_box fun s2 => ?_)
  refine l_cons rfl (p_box fun s3 => ?_)
  refine l_cons rfl (p_assign ?_)
  refine l_nil ?_
  refine k_seq_normal ?_
  refine w_seq ?_
  refine w_region ?_
  refine l_cons rfl (p_loadp ty_29 ?_)
  refine l_cons rfl (p_loadp ty_29 ?_)
  refine l_cons rfl (p_callr en_121 (refCompare _ a b _ (Nat.le_refl _) ha hb) ?_)
  refine l_cons rfl (p_cmp ?_)
  refine l_cons rfl (p_assign ?_)
  refine l_nil ?_
  refine k_seq_normal ?_
  refine w_ret ?_
  exact ret1 rfl (by simp only [ev_tmp, ev_const, ev_func, ofConst_int, ofConst_bool, ofConst_str, ofConst_nil, upd_apply, Nat.reduceEqDiff, ↓reduceIte] <;> exact rfl) (by first | exact Sub.refl _ | exact sub1 _ _ | exact sub2 _ _ _ | exact sub3 _ _ _ _ | exact sub4 _ _ _ _ _ | exact sub5 _ _ _ _ _ _) ⟨rfl, rfl⟩
end Go.Proofs.YtfdgbghlanbddaaDoor.Av
set_option linter.unusedVariables false
set_option linter.unusedSimpArgs false
set_option maxRecDepth 8000
namespace Go.Proofs.YtfdgbghlanbddaaDoor.Av
open Go.RowKit Go.Proofs
theorem rxrow_at {l : List Rx} {k : Nat} (h : k < l.length) : (l.map Rx.cells)[k]? = some (l[k]).cells := by simp [h]
theorem notIn_not (ks : List Int) (l : List Rx) : (l.any fun r => ks.contains r.kind) = !(notIn ks l) := by
  unfold notIn
  induction l with
  | nil => rfl
  | cons a t ih => simp only [List.any_cons, List.all_cons, ih]; cases ks.contains a.kind <;> simp
theorem setsR_take (l : List Rx) (k : Nat) (hk : k < l.length) : setsR (l.take (k + 1)) = setsR (l.take k) + (if l[k].kind = 3 then 1 else 0) := by
  unfold setsR
  rw [List.take_add_one, List.getElem?_eq_getElem hk, List.countP_append]
  simp [List.countP_cons]
theorem setsR_le (l : List Rx) : setsR l ≤ l.length := List.countP_le_length
theorem chainR_yes : ∀ {l : List Rx}, (∀ j (h0 : 0 < j) (hj : j < l.length), l[j - 1].cmp l[j] = -1) → chainR l = true
  | [], _ => rfl
  | [a], _ => rfl
  | a :: b :: t, h => by
    simp only [chainR, Bool.and_eq_true, decide_eq_true_eq]
    refine ⟨h 1 (by omega) (by simp), chainR_yes fun j h0 hj => ?_⟩
    have := h (j + 1) (by omega) (by simpa using hj)
    rcases j with _ | j
    · omega
    · simpa using this
theorem chainR_no : ∀ {l : List Rx} {k : Nat} (h0 : 0 < k) (hk : k < l.length), l[k - 1].cmp l[k] ≠ -1 → chainR l = false
  | [], k, _, hk, _ => by simp at hk
  | [a], k, h0, hk, _ => by simp at hk; omega
  | a :: b :: t, k, h0, hk, h => by
    simp only [chainR]
    rcases k with _ | _ | k
    · omega
    · simp only [Nat.zero_add, Nat.sub_self, List.getElem_cons_zero, List.getElem_cons_succ] at h
      simp [h]
    · have := chainR_no (l := b :: t) (k := k + 1) (by omega) (by simpa using hk) (by simpa using h)
      rw [this]; simp
theorem plainL_any (l : List Rx) : Rx.plainL l = !(l.any fun x => !x.plain) := by
  induction l with
  | nil => simp [Rx.plainL]
  | cons a t ih => simp only [Rx.plainL, List.any_cons, ih]; cases a.plain <;> simp
theorem plain_of (r : Rx) : r.plain = (right r.kind r.set r.args && !(r.args.any fun x => !x.plain)) := by
  cases r
  rw [Rx.plain, plainL_any]
  rfl
theorem nodes_mem_lt {r x : Rx} (h : x ∈ r.args) : x.nodes + 1 ≤ r.nodes := by
  obtain ⟨k, hk, rfl⟩ := List.mem_iff_getElem.1 h
  exact r.nodes_arg hk
theorem indexFuncR {w0 : World} {es : List Ent} {l : List Rx} {g : Nat} {l1 l2 : List AV} (p : Rx → Bool) (hg : enterB Tryd.prog g = true) (hp : ∀ x ∈ l, ACalls Tryd.prog w0 g (l1 ++ [.agg x.cells] ++ l2) es fun v es2 => v = .bool (p x) ∧ es2 = es) : ACalls Tryd.prog w0 157 [.list 6 (l.map Rx.cells), .fn (.func g) l1 l2] es fun v es' => v = .int .i64 (firstIdx p l) ∧ es' = es := by
  refine calls2 (N := 19) Tryd.func157 rfl rfl (by decide) ?_
  refine w_seq ?_
  refine w_region ?_
  refine l_cons rfl (p_assign ?_)
  refine l_nil ?_
  refine k_seq_normal ?_
  refine w_seq ?_
  refine w_seq ?_
  refine w_len 0 fun hl => ?_
  rw [List.length_map] at hl
  simp only [most] at hl
  refine w_region ?_
  refine l_cons rfl (p_move ?_)
  refine l_cons rfl (p_lenl sl_27 ?_)
  refine l_cons rfl (p_move ?_)
  refine l_nil ?_
  refine k_seq_normal ?_
  refine w_block ?_
  refine w_loop (fun n f es' => ∃ k, n = l.length - k ∧ k ≤ l.length ∧ (∀ j (hj : j < k) (hjl : j < l.length), p l[j] = false) ∧ es' = es ∧ Knows f [(0, .list 6 (l.map Rx.cells)), (1, .fn (.func g) l1 l2), (7, .int .i64 l.length), (8, .int .i64 k)]) (l.length) (⟨0, rfl, Nat.zero_le _, fun j hj => absurd hj (Nat.not_lt_zero _), rfl, by simp only [Knows, put, upd_apply, Nat.reduceEqDiff, ↓reduceIte, and_true, true_and, eq_self] <;> and_intros <;> rfl⟩) ?_
  rintro n f es' ⟨k, rfl, hk1, hk2, rfl, hk⟩
  refine w_pins _ (Sub.refl _) (hk) ?_
  simp only [pins]
  refine w_seq ?_
  refine w_region ?_
  refine l_cons rfl (p_cmp ?_)
  refine l_nil ?_
  refine k_seq_normal ?_
  refine w_seq ?_
  refine w_b (fun h1 => ?_) (fun h1 => ?_)
  · skip
    have h1' := h1; (try simp only [decide_eq_true_eq, decide_eq_false_iff_not, Bool.not_eq_true', Bool.not_false, Bool.not_true, Bool.not_eq_false'] at h1')
    refine w_skip ?_
    refine k_seq_normal ?_
    refine w_seq ?_
    refine w_block ?_
    refine w_seq ?_
    refine w_region ?_
    refine l_cons rfl (p_move ?_)
    refine l_cons rfl (p_assign ?_)
    refine l_nil ?_
    refine k_seq_normal ?_
    refine w_seq ?_
    refine w_region ?_
    refine l_cons rfl (p_move ?_)
    refine l_cons rfl (p_move ?_)
    refine l_cons rfl (p_move ?_)
    refine l_cons rfl (p_ixl sl_27 ?_)
    refine l_cons rfl (p_loadf ty_29 ?_)
    refine l_cons rfl (p_callr hg (hp (l[k]'(by omega)) (List.getElem_mem _)) ?_)
    refine l_nil ?_
    refine k_seq_normal ?_
    refine w_b (fun h2 => ?_) (fun h2 => ?_)
    · skip
      have h2' := h2; (try simp only [decide_eq_true_eq, decide_eq_false_iff_not, Bool.not_eq_true', Bool.not_false, Bool.not_true, Bool.not_eq_false'] at h2')
      refine w_seq ?_
      refine w_region ?_
      refine l_cons rfl (p_move ?_)
      refine l_cons rfl (p_assign ?_)
      refine l_nil ?_
      refine k_seq_normal ?_
      refine w_ret ?_
      refine k_blk_ret ?_
      refine k_seq_ret ?_
      refine k_seq_ret ?_
      refine k_blk_ret ?_
      refine k_seq_ret ?_
      exact ret1 rfl (by simp only [ev_tmp, ev_const, ev_func, ofConst_int, ofConst_bool, ofConst_str, ofConst_nil, upd_apply, Nat.reduceEqDiff, ↓reduceIte] <;> exact rfl) (by first | exact Sub.refl _ | exact sub1 _ _ | exact sub2 _ _ _ | exact sub3 _ _ _ _ | exact sub4 _ _ _ _ _ | exact sub5 _ _ _ _ _ _) ⟨by rw [firstIdx_at (l := l) (k := k) (by omega) (fun j hj => hk2 j hj (by omega)) (by assumption)], rfl⟩
    · skip
      have h2' := h2; (try simp only [decide_eq_true_eq, decide_eq_false_iff_not, Bool.not_eq_true', Bool.not_false, Bool.not_true, Bool.not_eq_false'] at h2')
      refine w_skip ?_
      refine k_blk_normal ?_
      refine k_seq_normal ?_
      refine w_region ?_
      refine l_cons rfl (p_arith ?_)
      refine l_cons rfl (p_move ?_)
      refine l_nil ?_
      refine k_seq_normal ?_
      exact ⟨l.length - (k + 1), by omega, k + 1, rfl, by omega, fun j hj hjl => by
        rcases Nat.lt_or_eq_of_le (Nat.le_of_lt_succ hj) with h9 | h9
        · exact hk2 j h9 hjl
        · subst h9; assumption, rfl, by simp only [Knows, put, upd_apply, Nat.reduceEqDiff, ↓reduceIte, and_true, true_and, eq_self] <;> and_intros <;> rfl⟩
  · skip
    have h1' := h1; (try simp only [decide_eq_true_eq, decide_eq_false_iff_not, Bool.not_eq_true', Bool.not_false, Bool.not_true, Bool.not_eq_false'] at h1')
    refine w_exit ?_
    refine k_seq_exit ?_
    refine k_seq_exit ?_
    refine k_blk_here ?_
    refine k_seq_normal ?_
    refine w_seq ?_
    refine w_region ?_
    refine l_cons rfl (p_assign ?_)
    refine l_nil ?_
    refine k_seq_normal ?_
    refine w_ret ?_
    exact ret1 rfl (by simp only [ev_tmp, ev_const, ev_func, ofConst_int, ofConst_bool, ofConst_str, ofConst_nil, upd_apply, Nat.reduceEqDiff, ↓reduceIte] <;> exact rfl) (by first | exact Sub.refl _ | exact sub1 _ _ | exact sub2 _ _ _ | exact sub3 _ _ _ _ | exact sub4 _ _ _ _ _ | exact sub5 _ _ _ _ _ _) ⟨by rw [firstIdx_no (l := l) (fun j hj => hk2 j (by omega) hj)], rfl⟩
theorem containsFuncR {w0 : World} {es : List Ent} {l : List Rx} {g : Nat} {l1 l2 : List AV} (p : Rx → Bool) (hg : enterB Tryd.prog g = true) (hp : ∀ x ∈ l, ACalls Tryd.prog w0 g (l1 ++ [.agg x.cells] ++ l2) es fun v es2 => v = .bool (p x) ∧ es2 = es) : ACalls Tryd.prog w0 140 [.list 6 (l.map Rx.cells), .fn (.func g) l1 l2] es fun v es' => v = .bool (l.any p) ∧ es' = es := by
  refine calls2 (N := 9) Tryd.func140 rfl rfl (by decide) ?_
  refine w_seq ?_
  refine w_region ?_
  refine l_cons rfl (p_assign ?_)
  refine l_nil ?_
  refine k_seq_normal ?_
  refine w_seq ?_
  refine w_region ?_
  refine l_cons rfl (p_move ?_)
  refine l_cons rfl (p_move ?_)
  refine l_cons rfl (p_callr en_157 (indexFuncR p hg hp) ?_)
  refine l_cons rfl (p_cmp ?_)
  refine l_cons rfl (p_assign ?_)
  refine l_nil ?_
  refine k_seq_normal ?_
  refine w_ret ?_
  exact ret1 rfl (by simp only [ev_tmp, ev_const, ev_func, ofConst_int, ofConst_bool, ofConst_str, ofConst_nil, upd_apply, Nat.reduceEqDiff, ↓reduceIte] <;> exact rfl) (by first | exact Sub.refl _ | exact sub1 _ _ | exact sub2 _ _ _ | exact sub3 _ _ _ _ | exact sub4 _ _ _ _ _ | exact sub5 _ _ _ _ _ _) ⟨by rw [← firstIdx_ge], rfl⟩
theorem bad1_walk {w0 : World} {es : List Ent} (r : Rx) (ks : List Int) {id s : Nat} (h : at_ es id = some (.row s 48 1 [[ints ks]])) : ACalls Tryd.prog w0 159 [.agg r.cells, .ptr id s 0 0] es fun v es' => v = .bool (ks.contains r.kind) ∧ es' = es := by
  rw [Rx.cells_eq r]
  refine calls2 (N := 8) Tryd.func159 rfl rfl (by decide) ?_
  refine w_seq ?_
  refine w_region ?_
  refine l_cons rfl (p_box fun s2 => ?_)
  refine l_cons rfl (p_assign ?_)
  refine l_nil ?_
  refine k_seq_normal ?_
  refine w_seq ?_
  refine w_region ?_
  refine l_cons rfl (p_loadp ty_48 ?_)
  refine l_cons rfl (p_fap fa_29_0 ?_)
  refine l_cons rfl (p_loadp ty_3 ?_)
  refine l_cons rfl (p_callr en_80 (contains_walk ks r.kind) ?_)
  refine l_cons rfl (p_assign ?_)
  refine l_nil ?_
  refine k_seq_normal ?_
  refine w_ret ?_
  exact ret1 rfl (by simp only [ev_tmp, ev_const, ev_func, ofConst_int, ofConst_bool, ofConst_str, ofConst_nil, upd_apply, Nat.reduceEqDiff, ↓reduceIte] <;> exact rfl) (by first | exact Sub.refl _ | exact sub1 _ _ | exact sub2 _ _ _ | exact sub3 _ _ _ _ | exact sub4 _ _ _ _ _ | exact sub5 _ _ _ _ _ _) ⟨rfl, rfl⟩
theorem bad_walk {w0 : World} {es : List Ent} (l : List Rx) (ks : List Int) : ACalls Tryd.prog w0 145 [.list 6 (l.map Rx.cells), ints ks] es fun v es' => v = .bool (!(notIn ks l)) ∧ es' = es := by
  unfold ints
  refine calls2 (N := 8) Tryd.func145 rfl rfl (by decide) ?_
  refine w_seq ?_
  refine w_region ?_
  refine l_cons rfl (p_box fun s3 => ?_)
  refine l_cons rfl (p_assign ?_)
  refine l_nil ?_
  refine k_seq_normal ?_
  refine w_seq ?_
  refine w_region ?_
  refine l_cons rfl (p_move ?_)
  refine l_cons rfl (p_mkfn ?_)
  refine l_cons rfl (p_callr en_140 (containsFuncR (l1 := []) (l2 := [.ptr es.length s3 0 0]) (fun r => ks.contains r.kind) en_159 (fun x _ => bad1_walk x ks (at_hit _ _))) ?_)
  refine l_cons rfl (p_assign ?_)
  refine l_nil ?_
  refine k_seq_normal ?_
  refine w_ret ?_
  exact ret1 rfl (by simp only [ev_tmp, ev_const, ev_func, ofConst_int, ofConst_bool, ofConst_str, ofConst_nil, upd_apply, Nat.reduceEqDiff, ↓reduceIte] <;> exact rfl) (by first | exact Sub.refl _ | exact sub1 _ _ | exact sub2 _ _ _ | exact sub3 _ _ _ _ | exact sub4 _ _ _ _ _ | exact sub5 _ _ _ _ _ _) ⟨by rw [notIn_not], rfl⟩
theorem rising_walk {w0 : World} (hT : Tab w0) {es : List Ent} (l : List Rx) (ho : ∀ r ∈ l, r.ok) : ACalls Tryd.prog w0 146 [.list 6 (l.map Rx.cells)] es fun v es' => v = .bool (chainR l && decide (setsR l ≤ 1)) ∧ es' = es := by
  refine calls1 (N := 32) Tryd.func146 rfl rfl (by decide) ?_
  refine w_seq ?_
  refine w_region ?_
  refine l_cons rfl (p_assign ?_)
  refine l_nil ?_
  refine k_seq_normal ?_
  refine w_seq ?_
  refine w_len 0 fun hl => ?_
  rw [List.length_map] at hl
  simp only [most] at hl
  refine w_region ?_
  refine l_cons rfl (p_assign ?_)
  refine l_nil ?_
  refine k_seq_normal ?_
  refine w_seq ?_
  refine w_seq ?_
  refine w_region ?_
  refine l_cons rfl (p_move ?_)
  refine l_cons rfl (p_lenl sl_27 ?_)
  refine l_cons rfl (p_move ?_)
  refine l_nil ?_
  refine k_seq_normal ?_
  refine w_block ?_
  refine w_loop (fun n f es' => ∃ k, n = l.length - k ∧ k ≤ l.length ∧ (∀ j (h0 : 0 < j) (hj : j < k) (hjl : j < l.length), l[j - 1].cmp l[j] = -1) ∧ Sub es es' ∧ Knows f [(0, .list 6 (l.map Rx.cells)), (3, .int .i64 (setsR (l.take k))), (6, .list 6 (l.map Rx.cells)), (7, .int .i64 l.length), (8, .int .i64 k)]) (l.length) (⟨0, rfl, Nat.zero_le _, fun j _ hj => absurd hj (Nat.not_lt_zero _), Sub.refl _, by simp only [Knows, put, upd_apply, Nat.reduceEqDiff, ↓reduceIte, and_true, true_and, eq_self] <;> and_intros <;> rfl⟩) ?_
  rintro n f es' ⟨k, rfl, hk1, hk2, hsub, hk⟩
  refine w_pins _ hsub (hk) ?_
  simp only [pins]
  refine w_seq ?_
  refine w_region ?_
  refine l_cons rfl (p_cmp ?_)
  refine l_nil ?_
  refine k_seq_normal ?_
  refine w_seq ?_
  refine w_b (fun h1 => ?_) (fun h1 => ?_)
  · skip
    have h1' := h1; (try simp only [decide_eq_true_eq, decide_eq_false_iff_not, Bool.not_eq_true', Bool.not_false, Bool.not_true, Bool.not_eq_false'] at h1')
    refine w_skip ?_
    refine k_seq_normal ?_
    refine w_seq ?_
    refine w_block ?_
    refine w_seq ?_
    refine w_region ?_
    refine l_cons rfl (p_move ?_)
    refine l_cons rfl (p_ixl sl_27 ?_)
    refine l_cons rfl (p_loadf ty_29 ?_)
    refine l_cons rfl (p_alloc ze_29 fun s5 => ?_)
    refine l_cons rfl (p_assign ?_)
    refine l_cons rfl (p_store ty_29 ?_)
    refine l_nil ?_
    refine k_seq_normal ?_
    refine w_seq ?_
    refine w_seq ?_
    have hset := setsR_take l k (by omega)
    have hsl := setsR_le (l.take k)
    rw [List.length_take] at hsl
    refine w_region ?_
    refine l_cons rfl (p_loadp ty_29 ?_)
    refine l_cons rfl (p_callr en_133 (isSet_walk (l[k]'(by omega))) ?_)
    refine l_nil ?_
    refine k_seq_normal ?_
    refine w_b (fun h2 => ?_) (fun h2 => ?_)
    · skip
      have h2' := h2; (try simp only [decide_eq_true_eq, decide_eq_false_iff_not, Bool.not_eq_true', Bool.not_false, Bool.not_true, Bool.not_eq_false'] at h2')
      refine w_region ?_
      refine l_cons rfl (p_move ?_)
      refine l_cons rfl (p_arith ?_)
      refine l_cons rfl (p_assign ?_)
      refine l_nil ?_
      refine k_seq_normal ?_
      refine w_seq ?_
      refine w_drawn 9 [] (fun e => e = _) mixed (by kernel_rfl) rfl ?_
      refine q1 4 (hg := rfl) (hu := rfl) (h := by rintro f _ rfl; exact p_move ⟨rfl, rfl⟩) (k := ?_)
      refine q1 17 (hg := rfl) (hu := rfl) (h := by rintro f _ rfl; exact p_cmp ⟨rfl, rfl⟩) (k := ?_)
      refine q1 18 (hg := rfl) (hu := rfl) (h := by rintro f _ rfl; exact p_move ⟨rfl, rfl⟩) (k := ?_)
      refine qsplit 19 (fun h3 => ?_) (fun h3 => ?_)
      · skip
        have h3' := h3; (try simp only [decide_eq_true_eq, decide_eq_false_iff_not, Bool.not_eq_true', Bool.not_false, Bool.not_true, Bool.not_eq_false'] at h3')
        refine qy1 0 (hg := rfl) (hw := h3) (hu := rfl) (h := by rintro f _ rfl; exact p_move ⟨rfl, rfl⟩) (k := ?_)
        refine qy1 4 (hg := rfl) (hw := h3) (hu := rfl) (h := by rintro f _ rfl; exact p_move ⟨rfl, rfl⟩) (k := ?_)
        refine qy1 21 (hg := rfl) (hw := h3) (hu := rfl) (h := by rintro f _ rfl; exact p_arith ⟨rfl, rfl⟩) (k := ?_)
        refine qy2 20 22 (hg := rfl) (hw := h3) (hu := rfl) (h := by rintro f _ rfl; exact p_ixl sl_27 (a := .fptr 6 (l.map Rx.cells) (k - 1) 0) ⟨rfl, rfl⟩ (h0 := by omega) (h1 := by simp only [List.length_map]; omega) (ho := by congr 1; omega)) (k := ?_)
        refine qy1 23 (hg := rfl) (hw := h3) (hu := rfl) (h := by rintro f _ rfl; exact p_loadf ty_29 (a := .agg (l[k - 1]'(by omega)).cells) ⟨rfl, rfl⟩ (hr := rxrow_at (l := l) (k := k - 1) (by omega)) (hl := Nat.le_refl 6) (ha := rfl)) (k := ?_)
        refine qy1 5 (hg := rfl) (hw := h3) (hu := rfl) (h := by rintro f _ rfl; exact p_loadp ty_29 ⟨rfl, rfl⟩) (k := ?_)
        refine q_end ?_
        refine m_end ?_
        refine g_y rfl h3 (p_callr en_136 (rxCompare hT _ (l[k - 1]'(by omega)) (l[k]'(by omega)) _ (Nat.le_refl _) (ho _ (List.getElem_mem _)) (ho _ (List.getElem_mem _))) ?_)
        refine g_y rfl h3 (p_cmp ?_)
        refine l_cons rfl (p_pickt h3 ?_)
        refine l_nil ?_
        refine k_seq_normal ?_
        refine w_b (fun h4 => ?_) (fun h4 => ?_)
        · skip
          have h4' := h4; (try simp only [decide_eq_true_eq, decide_eq_false_iff_not, Bool.not_eq_true', Bool.not_false, Bool.not_true, Bool.not_eq_false'] at h4')
          refine w_seq ?_
          refine w_region ?_
          refine l_cons rfl (p_assign ?_)
          refine l_nil ?_
          refine k_seq_normal ?_
          refine w_ret ?_
          refine k_blk_ret ?_
          refine k_seq_ret ?_
          refine k_seq_ret ?_
          refine k_blk_ret ?_
          refine k_seq_ret ?_
          exact ret1 rfl (by simp only [ev_tmp, ev_const, ev_func, ofConst_int, ofConst_bool, ofConst_str, ofConst_nil, upd_apply, Nat.reduceEqDiff, ↓reduceIte] <;> exact rfl) (by first | exact Sub.refl _ | exact sub1 _ _ | exact sub2 _ _ _ | exact sub3 _ _ _ _ | exact sub4 _ _ _ _ _ | exact sub5 _ _ _ _ _ _) ⟨by rw [chainR_no (l := l) (k := k) (by omega) (by omega) (by have := Rx.cmp_range l[k - 1] l[k]; omega)]; rfl, rfl⟩
        · skip
          have h4' := h4; (try simp only [decide_eq_true_eq, decide_eq_false_iff_not, Bool.not_eq_true', Bool.not_false, Bool.not_true, Bool.not_eq_false'] at h4')
          refine w_skip ?_
          refine k_blk_normal ?_
          refine k_seq_normal ?_
          refine w_region ?_
          refine l_cons rfl (p_arith ?_)
          refine l_cons rfl (p_move ?_)
          refine l_nil ?_
          refine k_seq_normal ?_
          refine ⟨l.length - (k + 1), by omega, k + 1, rfl, by omega, ?_, sub1 _ _, ?_⟩
          · intro j h0 hj hjl
            rcases Nat.lt_or_eq_of_le (Nat.le_of_lt_succ hj) with h9 | h9
            · exact hk2 j h0 h9 hjl
            · subst h9; have := Rx.cmp_range l[j - 1] l[j]; simp_all <;> omega
          · simp only [Knows, put, upd_apply, Nat.reduceEqDiff, ↓reduceIte, and_true, true_and, eq_self, hset]
            first | exact ⟨by congr 1; simp [*], rfl⟩ | (refine ⟨?_, ?_⟩ <;> first | rfl | (congr 1; simp [*]; done)) | (congr 1; simp [*])
      · skip
        have h3' := h3; (try simp only [decide_eq_true_eq, decide_eq_false_iff_not, Bool.not_eq_true', Bool.not_false, Bool.not_true, Bool.not_eq_false'] at h3')
        refine qn rfl h3 ?_
        refine qn rfl h3 ?_
        refine qn rfl h3 ?_
        refine qn rfl h3 ?_
        refine qn rfl h3 ?_
        refine qn rfl h3 ?_
        refine q_end ?_
        refine m_end ?_
        refine g_n rfl h3 ?_
        refine g_n rfl h3 ?_
        refine l_cons rfl (p_pickf h3 ?_)
        refine l_nil ?_
        refine k_seq_normal ?_
        refine w_f rfl ?_
        refine w_skip ?_
        refine k_blk_normal ?_
        refine k_seq_normal ?_
        refine w_region ?_
        refine l_cons rfl (p_arith ?_)
        refine l_cons rfl (p_move ?_)
        refine l_nil ?_
        refine k_seq_normal ?_
        refine ⟨l.length - (k + 1), by omega, k + 1, rfl, by omega, ?_, sub1 _ _, ?_⟩
        · intro j h0 hj hjl
          rcases Nat.lt_or_eq_of_le (Nat.le_of_lt_succ hj) with h9 | h9
          · exact hk2 j h0 h9 hjl
          · subst h9; have := Rx.cmp_range l[j - 1] l[j]; simp_all <;> omega
        · simp only [Knows, put, upd_apply, Nat.reduceEqDiff, ↓reduceIte, and_true, true_and, eq_self, hset]
          first | exact ⟨by congr 1; simp [*], rfl⟩ | (refine ⟨?_, ?_⟩ <;> first | rfl | (congr 1; simp [*]; done)) | (congr 1; simp [*])
    · skip
      have h2' := h2; (try simp only [decide_eq_true_eq, decide_eq_false_iff_not, Bool.not_eq_true', Bool.not_false, Bool.not_true, Bool.not_eq_false'] at h2')
      refine w_skip ?_
      refine k_seq_normal ?_
      refine w_seq ?_
      refine w_drawn 9 [] (fun e => e = _) mixed (by kernel_rfl) rfl ?_
      refine q1 4 (hg := rfl) (hu := rfl) (h := by rintro f _ rfl; exact p_move ⟨rfl, rfl⟩) (k := ?_)
      refine q1 17 (hg := rfl) (hu := rfl) (h := by rintro f _ rfl; exact p_cmp ⟨rfl, rfl⟩) (k := ?_)
      refine q1 18 (hg := rfl) (hu := rfl) (h := by rintro f _ rfl; exact p_move ⟨rfl, rfl⟩) (k := ?_)
      refine qsplit 19 (fun h5 => ?_) (fun h5 => ?_)
      · skip
        have h5' := h5; (try simp only [decide_eq_true_eq, decide_eq_false_iff_not, Bool.not_eq_true', Bool.not_false, Bool.not_true, Bool.not_eq_false'] at h5')
        refine qy1 0 (hg := rfl) (hw := h5) (hu := rfl) (h := by rintro f _ rfl; exact p_move ⟨rfl, rfl⟩) (k := ?_)
        refine qy1 4 (hg := rfl) (hw := h5) (hu := rfl) (h := by rintro f _ rfl; exact p_move ⟨rfl, rfl⟩) (k := ?_)
        refine qy1 21 (hg := rfl) (hw := h5) (hu := rfl) (h := by rintro f _ rfl; exact p_arith ⟨rfl, rfl⟩) (k := ?_)
        refine qy2 20 22 (hg := rfl) (hw := h5) (hu := rfl) (h := by rintro f _ rfl; exact p_ixl sl_27 (a := .fptr 6 (l.map Rx.cells) (k - 1) 0) ⟨rfl, rfl⟩ (h0 := by omega) (h1 := by simp only [List.length_map]; omega) (ho := by congr 1; omega)) (k := ?_)
        refine qy1 23 (hg := rfl) (hw := h5) (hu := rfl) (h := by rintro f _ rfl; exact p_loadf ty_29 (a := .agg (l[k - 1]'(by omega)).cells) ⟨rfl, rfl⟩ (hr := rxrow_at (l := l) (k := k - 1) (by omega)) (hl := Nat.le_refl 6) (ha := rfl)) (k := ?_)
        refine qy1 5 (hg := rfl) (hw := h5) (hu := rfl) (h := by rintro f _ rfl; exact p_loadp ty_29 ⟨rfl, rfl⟩) (k := ?_)
        refine q_end ?_
        refine m_end ?_
        refine g_y rfl h5 (p_callr en_136 (rxCompare hT _ (l[k - 1]'(by omega)) (l[k]'(by omega)) _ (Nat.le_refl _) (ho _ (List.getElem_mem _)) (ho _ (List.getElem_mem _))) ?_)
        refine g_y rfl h5 (p_cmp ?_)
        refine l_cons rfl (p_pickt h5 ?_)
        refine l_nil ?_
        refine k_seq_normal ?_
        refine w_b (fun h6 => ?_) (fun h6 => ?_)
        · skip
          have h6' := h6; (try simp only [decide_eq_true_eq, decide_eq_false_iff_not, Bool.not_eq_true', Bool.not_false, Bool.not_true, Bool.not_eq_false'] at h6')
          refine w_seq ?_
          refine w_region ?_
          refine l_cons rfl (p_assign ?_)
          refine l_nil ?_
          refine k_seq_normal ?_
          refine w_ret ?_
          refine k_blk_ret ?_
          refine k_seq_ret ?_
          refine k_seq_ret ?_
          refine k_blk_ret ?_
          refine k_seq_ret ?_
          exact ret1 rfl (by simp only [ev_tmp, ev_const, ev_func, ofConst_int, ofConst_bool, ofConst_str, ofConst_nil, upd_apply, Nat.reduceEqDiff, ↓reduceIte] <;> exact rfl) (by first | exact Sub.refl _ | exact sub1 _ _ | exact sub2 _ _ _ | exact sub3 _ _ _ _ | exact sub4 _ _ _ _ _ | exact sub5 _ _ _ _ _ _) ⟨by rw [chainR_no (l := l) (k := k) (by omega) (by omega) (by have := Rx.cmp_range l[k - 1] l[k]; omega)]; rfl, rfl⟩
        · skip
          have h6' := h6; (try simp only [decide_eq_true_eq, decide_eq_false_iff_not, Bool.not_eq_true', Bool.not_false, Bool.not_true, Bool.not_eq_false'] at h6')
          refine w_skip ?_
          refine k_blk_normal ?_
          refine k_seq_normal ?_
          refine w_region ?_
          refine l_cons rfl (p_arith ?_)
          refine l_cons rfl (p_move ?_)
          refine l_nil ?_
          refine k_seq_normal ?_
          refine ⟨l.length - (k + 1), by omega, k + 1, rfl, by omega, ?_, sub1 _ _, ?_⟩
          · intro j h0 hj hjl
            rcases Nat.lt_or_eq_of_le (Nat.le_of_lt_succ hj) with h9 | h9
            · exact hk2 j h0 h9 hjl
            · subst h9; have := Rx.cmp_range l[j - 1] l[j]; simp_all <;> omega
          · simp only [Knows, put, upd_apply, Nat.reduceEqDiff, ↓reduceIte, and_true, true_and, eq_self, hset]
            first | exact ⟨by congr 1; simp [*], rfl⟩ | (refine ⟨?_, ?_⟩ <;> first | rfl | (congr 1; simp [*]; done)) | (congr 1; simp [*])
      · skip
        have h5' := h5; (try simp only [decide_eq_true_eq, decide_eq_false_iff_not, Bool.not_eq_true', Bool.not_false, Bool.not_true, Bool.not_eq_false'] at h5')
        refine qn rfl h5 ?_
        refine qn rfl h5 ?_
        refine qn rfl h5 ?_
        refine qn rfl h5 ?_
        refine qn rfl h5 ?_
        refine qn rfl h5 ?_
        refine q_end ?_
        refine m_end ?_
        refine g_n rfl h5 ?_
        refine g_n rfl h5 ?_
        refine l_cons rfl (p_pickf h5 ?_)
        refine l_nil ?_
        refine k_seq_normal ?_
        refine w_f rfl ?_
        refine w_skip ?_
        refine k_blk_normal ?_
        refine k_seq_normal ?_
        refine w_region ?_
        refine l_cons rfl (p_arith ?_)
        refine l_cons rfl (p_move ?_)
        refine l_nil ?_
        refine k_seq_normal ?_
        refine ⟨l.length - (k + 1), by omega, k + 1, rfl, by omega, ?_, sub1 _ _, ?_⟩
        · intro j h0 hj hjl
          rcases Nat.lt_or_eq_of_le (Nat.le_of_lt_succ hj) with h9 | h9
          · exact hk2 j h0 h9 hjl
          · subst h9; have := Rx.cmp_range l[j - 1] l[j]; simp_all <;> omega
        · simp only [Knows, put, upd_apply, Nat.reduceEqDiff, ↓reduceIte, and_true, true_and, eq_self, hset]
          first | exact ⟨by congr 1; simp [*], rfl⟩ | (refine ⟨?_, ?_⟩ <;> first | rfl | (congr 1; simp [*]; done)) | (congr 1; simp [*])
  · skip
    have h1' := h1; (try simp only [decide_eq_true_eq, decide_eq_false_iff_not, Bool.not_eq_true', Bool.not_false, Bool.not_true, Bool.not_eq_false'] at h1')
    refine w_exit ?_
    refine k_seq_exit ?_
    refine k_seq_exit ?_
    refine k_blk_here ?_
    refine k_seq_normal ?_
    refine w_seq ?_
    refine w_region ?_
    refine l_cons rfl (p_move ?_)
    refine l_cons rfl (p_cmp ?_)
    refine l_cons rfl (p_assign ?_)
    refine l_nil ?_
    refine k_seq_normal ?_
    refine w_ret ?_
    exact ret1 rfl (by simp only [ev_tmp, ev_const, ev_func, ofConst_int, ofConst_bool, ofConst_str, ofConst_nil, upd_apply, Nat.reduceEqDiff, ↓reduceIte] <;> exact rfl) (by first | exact Sub.refl _ | exact sub1 _ _ | exact sub2 _ _ _ | exact sub3 _ _ _ _ | exact sub4 _ _ _ _ _ | exact sub5 _ _ _ _ _ _) ⟨by rw [chainR_yes (fun j h0 hj => hk2 j h0 (by omega) hj), List.take_of_length_le (by omega)]; simp only [Bool.true_and]; congr 1; rw [decide_eq_decide]; omega, rfl⟩
theorem plain1_walk {w0 : World} {es : List Ent} (r : Rx) (h : ∀ es, ACalls Tryd.prog w0 110 [.agg r.cells] es fun v es' => v = .bool r.plain ∧ es' = es) : ACalls Tryd.prog w0 147 [.agg r.cells] es fun v es' => v = .bool (!r.plain) ∧ es' = es := by
  refine calls1 (N := 6) Tryd.func147 rfl rfl (by decide) ?_
  refine w_seq ?_
  refine w_region ?_
  refine l_cons rfl (p_box fun s1 => ?_)
  refine l_cons rfl (p_assign ?_)
  refine l_nil ?_
  refine k_seq_normal ?_
  refine w_seq ?_
  refine w_region ?_
  refine l_cons rfl (p_loadp ty_29 ?_)
  refine l_cons rfl (p_callr en_110 (h _) ?_)
  refine l_cons rfl (p_not ?_)
  refine l_cons rfl (p_assign ?_)
  refine l_nil ?_
  refine k_seq_normal ?_
  refine w_ret ?_
  exact ret1 rfl (by simp only [ev_tmp, ev_const, ev_func, ofConst_int, ofConst_bool, ofConst_str, ofConst_nil, upd_apply, Nat.reduceEqDiff, ↓reduceIte] <;> exact rfl) (by first | exact Sub.refl _ | exact sub1 _ _ | exact sub2 _ _ _ | exact sub3 _ _ _ _ | exact sub4 _ _ _ _ _ | exact sub5 _ _ _ _ _ _) ⟨rfl, rfl⟩
theorem rxPlain {w0 : World} (hT : Tab w0) : ∀ (B : Nat) (r : Rx) (es : List Ent), r.nodes ≤ B → r.ok → ACalls Tryd.prog w0 110 [.agg r.cells] es fun v es' => v = .bool r.plain ∧ es' = es := by
  intro B
  induction B using Nat.strongRecOn with
  | _ B ih => ?_
  intro r es hB ho
  rw [Rx.cells_eq r]
  refine calls1 (N := 91) Tryd.func110 rfl rfl (by decide) ?_
  refine w_seq ?_
  refine w_region ?_
  refine l_cons rfl (p_box fun s1 => ?_)
  refine l_cons rfl (p_assign ?_)
  refine l_nil ?_
  refine k_seq_normal ?_
  refine w_seq ?_
  refine w_region ?_
  refine l_cons rfl (p_fap fa_29_1 ?_)
  refine l_cons rfl (p_loadp ty_26 ?_)
  refine l_cons rfl (p_buildArr ze_26 ar_26 ?_)
  refine l_cons rfl (p_eqa ai_26 ?_ (hb := eqA r.set noSet))
  refine l_cons rfl (p_assign ?_)
  refine l_nil ?_
  refine k_seq_normal ?_
  refine w_seq ?_
  refine w_region ?_
  refine l_cons rfl (p_assign ?_)
  refine l_nil ?_
  refine k_seq_normal ?_
  refine w_cut (fun f es' => es' = .row s1 29 6 [[.int .i64 r.kind, .int .u64 r.set.w0, .int .u64 r.set.w1, .int .u64 r.set.w2, .int .u64 r.set.w3, .list 6 (r.args.map Rx.cells)]] :: es ∧ Knows f [(1, .ptr es.length s1 0 0), (4, .bool (right r.kind r.set r.args))]) ?_ ?_
  · skip
    refine w_seq ?_
    refine w_region ?_
    refine l_cons rfl (p_fap fa_29_0 ?_)
    refine l_cons rfl (p_loadp ty_3 ?_)
    refine l_nil ?_
    refine k_seq_normal ?_
    refine w_block ?_
    refine w_seq ?_
    refine w_seq ?_
    refine w_region ?_
    refine l_cons rfl (p_cmp ?_)
    refine l_cons rfl (p_assign ?_)
    refine l_nil ?_
    refine k_seq_normal ?_
    refine w_b (fun h1 => ?_) (fun h1 => ?_)
    · skip
      have h1' := h1; (try simp only [decide_eq_true_eq, decide_eq_false_iff_not, Bool.not_eq_true', Bool.not_false, Bool.not_true, Bool.not_eq_false'] at h1')
      refine w_skip ?_
      refine k_seq_normal ?_
      refine w_t h1 ?_
      refine w_region ?_
      refine l_cons rfl (p_move ?_)
      refine l_cons rfl (p_move ?_)
      refine g_b rfl (fun h2 => ?_) (fun h2 => ?_)
      · skip
        have h2' := h2; (try simp only [decide_eq_true_eq, decide_eq_false_iff_not, Bool.not_eq_true', Bool.not_false, Bool.not_true, Bool.not_eq_false'] at h2')
        refine (p_fap fa_29_2 ?_)
        refine g_y rfl h2 (p_loadp ty_27 ?_)
        first | refine g_y rfl h2 (p_lenl sl_27 ?_) | refine g_y rfl h2 (p_leno sl_27 ?_) | refine g_y rfl h2 (p_lenn sl_27 ?_)
        refine g_y rfl h2 (p_cmp ?_)
        refine l_cons rfl (p_pickt h2 ?_)
        refine l_cons rfl (p_assign ?_)
        refine l_nil ?_
        refine k_blk_normal ?_
        refine k_seq_normal ?_
        refine ⟨rfl, ?_⟩
        simp only [Knows, put, upd_apply, Nat.reduceEqDiff, ↓reduceIte, and_true, true_and, eq_self]
        exact congrArg AV.bool (by unfold right; first | (simp_all; done) | (simp_all; omega) | (simp_all <;> intros <;> omega))
      · skip
        have h2' := h2; (try simp only [decide_eq_true_eq, decide_eq_false_iff_not, Bool.not_eq_true', Bool.not_false, Bool.not_true, Bool.not_eq_false'] at h2')
        refine g_n rfl h2 ?_
        refine g_n rfl h2 ?_
        refine g_n rfl h2 ?_
        refine l_cons rfl (p_pickf h2 ?_)
        refine l_cons rfl (p_assign ?_)
        refine l_nil ?_
        refine k_blk_normal ?_
        refine k_seq_normal ?_
        refine ⟨rfl, ?_⟩
        simp only [Knows, put, upd_apply, Nat.reduceEqDiff, ↓reduceIte, and_true, true_and, eq_self]
        exact congrArg AV.bool (by unfold right; first | (simp_all; done) | (simp_all; omega) | (simp_all <;> intros <;> omega))
    · skip
      have h1' := h1; (try simp only [decide_eq_true_eq, decide_eq_false_iff_not, Bool.not_eq_true', Bool.not_false, Bool.not_true, Bool.not_eq_false'] at h1')
      refine w_region ?_
      refine l_cons rfl (p_cmp ?_)
      refine l_cons rfl (p_assign ?_)
      refine l_nil ?_
      refine k_seq_normal ?_
      refine w_b (fun h3 => ?_) (fun h3 => ?_)
      · skip
        have h3' := h3; (try simp only [decide_eq_true_eq, decide_eq_false_iff_not, Bool.not_eq_true', Bool.not_false, Bool.not_true, Bool.not_eq_false'] at h3')
        refine w_region ?_
        refine l_cons rfl (p_move ?_)
        refine l_cons rfl (p_move ?_)
        refine g_b rfl (fun h4 => ?_) (fun h4 => ?_)
        · skip
          have h4' := h4; (try simp only [decide_eq_true_eq, decide_eq_false_iff_not, Bool.not_eq_true', Bool.not_false, Bool.not_true, Bool.not_eq_false'] at h4')
          refine (p_fap fa_29_2 ?_)
          refine g_y rfl h4 (p_loadp ty_27 ?_)
          first | refine g_y rfl h4 (p_lenl sl_27 ?_) | refine g_y rfl h4 (p_leno sl_27 ?_) | refine g_y rfl h4 (p_lenn sl_27 ?_)
          refine g_y rfl h4 (p_cmp ?_)
          refine l_cons rfl (p_pickt h4 ?_)
          refine l_cons rfl (p_assign ?_)
          refine l_nil ?_
          refine k_blk_normal ?_
          refine k_seq_normal ?_
          refine ⟨rfl, ?_⟩
          simp only [Knows, put, upd_apply, Nat.reduceEqDiff, ↓reduceIte, and_true, true_and, eq_self]
          exact congrArg AV.bool (by unfold right; first | (simp_all; done) | (simp_all; omega) | (simp_all <;> intros <;> omega))
        · skip
          have h4' := h4; (try simp only [decide_eq_true_eq, decide_eq_false_iff_not, Bool.not_eq_true', Bool.not_false, Bool.not_true, Bool.not_eq_false'] at h4')
          refine g_n rfl h4 ?_
          refine g_n rfl h4 ?_
          refine g_n rfl h4 ?_
          refine l_cons rfl (p_pickf h4 ?_)
          refine l_cons rfl (p_assign ?_)
          refine l_nil ?_
          refine k_blk_normal ?_
          refine k_seq_normal ?_
          refine ⟨rfl, ?_⟩
          simp only [Knows, put, upd_apply, Nat.reduceEqDiff, ↓reduceIte, and_true, true_and, eq_self]
          exact congrArg AV.bool (by unfold right; first | (simp_all; done) | (simp_all; omega) | (simp_all <;> intros <;> omega))
      · skip
        have h3' := h3; (try simp only [decide_eq_true_eq, decide_eq_false_iff_not, Bool.not_eq_true', Bool.not_false, Bool.not_true, Bool.not_eq_false'] at h3')
        refine w_seq ?_
        refine w_region ?_
        refine l_cons rfl (p_cmp ?_)
        refine l_cons rfl (p_assign ?_)
        refine l_nil ?_
        refine k_seq_normal ?_
        refine w_b (fun h5 => ?_) (fun h5 => ?_)
        · skip
          have h5' := h5; (try simp only [decide_eq_true_eq, decide_eq_false_iff_not, Bool.not_eq_true', Bool.not_false, Bool.not_true, Bool.not_eq_false'] at h5')
          refine w_region ?_
          refine l_cons rfl (p_move ?_)
          refine l_cons rfl (p_not ?_)
          refine l_cons rfl (p_move ?_)
          refine g_b rfl (fun h6 => ?_) (fun h6 => ?_)
          · skip
            have h6' := h6; (try simp only [decide_eq_true_eq, decide_eq_false_iff_not, Bool.not_eq_true', Bool.not_false, Bool.not_true, Bool.not_eq_false'] at h6')
            refine (p_fap fa_29_2 ?_)
            refine g_y rfl h6 (p_loadp ty_27 ?_)
            first | refine g_y rfl h6 (p_lenl sl_27 ?_) | refine g_y rfl h6 (p_leno sl_27 ?_) | refine g_y rfl h6 (p_lenn sl_27 ?_)
            refine g_y rfl h6 (p_cmp ?_)
            refine l_cons rfl (p_pickt h6 ?_)
            refine l_cons rfl (p_assign ?_)
            refine l_nil ?_
            refine k_blk_normal ?_
            refine k_seq_normal ?_
            refine ⟨rfl, ?_⟩
            simp only [Knows, put, upd_apply, Nat.reduceEqDiff, ↓reduceIte, and_true, true_and, eq_self]
            exact congrArg AV.bool (by unfold right; first | (simp_all; done) | (simp_all; omega) | (simp_all <;> intros <;> omega))
          · skip
            have h6' := h6; (try simp only [decide_eq_true_eq, decide_eq_false_iff_not, Bool.not_eq_true', Bool.not_false, Bool.not_true, Bool.not_eq_false'] at h6')
            refine g_n rfl h6 ?_
            refine g_n rfl h6 ?_
            refine g_n rfl h6 ?_
            refine l_cons rfl (p_pickf h6 ?_)
            refine l_cons rfl (p_assign ?_)
            refine l_nil ?_
            refine k_blk_normal ?_
            refine k_seq_normal ?_
            refine ⟨rfl, ?_⟩
            simp only [Knows, put, upd_apply, Nat.reduceEqDiff, ↓reduceIte, and_true, true_and, eq_self]
            exact congrArg AV.bool (by unfold right; first | (simp_all; done) | (simp_all; omega) | (simp_all <;> intros <;> omega))
        · skip
          have h5' := h5; (try simp only [decide_eq_true_eq, decide_eq_false_iff_not, Bool.not_eq_true', Bool.not_false, Bool.not_true, Bool.not_eq_false'] at h5')
          refine w_seq ?_
          refine w_region ?_
          refine l_cons rfl (p_cmp ?_)
          refine l_cons rfl (p_assign ?_)
          refine l_nil ?_
          refine k_seq_normal ?_
          refine w_b (fun h7 => ?_) (fun h7 => ?_)
          · skip
            have h7' := h7; (try simp only [decide_eq_true_eq, decide_eq_false_iff_not, Bool.not_eq_true', Bool.not_false, Bool.not_true, Bool.not_eq_false'] at h7')
            refine w_region ?_
            refine l_cons rfl (p_move ?_)
            refine l_cons rfl (p_move ?_)
            refine g_b rfl (fun h8 => ?_) (fun h8 => ?_)
            · skip
              have h8' := h8; (try simp only [decide_eq_true_eq, decide_eq_false_iff_not, Bool.not_eq_true', Bool.not_false, Bool.not_true, Bool.not_eq_false'] at h8')
              refine (p_fap fa_29_2 ?_)
              refine g_y rfl h8 (p_loadp ty_27 ?_)
              first | refine g_y rfl h8 (p_lenl sl_27 ?_) | refine g_y rfl h8 (p_leno sl_27 ?_) | refine g_y rfl h8 (p_lenn sl_27 ?_)
              refine g_y rfl h8 (p_cmp ?_)
              refine l_cons rfl (p_pickt h8 ?_)
              refine l_cons rfl (p_move ?_)
              refine g_b rfl (fun h9 => ?_) (fun h9 => ?_)
              · skip
                have h9' := h9; (try simp only [decide_eq_true_eq, decide_eq_false_iff_not, Bool.not_eq_true', Bool.not_false, Bool.not_true, Bool.not_eq_false'] at h9')
                refine (p_fap fa_29_2 ?_)
                refine g_y rfl h9 (p_loadp ty_27 ?_)
                refine g_y rfl h9 (p_buildList sl_48 ze_3 ?_)
                refine g_y rfl h9 (p_callr en_145 (bad_walk r.args [4, 1, 2]) ?_)
                refine g_y rfl h9 (p_not ?_)
                refine l_cons rfl (p_pickt h9 ?_)
                refine l_cons rfl (p_assign ?_)
                refine l_nil ?_
                refine k_blk_normal ?_
                refine k_seq_normal ?_
                refine ⟨rfl, ?_⟩
                simp only [Knows, put, upd_apply, Nat.reduceEqDiff, ↓reduceIte, and_true, true_and, eq_self]
                exact congrArg AV.bool (by unfold right; first | (simp_all; done) | (simp_all; omega) | (simp_all <;> intros <;> omega))
              · skip
                have h9' := h9; (try simp only [decide_eq_true_eq, decide_eq_false_iff_not, Bool.not_eq_true', Bool.not_false, Bool.not_true, Bool.not_eq_false'] at h9')
                refine g_n rfl h9 ?_
                refine g_n rfl h9 ?_
                refine g_n rfl h9 ?_
                refine g_n rfl h9 ?_
                refine l_cons rfl (p_pickf h9 ?_)
                refine l_cons rfl (p_assign ?_)
                refine l_nil ?_
                refine k_blk_normal ?_
                refine k_seq_normal ?_
                refine ⟨rfl, ?_⟩
                simp only [Knows, put, upd_apply, Nat.reduceEqDiff, ↓reduceIte, and_true, true_and, eq_self]
                exact congrArg AV.bool (by unfold right; first | (simp_all; done) | (simp_all; omega) | (simp_all <;> intros <;> omega))
            · skip
              have h8' := h8; (try simp only [decide_eq_true_eq, decide_eq_false_iff_not, Bool.not_eq_true', Bool.not_false, Bool.not_true, Bool.not_eq_false'] at h8')
              refine g_n rfl h8 ?_
              refine g_n rfl h8 ?_
              refine g_n rfl h8 ?_
              refine l_cons rfl (p_pickf h8 ?_)
              refine l_cons rfl (p_move ?_)
              refine g_n rfl rfl ?_
              refine g_n rfl rfl ?_
              refine g_n rfl rfl ?_
              refine g_n rfl rfl ?_
              refine g_n rfl rfl ?_
              refine l_cons rfl (p_pickf rfl ?_)
              refine l_cons rfl (p_assign ?_)
              refine l_nil ?_
              refine k_blk_normal ?_
              refine k_seq_normal ?_
              refine ⟨rfl, ?_⟩
              simp only [Knows, put, upd_apply, Nat.reduceEqDiff, ↓reduceIte, and_true, true_and, eq_self]
              exact congrArg AV.bool (by unfold right; first | (simp_all; done) | (simp_all; omega) | (simp_all <;> intros <;> omega))
          · skip
            have h7' := h7; (try simp only [decide_eq_true_eq, decide_eq_false_iff_not, Bool.not_eq_true', Bool.not_false, Bool.not_true, Bool.not_eq_false'] at h7')
            refine w_seq ?_
            refine w_region ?_
            refine l_cons rfl (p_cmp ?_)
            refine l_cons rfl (p_assign ?_)
            refine l_nil ?_
            refine k_seq_normal ?_
            refine w_b (fun h10 => ?_) (fun h10 => ?_)
            · skip
              have h10' := h10; (try simp only [decide_eq_true_eq, decide_eq_false_iff_not, Bool.not_eq_true', Bool.not_false, Bool.not_true, Bool.not_eq_false'] at h10')
              refine w_region ?_
              refine l_cons rfl (p_move ?_)
              refine l_cons rfl (p_move ?_)
              refine g_b rfl (fun h11 => ?_) (fun h11 => ?_)
              · skip
                have h11' := h11; (try simp only [decide_eq_true_eq, decide_eq_false_iff_not, Bool.not_eq_true', Bool.not_false, Bool.not_true, Bool.not_eq_false'] at h11')
                refine (p_fap fa_29_2 ?_)
                refine g_y rfl h11 (p_loadp ty_27 ?_)
                first | refine g_y rfl h11 (p_lenl sl_27 ?_) | refine g_y rfl h11 (p_leno sl_27 ?_) | refine g_y rfl h11 (p_lenn sl_27 ?_)
                refine g_y rfl h11 (p_cmp ?_)
                refine l_cons rfl (p_pickt h11 ?_)
                refine l_cons rfl (p_move ?_)
                refine g_b rfl (fun h12 => ?_) (fun h12 => ?_)
                · skip
                  have h12' := h12; (try simp only [decide_eq_true_eq, decide_eq_false_iff_not, Bool.not_eq_true', Bool.not_false, Bool.not_true, Bool.not_eq_false'] at h12')
                  refine (p_fap fa_29_2 ?_)
                  refine g_y rfl h12 (p_loadp ty_27 ?_)
                  refine g_y rfl h12 (p_buildList sl_48 ze_3 ?_)
                  refine g_y rfl h12 (p_callr en_145 (bad_walk r.args [5, 1]) ?_)
                  refine g_y rfl h12 (p_not ?_)
                  refine l_cons rfl (p_pickt h12 ?_)
                  refine l_cons rfl (p_move ?_)
                  refine g_b rfl (fun h13 => ?_) (fun h13 => ?_)
                  · skip
                    have h13' := h13; (try simp only [decide_eq_true_eq, decide_eq_false_iff_not, Bool.not_eq_true', Bool.not_false, Bool.not_true, Bool.not_eq_false'] at h13')
                    refine (p_fap fa_29_2 ?_)
                    refine g_y rfl h13 (p_loadp ty_27 ?_)
                    refine g_y rfl h13 (p_callr en_146 (rising_walk hT r.args ho.args) ?_)
                    refine l_cons rfl (p_pickt h13 ?_)
                    refine l_cons rfl (p_assign ?_)
                    refine l_nil ?_
                    refine k_blk_normal ?_
                    refine k_seq_normal ?_
                    refine ⟨rfl, ?_⟩
                    simp only [Knows, put, upd_apply, Nat.reduceEqDiff, ↓reduceIte, and_true, true_and, eq_self]
                    exact congrArg AV.bool (by unfold right; first | (simp_all; done) | (simp_all; omega) | (simp_all <;> intros <;> omega))
                  · skip
                    have h13' := h13; (try simp only [decide_eq_true_eq, decide_eq_false_iff_not, Bool.not_eq_true', Bool.not_false, Bool.not_true, Bool.not_eq_false'] at h13')
                    refine g_n rfl h13 ?_
                    refine g_n rfl h13 ?_
                    refine l_cons rfl (p_pickf h13 ?_)
                    refine l_cons rfl (p_assign ?_)
                    refine l_nil ?_
                    refine k_blk_normal ?_
                    refine k_seq_normal ?_
                    refine ⟨rfl, ?_⟩
                    simp only [Knows, put, upd_apply, Nat.reduceEqDiff, ↓reduceIte, and_true, true_and, eq_self]
                    exact congrArg AV.bool (by unfold right; first | (simp_all; done) | (simp_all; omega) | (simp_all <;> intros <;> omega))
                · skip
                  have h12' := h12; (try simp only [decide_eq_true_eq, decide_eq_false_iff_not, Bool.not_eq_true', Bool.not_false, Bool.not_true, Bool.not_eq_false'] at h12')
                  refine g_n rfl h12 ?_
                  refine g_n rfl h12 ?_
                  refine g_n rfl h12 ?_
                  refine g_n rfl h12 ?_
                  refine l_cons rfl (p_pickf h12 ?_)
                  refine l_cons rfl (p_move ?_)
                  refine g_n rfl rfl ?_
                  refine g_n rfl rfl ?_
                  refine g_n rfl rfl ?_
                  refine l_cons rfl (p_pickf rfl ?_)
                  refine l_cons rfl (p_assign ?_)
                  refine l_nil ?_
                  refine k_blk_normal ?_
                  refine k_seq_normal ?_
                  refine ⟨rfl, ?_⟩
                  simp only [Knows, put, upd_apply, Nat.reduceEqDiff, ↓reduceIte, and_true, true_and, eq_self]
                  exact congrArg AV.bool (by unfold right; first | (simp_all; done) | (simp_all; omega) | (simp_all <;> intros <;> omega))
              · skip
                have h11' := h11; (try simp only [decide_eq_true_eq, decide_eq_false_iff_not, Bool.not_eq_true', Bool.not_false, Bool.not_true, Bool.not_eq_false'] at h11')
                refine g_n rfl h11 ?_
                refine g_n rfl h11 ?_
                refine g_n rfl h11 ?_
                refine l_cons rfl (p_pickf h11 ?_)
                refine l_cons rfl (p_move ?_)
                refine g_n rfl rfl ?_
                refine g_n rfl rfl ?_
                refine g_n rfl rfl ?_
                refine g_n rfl rfl ?_
                refine g_n rfl rfl ?_
                refine l_cons rfl (p_pickf rfl ?_)
                refine l_cons rfl (p_move ?_)
                refine g_n rfl rfl ?_
                refine g_n rfl rfl ?_
                refine g_n rfl rfl ?_
                refine l_cons rfl (p_pickf rfl ?_)
                refine l_cons rfl (p_assign ?_)
                refine l_nil ?_
                refine k_blk_normal ?_
                refine k_seq_normal ?_
                refine ⟨rfl, ?_⟩
                simp only [Knows, put, upd_apply, Nat.reduceEqDiff, ↓reduceIte, and_true, true_and, eq_self]
                exact congrArg AV.bool (by unfold right; first | (simp_all; done) | (simp_all; omega) | (simp_all <;> intros <;> omega))
            · skip
              have h10' := h10; (try simp only [decide_eq_true_eq, decide_eq_false_iff_not, Bool.not_eq_true', Bool.not_false, Bool.not_true, Bool.not_eq_false'] at h10')
              refine w_seq ?_
              refine w_region ?_
              refine l_cons rfl (p_cmp ?_)
              refine l_cons rfl (p_assign ?_)
              refine l_nil ?_
              refine k_seq_normal ?_
              refine w_b (fun h14 => ?_) (fun h14 => ?_)
              · skip
                have h14' := h14; (try simp only [decide_eq_true_eq, decide_eq_false_iff_not, Bool.not_eq_true', Bool.not_false, Bool.not_true, Bool.not_eq_false'] at h14')
                refine w_region ?_
                refine l_cons rfl (p_move ?_)
                refine l_cons rfl (p_move ?_)
                refine g_b rfl (fun h15 => ?_) (fun h15 => ?_)
                · skip
                  have h15' := h15; (try simp only [decide_eq_true_eq, decide_eq_false_iff_not, Bool.not_eq_true', Bool.not_false, Bool.not_true, Bool.not_eq_false'] at h15')
                  refine (p_fap fa_29_2 ?_)
                  refine g_y rfl h15 (p_loadp ty_27 ?_)
                  first | refine g_y rfl h15 (p_lenl sl_27 ?_) | refine g_y rfl h15 (p_leno sl_27 ?_) | refine g_y rfl h15 (p_lenn sl_27 ?_)
                  refine g_y rfl h15 (p_cmp ?_)
                  refine l_cons rfl (p_pickt h15 ?_)
                  refine l_cons rfl (p_move ?_)
                  refine g_b rfl (fun h16 => ?_) (fun h16 => ?_)
                  · skip
                    have h16' := h16; (try simp only [decide_eq_true_eq, decide_eq_false_iff_not, Bool.not_eq_true', Bool.not_false, Bool.not_true, Bool.not_eq_false'] at h16')
                    refine (p_fap fa_29_2 ?_)
                    refine g_y rfl h16 (p_loadp ty_27 ?_)
                    refine g_y rfl h16 (p_buildList sl_48 ze_3 ?_)
                    refine g_y rfl h16 (p_callr en_145 (bad_walk r.args [6, 1, 2]) ?_)
                    refine g_y rfl h16 (p_not ?_)
                    refine l_cons rfl (p_pickt h16 ?_)
                    refine l_cons rfl (p_assign ?_)
                    refine l_nil ?_
                    refine k_blk_normal ?_
                    refine k_seq_normal ?_
                    refine ⟨rfl, ?_⟩
                    simp only [Knows, put, upd_apply, Nat.reduceEqDiff, ↓reduceIte, and_true, true_and, eq_self]
                    exact congrArg AV.bool (by unfold right; first | (simp_all; done) | (simp_all; omega) | (simp_all <;> intros <;> omega))
                  · skip
                    have h16' := h16; (try simp only [decide_eq_true_eq, decide_eq_false_iff_not, Bool.not_eq_true', Bool.not_false, Bool.not_true, Bool.not_eq_false'] at h16')
                    refine g_n rfl h16 ?_
                    refine g_n rfl h16 ?_
                    refine g_n rfl h16 ?_
                    refine g_n rfl h16 ?_
                    refine l_cons rfl (p_pickf h16 ?_)
                    refine l_cons rfl (p_assign ?_)
                    refine l_nil ?_
                    refine k_blk_normal ?_
                    refine k_seq_normal ?_
                    refine ⟨rfl, ?_⟩
                    simp only [Knows, put, upd_apply, Nat.reduceEqDiff, ↓reduceIte, and_true, true_and, eq_self]
                    exact congrArg AV.bool (by unfold right; first | (simp_all; done) | (simp_all; omega) | (simp_all <;> intros <;> omega))
                · skip
                  have h15' := h15; (try simp only [decide_eq_true_eq, decide_eq_false_iff_not, Bool.not_eq_true', Bool.not_false, Bool.not_true, Bool.not_eq_false'] at h15')
                  refine g_n rfl h15 ?_
                  refine g_n rfl h15 ?_
                  refine g_n rfl h15 ?_
                  refine l_cons rfl (p_pickf h15 ?_)
                  refine l_cons rfl (p_move ?_)
                  refine g_n rfl rfl ?_
                  refine g_n rfl rfl ?_
                  refine g_n rfl rfl ?_
                  refine g_n rfl rfl ?_
                  refine g_n rfl rfl ?_
                  refine l_cons rfl (p_pickf rfl ?_)
                  refine l_cons rfl (p_assign ?_)
                  refine l_nil ?_
                  refine k_blk_normal ?_
                  refine k_seq_normal ?_
                  refine ⟨rfl, ?_⟩
                  simp only [Knows, put, upd_apply, Nat.reduceEqDiff, ↓reduceIte, and_true, true_and, eq_self]
                  exact congrArg AV.bool (by unfold right; first | (simp_all; done) | (simp_all; omega) | (simp_all <;> intros <;> omega))
              · skip
                have h14' := h14; (try simp only [decide_eq_true_eq, decide_eq_false_iff_not, Bool.not_eq_true', Bool.not_false, Bool.not_true, Bool.not_eq_false'] at h14')
                refine w_skip ?_
                refine k_blk_normal ?_
                refine k_seq_normal ?_
                refine ⟨rfl, ?_⟩
                simp only [Knows, put, upd_apply, Nat.reduceEqDiff, ↓reduceIte, and_true, true_and, eq_self]
                exact congrArg AV.bool (by unfold right; first | (simp_all; done) | (simp_all; omega) | (simp_all <;> intros <;> omega))
  · skip
    rintro f es' ⟨rfl, hk⟩
    refine w_pins _ (Sub.refl _) (hk) ?_
    simp only [pins]
    refine w_seq ?_
    refine w_region ?_
    refine l_cons rfl (p_move ?_)
    refine l_cons rfl (p_move ?_)
    refine g_b rfl (fun h17 => ?_) (fun h17 => ?_)
    · skip
      have h17' := h17; (try simp only [decide_eq_true_eq, decide_eq_false_iff_not, Bool.not_eq_true', Bool.not_false, Bool.not_true, Bool.not_eq_false'] at h17')
      refine (p_fap fa_29_2 ?_)
      refine g_y rfl h17 (p_loadp ty_27 ?_)
      refine g_y rfl h17 (p_callr en_140 (containsFuncR (l1 := []) (l2 := []) (fun x => !x.plain) en_147 (fun x hx => plain1_walk x (fun es => ih (B - 1) (by have := r.nodes_pos; omega) x es (by have := nodes_mem_lt hx; omega) (ho.args x hx)))) ?_)
      refine g_y rfl h17 (p_not ?_)
      refine l_cons rfl (p_pickt h17 ?_)
      refine l_cons rfl (p_assign ?_)
      refine l_nil ?_
      refine k_seq_normal ?_
      refine w_ret ?_
      exact ret1 rfl (by simp only [ev_tmp, ev_const, ev_func, ofConst_int, ofConst_bool, ofConst_str, ofConst_nil, upd_apply, Nat.reduceEqDiff, ↓reduceIte] <;> exact rfl) (by first | exact Sub.refl _ | exact sub1 _ _ | exact sub2 _ _ _ | exact sub3 _ _ _ _ | exact sub4 _ _ _ _ _ | exact sub5 _ _ _ _ _ _) ⟨by rw [plain_of]; simp_all, rfl⟩
    · skip
      have h17' := h17; (try simp only [decide_eq_true_eq, decide_eq_false_iff_not, Bool.not_eq_true', Bool.not_false, Bool.not_true, Bool.not_eq_false'] at h17')
      refine g_n rfl h17 ?_
      refine g_n rfl h17 ?_
      refine g_n rfl h17 ?_
      refine l_cons rfl (p_pickf h17 ?_)
      refine l_cons rfl (p_assign ?_)
      refine l_nil ?_
      refine k_seq_normal ?_
      refine w_ret ?_
      exact ret1 rfl (by simp only [ev_tmp, ev_const, ev_func, ofConst_int, ofConst_bool, ofConst_str, ofConst_nil, upd_apply, Nat.reduceEqDiff, ↓reduceIte] <;> exact rfl) (by first | exact Sub.refl _ | exact sub1 _ _ | exact sub2 _ _ _ | exact sub3 _ _ _ _ | exact sub4 _ _ _ _ _ | exact sub5 _ _ _ _ _ _) ⟨by rw [plain_of]; simp_all, rfl⟩
theorem rxMay {w0 : World} (hT : Tab w0) {es : List Ent} (r : Rx) (hn : r.nodes ≤ 1048576) (ho : r.ok) : ACalls Tryd.prog w0 71 [.agg r.cells] es fun v es' => v = .int .i64 (mayR r) ∧ es' = es := by
  refine calls1 (N := 15) Tryd.func71 rfl rfl (by decide) ?_
  refine w_seq ?_
  refine w_region ?_
  refine l_cons rfl (p_box fun s1 => ?_)
  refine l_cons rfl (p_assign ?_)
  refine l_nil ?_
  refine k_seq_normal ?_
  refine w_seq ?_
  refine w_block ?_
  refine w_seq ?_
  refine w_region ?_
  refine l_cons rfl (p_loadp ty_29 ?_)
  refine l_cons rfl (p_callr en_108 (rxNodes _ r _ (Nat.le_refl _) hn) ?_)
  refine l_cons rfl (p_cmp ?_)
  refine l_cons rfl (p_assign ?_)
  refine l_nil ?_
  refine k_seq_normal ?_
  refine w_b (fun h1 => ?_) (fun h1 => ?_)
  · skip
    have h1' := h1; (try simp only [decide_eq_true_eq, decide_eq_false_iff_not, Bool.not_eq_true', Bool.not_false, Bool.not_true, Bool.not_eq_false'] at h1')
    refine w_seq ?_
    refine w_region ?_
    refine l_cons rfl (p_assign ?_)
    refine l_nil ?_
    refine k_seq_normal ?_
    refine w_ret ?_
    refine k_blk_ret ?_
    refine k_seq_ret ?_
    exact ret1 rfl (by simp only [ev_tmp, ev_const, ev_func, ofConst_int, ofConst_bool, ofConst_str, ofConst_nil, upd_apply, Nat.reduceEqDiff, ↓reduceIte] <;> exact rfl) (by first | exact Sub.refl _ | exact sub1 _ _ | exact sub2 _ _ _ | exact sub3 _ _ _ _ | exact sub4 _ _ _ _ _ | exact sub5 _ _ _ _ _ _) ⟨by unfold mayR; rw [if_pos (by omega)], rfl⟩
  · skip
    have h1' := h1; (try simp only [decide_eq_true_eq, decide_eq_false_iff_not, Bool.not_eq_true', Bool.not_false, Bool.not_true, Bool.not_eq_false'] at h1')
    refine w_seq ?_
    refine w_region ?_
    refine l_cons rfl (p_loadp ty_29 ?_)
    refine l_cons rfl (p_callr en_109 (rxDepth _ r _ (Nat.le_refl _) hn) ?_)
    refine l_cons rfl (p_cmp ?_)
    refine l_cons rfl (p_assign ?_)
    refine l_nil ?_
    refine k_seq_normal ?_
    refine w_b (fun h2 => ?_) (fun h2 => ?_)
    · skip
      have h2' := h2; (try simp only [decide_eq_true_eq, decide_eq_false_iff_not, Bool.not_eq_true', Bool.not_false, Bool.not_true, Bool.not_eq_false'] at h2')
      refine w_seq ?_
      refine w_region ?_
      refine l_cons rfl (p_assign ?_)
      refine l_nil ?_
      refine k_seq_normal ?_
      refine w_ret ?_
      refine k_blk_ret ?_
      refine k_seq_ret ?_
      exact ret1 rfl (by simp only [ev_tmp, ev_const, ev_func, ofConst_int, ofConst_bool, ofConst_str, ofConst_nil, upd_apply, Nat.reduceEqDiff, ↓reduceIte] <;> exact rfl) (by first | exact Sub.refl _ | exact sub1 _ _ | exact sub2 _ _ _ | exact sub3 _ _ _ _ | exact sub4 _ _ _ _ _ | exact sub5 _ _ _ _ _ _) ⟨by unfold mayR; rw [if_neg (by omega), if_pos (by omega)], rfl⟩
    · skip
      have h2' := h2; (try simp only [decide_eq_true_eq, decide_eq_false_iff_not, Bool.not_eq_true', Bool.not_false, Bool.not_true, Bool.not_eq_false'] at h2')
      refine w_seq ?_
      refine w_region ?_
      refine l_cons rfl (p_loadp ty_29 ?_)
      refine l_cons rfl (p_callr en_110 (rxPlain hT _ r _ (Nat.le_refl _) ho) ?_)
      refine l_cons rfl (p_not ?_)
      refine l_cons rfl (p_assign ?_)
      refine l_nil ?_
      refine k_seq_normal ?_
      refine w_b (fun h3 => ?_) (fun h3 => ?_)
      · skip
        have h3' := h3; (try simp only [decide_eq_true_eq, decide_eq_false_iff_not, Bool.not_eq_true', Bool.not_false, Bool.not_true, Bool.not_eq_false'] at h3')
        refine w_seq ?_
        refine w_region ?_
        refine l_cons rfl (p_assign ?_)
        refine l_nil ?_
        refine k_seq_normal ?_
        refine w_ret ?_
        refine k_blk_ret ?_
        refine k_seq_ret ?_
        exact ret1 rfl (by simp only [ev_tmp, ev_const, ev_func, ofConst_int, ofConst_bool, ofConst_str, ofConst_nil, upd_apply, Nat.reduceEqDiff, ↓reduceIte] <;> exact rfl) (by first | exact Sub.refl _ | exact sub1 _ _ | exact sub2 _ _ _ | exact sub3 _ _ _ _ | exact sub4 _ _ _ _ _ | exact sub5 _ _ _ _ _ _) ⟨by unfold mayR; rw [if_neg (by omega), if_neg (by omega), if_neg (by simp_all)], rfl⟩
      · skip
        have h3' := h3; (try simp only [decide_eq_true_eq, decide_eq_false_iff_not, Bool.not_eq_true', Bool.not_false, Bool.not_true, Bool.not_eq_false'] at h3')
        refine w_skip ?_
        refine k_blk_normal ?_
        refine k_seq_normal ?_
        refine w_seq ?_
        refine w_region ?_
        refine l_cons rfl (p_assign ?_)
        refine l_nil ?_
        refine k_seq_normal ?_
        refine w_ret ?_
        exact ret1 rfl (by simp only [ev_tmp, ev_const, ev_func, ofConst_int, ofConst_bool, ofConst_str, ofConst_nil, upd_apply, Nat.reduceEqDiff, ↓reduceIte] <;> exact rfl) (by first | exact Sub.refl _ | exact sub1 _ _ | exact sub2 _ _ _ | exact sub3 _ _ _ _ | exact sub4 _ _ _ _ _ | exact sub5 _ _ _ _ _ _) ⟨by unfold mayR; rw [if_neg (by omega), if_neg (by omega), if_pos (by simp_all)], rfl⟩
end Go.Proofs.YtfdgbghlanbddaaDoor.Av
set_option linter.unusedVariables false
set_option linter.unusedSimpArgs false
set_option maxRecDepth 8000
namespace Go.Proofs.YtfdgbghlanbddaaDoor.Av
open Go.RowKit Go.Proofs
theorem ACalls.weak {P : Program} {w0 : World} {fid : FuncId} {args : List AV} {es : List Ent} {a b : AV} (hw : ∀ (c : Core) (m : Option (List Ent)) (v : Value), Rep c m a v → Rep c m b v) (h : ACalls P w0 fid args es fun v es' => v = a ∧ es' = es) : ACalls P w0 fid args es fun v es' => v = b ∧ es' = es := by
  intro c vs ok rs
  refine (h c vs ok rs).mono fun e w' => ?_
  rintro ⟨v, c', es', r, h1, h2, h3, h4, h5, rfl, rfl⟩
  exact ⟨v, c', _, b, h1, h2, h3, h4, hw _ _ _ h5, rfl, rfl⟩
theorem rep_aggNil (sz : Nat) {c : Core} {m : Option (List Ent)} {l : List AV} {v : Value} (h : Rep c m (.agg l) v) : Rep c m (.agg (l.map (nilTo sz))) v := by
  simp only [Rep] at h ⊢
  obtain ⟨cs, e, h1, h2⟩ := h
  exact ⟨cs, e, reps_nilTo sz h1, h2⟩
theorem Rx.depth_eq (r : Rx) : r.depth = Rx.depthL r.args + 1 := by cases r; simp only [Rx.depth, Rx.args]
theorem take_map_succ {α β : Type} {f : α → β} {l : List α} {k : Nat} (h : k < l.length) : (l.take (k + 1)).map f = (l.take k).map f ++ [f l[k]] := by
  rw [List.take_add_one, List.getElem?_eq_getElem h, List.map_append]; rfl
theorem cleans_cells (r : Rx) : cleans r.cells = true := by rw [Rx.cells_eq]; rfl
theorem cleans_rx (l : List Rx) : (l.map Rx.cells).all cleans = true := by
  rw [List.all_eq_true]
  intro x hx
  obtain ⟨r, _, rfl⟩ := List.mem_map.1 hx
  exact cleans_cells r
theorem args_load (r : Rx) : loadAV false 1 r.cells 5 = .list 6 (r.args.map Rx.cells) := by rw [Rx.cells_eq]; rfl
theorem flat_append (k : Int) (l m : List Rx) : flatR k (l ++ m) = flatR k l ++ flatR k m := by
  induction l with
  | nil => rfl
  | cons a t ih => simp only [List.cons_append, flatR, ih, List.append_assoc]
theorem flat_nodes (k : Int) : ∀ l : List Rx, Rx.nodesL (flatR k l) ≤ Rx.nodesL l
  | [] => by simp [flatR]
  | r :: t => by
    have ih := flat_nodes k t
    have happ : ∀ a b : List Rx, Rx.nodesL (a ++ b) = Rx.nodesL a + Rx.nodesL b := by
      intro a b
      induction a with
      | nil => simp [Rx.nodesL]
      | cons x y ih => simp only [List.cons_append, Rx.nodesL, ih]; omega
    simp only [flatR, happ, Rx.nodesL]
    have := r.nodes_eq
    split
    · omega
    · simp only [Rx.nodesL]; omega
theorem flat_take_nodes (k : Int) (l : List Rx) (j : Nat) : Rx.nodesL (flatR k (l.take j)) ≤ Rx.nodesL (l.take j) := flat_nodes k _
theorem flat_take_yes {kd : Int} {l : List Rx} {k : Nat} (h : k < l.length) (hk : (l[k]).kind = kd) : (flatR kd (l.take (k + 1))).map Rx.cells = (flatR kd (l.take k)).map Rx.cells ++ (l[k]).args.map Rx.cells := by
  rw [List.take_add_one, List.getElem?_eq_getElem h, flat_append, List.map_append]
  simp only [Option.toList_some, flatR, if_pos hk, List.append_nil]
theorem flat_take_no {kd : Int} {l : List Rx} {k : Nat} (h : k < l.length) (hk : ¬ (l[k]).kind = kd) : (flatR kd (l.take (k + 1))).map Rx.cells = (flatR kd (l.take k)).map Rx.cells ++ [(l[k]).cells] := by
  rw [List.take_add_one, List.getElem?_eq_getElem h, flat_append, List.map_append]
  simp only [Option.toList_some, flatR, if_neg hk, List.append_nil, List.map_cons, List.map_nil]
theorem same_no1 {a b : Rx} (h : a.kind ≠ b.kind ∨ a.set ≠ b.set ∨ a.args.length ≠ b.args.length) : a.same b = false := by
  rw [Bool.eq_false_iff]
  intro e
  have := (Rx.same_iff a b).1 e
  subst this
  rcases h with h | h | h <;> exact h rfl
theorem same_no2 {a b : Rx} {k : Nat} (h1 : k < a.args.length) (h2 : k < b.args.length) (h : (a.args[k]).same b.args[k] = false) : a.same b = false := by
  rw [Bool.eq_false_iff]
  intro e
  have := (Rx.same_iff a b).1 e
  subst this
  rw [(Rx.same_iff _ _).2 rfl] at h
  cases h
theorem same_all {a b : Rx} (h1 : a.kind = b.kind) (h2 : a.set = b.set) (h3 : a.args.length = b.args.length) (h : ∀ j (h1 : j < a.args.length) (h2 : j < b.args.length), a.args[j] = b.args[j]) : a.same b = true := by
  rw [Rx.same_iff]
  have : a.args = b.args := List.ext_getElem h3 h
  cases a; cases b
  simp_all [Rx.kind, Rx.set, Rx.args]
theorem none0_walk {w0 : World} {es : List Ent} : ACalls Tryd.prog w0 84 [] es fun v es' => v = .agg [.int .i64 1, .int .u64 0, .int .u64 0, .int .u64 0, .int .u64 0, .nil] ∧ es' = es := by
  refine calls0 (N := 2) Tryd.func84 rfl rfl ?_
  refine w_seq ?_
  refine w_region ?_
  refine l_cons rfl (p_alloc ze_29 fun s0 => ?_)
  refine l_nil ?_
  refine k_seq_normal ?_
  refine w_seq ?_
  refine w_region ?_
  refine l_cons rfl (p_build ze_29 pl_29 ?_)
  refine l_cons rfl (p_store ty_29 ?_)
  refine l_nil ?_
  refine k_seq_normal ?_
  refine w_ret ?_
  exact retc rfl ty_29 (by first | exact Sub.refl _ | exact sub1 _ _ | exact sub2 _ _ _ | exact sub3 _ _ _ _ | exact sub4 _ _ _ _ _ | exact sub5 _ _ _ _ _ _) ⟨rfl, rfl⟩
theorem empty0_walk {w0 : World} {es : List Ent} : ACalls Tryd.prog w0 85 [] es fun v es' => v = .agg [.int .i64 2, .int .u64 0, .int .u64 0, .int .u64 0, .int .u64 0, .nil] ∧ es' = es := by
  refine calls0 (N := 2) Tryd.func85 rfl rfl ?_
  refine w_seq ?_
  refine w_region ?_
  refine l_cons rfl (p_alloc ze_29 fun s0 => ?_)
  refine l_nil ?_
  refine k_seq_normal ?_
  refine w_seq ?_
  refine w_region ?_
  refine l_cons rfl (p_build ze_29 pl_29 ?_)
  refine l_cons rfl (p_store ty_29 ?_)
  refine l_nil ?_
  refine k_seq_normal ?_
  refine w_ret ?_
  exact retc rfl ty_29 (by first | exact Sub.refl _ | exact sub1 _ _ | exact sub2 _ _ _ | exact sub3 _ _ _ _ | exact sub4 _ _ _ _ _ | exact sub5 _ _ _ _ _ _) ⟨rfl, rfl⟩
theorem bytes0_walk {w0 : World} {es : List Ent} (s : W4) : ACalls Tryd.prog w0 67 [.agg s.row] es fun v es' => v = .agg (if s = noSet then [.int .i64 1, .int .u64 0, .int .u64 0, .int .u64 0, .int .u64 0, .nil] else [.int .i64 3, .int .u64 s.w0, .int .u64 s.w1, .int .u64 s.w2, .int .u64 s.w3, .nil]) ∧ es' = es := by
  unfold W4.row
  refine calls1 (N := 9) Tryd.func67 rfl rfl (by decide) ?_
  refine w_seq ?_
  refine w_region ?_
  refine l_cons rfl (p_box fun s1 => ?_)
  refine l_cons rfl (p_alloc ze_29 fun s2 => ?_)
  refine l_nil ?_
  refine k_seq_normal ?_
  refine w_seq ?_
  refine w_seq ?_
  refine w_region ?_
  refine l_cons rfl (p_loadp ty_26 ?_)
  refine l_cons rfl (p_buildArr ze_26 ar_26 ?_)
  refine l_cons rfl (p_eqa ai_26 ?_ (hb := eqA s noSet))
  refine l_nil ?_
  refine k_seq_normal ?_
  refine w_b (fun h1 => ?_) (fun h1 => ?_)
  · skip
    have h1' := h1; (try simp only [decide_eq_true_eq, decide_eq_false_iff_not, Bool.not_eq_true', Bool.not_false, Bool.not_true, Bool.not_eq_false'] at h1')
    refine w_seq ?_
    refine w_region ?_
    refine l_cons rfl (p_callr en_84 (none0_walk) ?_)
    refine l_cons rfl (p_store ty_29 ?_)
    refine l_nil ?_
    refine k_seq_normal ?_
    refine w_ret ?_
    refine k_seq_ret ?_
    exact retc rfl ty_29 (by first | exact Sub.refl _ | exact sub1 _ _ | exact sub2 _ _ _ | exact sub3 _ _ _ _ | exact sub4 _ _ _ _ _ | exact sub5 _ _ _ _ _ _) ⟨by rw [if_pos h1'], rfl⟩
  · skip
    have h1' := h1; (try simp only [decide_eq_true_eq, decide_eq_false_iff_not, Bool.not_eq_true', Bool.not_false, Bool.not_true, Bool.not_eq_false'] at h1')
    refine w_skip ?_
    refine k_seq_normal ?_
    refine w_seq ?_
    refine w_region ?_
    refine l_cons rfl (p_loadp ty_26 ?_)
    refine l_cons rfl (p_build ze_29 pl_29 ?_)
    refine l_cons rfl (p_store ty_29 ?_)
    refine l_nil ?_
    refine k_seq_normal ?_
    refine w_ret ?_
    exact retc rfl ty_29 (by first | exact Sub.refl _ | exact sub1 _ _ | exact sub2 _ _ _ | exact sub3 _ _ _ _ | exact sub4 _ _ _ _ _ | exact sub5 _ _ _ _ _ _) ⟨by rw [if_neg h1'], rfl⟩
theorem refNone {w0 : World} {es : List Ent} : ACalls Tryd.prog w0 84 [] es fun v es' => v = .agg noneR.cells ∧ es' = es := ACalls.weak (fun _ _ _ h => rep_aggNil 6 (l := [.int .i64 1, .int .u64 0, .int .u64 0, .int .u64 0, .int .u64 0, .nil]) h) none0_walk
theorem refEmpty {w0 : World} {es : List Ent} : ACalls Tryd.prog w0 85 [] es fun v es' => v = .agg emptyR.cells ∧ es' = es := ACalls.weak (fun _ _ _ h => rep_aggNil 6 (l := [.int .i64 2, .int .u64 0, .int .u64 0, .int .u64 0, .int .u64 0, .nil]) h) empty0_walk
theorem refBytes {w0 : World} {es : List Ent} (s : W4) : ACalls Tryd.prog w0 67 [.agg s.row] es fun v es' => v = .agg (bytesR s).cells ∧ es' = es := by
  refine ACalls.weak (fun _ _ _ h => ?_) (bytes0_walk s)
  have h2 := rep_aggNil 6 h
  unfold bytesR
  by_cases hs : s = noSet
  · rw [if_pos hs] at h2 ⊢; exact h2
  · rw [if_neg hs] at h2 ⊢; exact h2
theorem refNodes {w0 : World} : ∀ (B : Nat) (r : Rx) (es : List Ent), r.nodes ≤ B → B ≤ 1048576 → ACalls Tryd.prog w0 34 [.agg r.cells] es fun v es' => v = .int .i64 r.nodes ∧ es' = es := by
  intro B
  induction B using Nat.strongRecOn with
  | _ B ih => ?_
  intro r es hB hB2
  rw [Rx.cells_eq r]
  have hne := r.nodes_eq
  have hal := Rx.len_le r.args
  refine calls1 (N := 21) Tryd.func34 rfl rfl (by decide) ?_
  refine w_seq ?_
  refine w_region ?_
  refine l_cons rfl (p_box fun s1 => ?_)
  refine l_cons rfl (p_assign ?_)
  refine l_nil ?_
  refine k_seq_normal ?_
  refine w_seq ?_
  refine w_region ?_
  refine l_cons rfl (p_assign ?_)
  refine l_nil ?_
  refine k_seq_normal ?_
  refine w_seq ?_
  refine w_seq ?_
  refine w_region ?_
  refine l_cons rfl (p_assign ?_)
  refine l_nil ?_
  refine k_seq_normal ?_
  refine w_block ?_
  refine w_loop (fun m f es' => ∃ k, m = r.args.length - k ∧ k ≤ r.args.length ∧ es' = .row s1 29 6 [[.int .i64 r.kind, .int .u64 r.set.w0, .int .u64 r.set.w1, .int .u64 r.set.w2, .int .u64 r.set.w3, .list 6 (r.args.map Rx.cells)]] :: es ∧ Knows f [(1, .ptr es.length s1 0 0), (3, .int .i64 ((1 + Rx.nodesL (r.args.take k) : Nat) : Int)), (4, .int .i64 k)]) (r.args.length) (⟨0, rfl, Nat.zero_le _, rfl, by simp only [Knows, put, upd_apply, Nat.reduceEqDiff, ↓reduceIte, and_true, true_and, eq_self] <;> and_intros <;> rfl⟩) ?_
  rintro m f es' ⟨k, rfl, hk1, rfl, hk⟩
  have hnl := Rx.nodesL_le r.args k
  refine w_pins _ (Sub.refl _) (hk) ?_
  simp only [pins]
  refine w_seq ?_
  refine w_seq ?_
  refine w_region ?_
  refine l_cons rfl (p_move ?_)
  refine l_cons rfl (p_fap fa_29_2 ?_)
  refine l_cons rfl (p_loadp ty_27 ?_)
  first | refine l_cons rfl (p_lenl sl_27 ?_) | refine l_cons rfl (p_leno sl_27 ?_) | refine l_cons rfl (p_lenn sl_27 ?_)
  refine l_cons rfl (p_cmp ?_)
  refine l_nil ?_
  refine k_seq_normal ?_
  refine w_b (fun h1 => ?_) (fun h1 => ?_)
  · skip
    have h1' := h1; (try simp only [decide_eq_true_eq, decide_eq_false_iff_not, Bool.not_eq_true', Bool.not_false, Bool.not_true, Bool.not_eq_false'] at h1')
    refine w_skip ?_
    refine k_seq_normal ?_
    refine w_seq ?_
    refine w_block ?_
    have e := Rx.nodesL_take r.args k (by omega)
    have hnl2 := Rx.nodesL_le r.args (k + 1)
    refine w_region ?_
    refine l_cons rfl (p_move ?_)
    refine l_cons rfl (p_fap fa_29_2 ?_)
    refine l_cons rfl (p_loadp ty_27 ?_)
    refine l_cons rfl (p_move ?_)
    first | refine l_cons rfl (p_ixl sl_27 ?_) | refine l_cons rfl (p_ixo sl_27 ?_)
    first | refine l_cons rfl (p_loadf ty_29 ?_) | refine l_cons rfl (p_loadp ty_29 ?_)
    refine l_cons rfl (p_callr en_34 (ih (B - 1) (by omega) (r.args[k]'(by omega)) _ (by have := r.nodes_arg (k := k) (by omega); omega) (by omega)) ?_)
    refine l_cons rfl (p_arith ?_)
    refine l_cons rfl (p_assign ?_)
    refine l_nil ?_
    refine k_blk_normal ?_
    refine k_seq_normal ?_
    refine w_region ?_
    refine l_cons rfl (p_move ?_)
    refine l_cons rfl (p_arith ?_)
    refine l_cons rfl (p_assign ?_)
    refine l_nil ?_
    refine k_seq_normal ?_
    refine ⟨r.args.length - (k + 1), by omega, k + 1, rfl, by omega, rfl, ?_⟩
    simp only [Knows, put, upd_apply, Nat.reduceEqDiff, ↓reduceIte, and_true, true_and, eq_self, e]
    exact ⟨by congr 1; omega, rfl⟩
  · skip
    have h1' := h1; (try simp only [decide_eq_true_eq, decide_eq_false_iff_not, Bool.not_eq_true', Bool.not_false, Bool.not_true, Bool.not_eq_false'] at h1')
    refine w_exit ?_
    refine k_seq_exit ?_
    refine k_seq_exit ?_
    refine k_blk_here ?_
    refine k_seq_normal ?_
    refine w_seq ?_
    refine w_region ?_
    refine l_cons rfl (p_move ?_)
    refine l_cons rfl (p_assign ?_)
    refine l_nil ?_
    refine k_seq_normal ?_
    refine w_ret ?_
    exact ret1 rfl (by simp only [ev_tmp, ev_const, ev_func, ofConst_int, ofConst_bool, ofConst_str, ofConst_nil, upd_apply, Nat.reduceEqDiff, ↓reduceIte] <;> exact rfl) (by first | exact Sub.refl _ | exact sub1 _ _ | exact sub2 _ _ _ | exact sub3 _ _ _ _ | exact sub4 _ _ _ _ _ | exact sub5 _ _ _ _ _ _) ⟨by rw [List.take_of_length_le (by omega), hne], rfl⟩
theorem refDepth {w0 : World} : ∀ (B : Nat) (r : Rx) (es : List Ent), r.nodes ≤ B → B ≤ 1048576 → ACalls Tryd.prog w0 73 [.agg r.cells] es fun v es' => v = .int .i64 r.depth ∧ es' = es := by
  intro B
  induction B using Nat.strongRecOn with
  | _ B ih => ?_
  intro r es hB hB2
  rw [Rx.cells_eq r]
  have hne := r.nodes_eq
  have hal := Rx.len_le r.args
  refine calls1 (N := 22) Tryd.func73 rfl rfl (by decide) ?_
  refine w_seq ?_
  refine w_region ?_
  refine l_cons rfl (p_box fun s1 => ?_)
  refine l_cons rfl (p_assign ?_)
  refine l_nil ?_
  refine k_seq_normal ?_
  refine w_seq ?_
  refine w_region ?_
  refine l_cons rfl (p_assign ?_)
  refine l_nil ?_
  refine k_seq_normal ?_
  refine w_seq ?_
  refine w_seq ?_
  refine w_region ?_
  refine l_cons rfl (p_assign ?_)
  refine l_nil ?_
  refine k_seq_normal ?_
  refine w_block ?_
  refine w_loop (fun m f es' => ∃ k, m = r.args.length - k ∧ k ≤ r.args.length ∧ es' = .row s1 29 6 [[.int .i64 r.kind, .int .u64 r.set.w0, .int .u64 r.set.w1, .int .u64 r.set.w2, .int .u64 r.set.w3, .list 6 (r.args.map Rx.cells)]] :: es ∧ Knows f [(1, .ptr es.length s1 0 0), (3, .int .i64 (Rx.depthL (r.args.take k) : Int)), (4, .int .i64 k)]) (r.args.length) (⟨0, rfl, Nat.zero_le _, rfl, by simp only [Knows, put, upd_apply, Nat.reduceEqDiff, ↓reduceIte, and_true, true_and, eq_self] <;> and_intros <;> rfl⟩) ?_
  rintro m f es' ⟨k, rfl, hk1, rfl, hk⟩
  have hnl := Rx.depthL_takele r.args k
  refine w_pins _ (Sub.refl _) (hk) ?_
  simp only [pins]
  refine w_seq ?_
  refine w_seq ?_
  refine w_region ?_
  refine l_cons rfl (p_move ?_)
  refine l_cons rfl (p_fap fa_29_2 ?_)
  refine l_cons rfl (p_loadp ty_27 ?_)
  first | refine l_cons rfl (p_lenl sl_27 ?_) | refine l_cons rfl (p_leno sl_27 ?_) | refine l_cons rfl (p_lenn sl_27 ?_)
  refine l_cons rfl (p_cmp ?_)
  refine l_nil ?_
  refine k_seq_normal ?_
  refine w_b (fun h1 => ?_) (fun h1 => ?_)
  · skip
    have h1' := h1; (try simp only [decide_eq_true_eq, decide_eq_false_iff_not, Bool.not_eq_true', Bool.not_false, Bool.not_true, Bool.not_eq_false'] at h1')
    refine w_skip ?_
    refine k_seq_normal ?_
    refine w_seq ?_
    refine w_block ?_
    have e := Rx.depthL_take r.args k (by omega)
    refine w_region ?_
    refine l_cons rfl (p_move ?_)
    refine l_cons rfl (p_fap fa_29_2 ?_)
    refine l_cons rfl (p_loadp ty_27 ?_)
    refine l_cons rfl (p_move ?_)
    first | refine l_cons rfl (p_ixl sl_27 ?_) | refine l_cons rfl (p_ixo sl_27 ?_)
    first | refine l_cons rfl (p_loadf ty_29 ?_) | refine l_cons rfl (p_loadp ty_29 ?_)
    refine l_cons rfl (p_callr en_73 (ih (B - 1) (by omega) (r.args[k]'(by omega)) _ (by have := r.nodes_arg (k := k) (by omega); omega) (by omega)) ?_)
    refine l_cons rfl (p_max ?_)
    refine l_cons rfl (p_assign ?_)
    refine l_nil ?_
    refine k_blk_normal ?_
    refine k_seq_normal ?_
    refine w_region ?_
    refine l_cons rfl (p_move ?_)
    refine l_cons rfl (p_arith ?_)
    refine l_cons rfl (p_assign ?_)
    refine l_nil ?_
    refine k_seq_normal ?_
    refine ⟨r.args.length - (k + 1), by omega, k + 1, rfl, by omega, rfl, ?_⟩
    simp only [Knows, put, upd_apply, Nat.reduceEqDiff, ↓reduceIte, and_true, true_and, eq_self, e]
    exact ⟨by congr 1; split <;> omega, rfl⟩
  · skip
    have h1' := h1; (try simp only [decide_eq_true_eq, decide_eq_false_iff_not, Bool.not_eq_true', Bool.not_false, Bool.not_true, Bool.not_eq_false'] at h1')
    refine w_exit ?_
    refine k_seq_exit ?_
    refine k_seq_exit ?_
    refine k_blk_here ?_
    refine k_seq_normal ?_
    refine w_seq ?_
    refine w_region ?_
    refine l_cons rfl (p_move ?_)
    refine l_cons rfl (p_arith ?_)
    refine l_cons rfl (p_assign ?_)
    refine l_nil ?_
    refine k_seq_normal ?_
    refine w_ret ?_
    exact ret1 rfl (by simp only [ev_tmp, ev_const, ev_func, ofConst_int, ofConst_bool, ofConst_str, ofConst_nil, upd_apply, Nat.reduceEqDiff, ↓reduceIte] <;> exact rfl) (by first | exact Sub.refl _ | exact sub1 _ _ | exact sub2 _ _ _ | exact sub3 _ _ _ _ | exact sub4 _ _ _ _ _ | exact sub5 _ _ _ _ _ _) ⟨by rw [List.take_of_length_le (by omega), r.depth_eq]; rfl, rfl⟩
theorem refCopy {w0 : World} : ∀ (B : Nat) (r : Rx) (es : List Ent), r.nodes ≤ B → B ≤ 1048576 → ACalls Tryd.prog w0 63 [.agg r.cells] es fun v es' => v = .agg r.cells ∧ es' = es := by
  intro B
  induction B using Nat.strongRecOn with
  | _ B ih => ?_
  intro r es hB hB2
  rw [Rx.cells_eq r]
  have hne := r.nodes_eq
  have hal := Rx.len_le r.args
  refine calls1 (N := 24) Tryd.func63 rfl rfl (by decide) ?_
  refine w_seq ?_
  refine w_region ?_
  refine l_cons rfl (p_box fun s1 => ?_)
  refine l_cons rfl (p_alloc ze_29 fun s2 => ?_)
  refine l_nil ?_
  refine k_seq_normal ?_
  refine w_seq ?_
  refine w_region ?_
  refine l_cons rfl (p_assign ?_)
  refine l_nil ?_
  refine k_seq_normal ?_
  refine w_seq ?_
  refine w_seq ?_
  refine w_adopt 3 29 6 rfl fun s3 => ?_
  simp only [upd_upd]
  refine w_region ?_
  refine l_cons rfl (p_assign ?_)
  refine l_nil ?_
  refine k_seq_normal ?_
  refine w_block ?_
  refine w_loop (fun m f es' => ∃ k s3, m = r.args.length - k ∧ k ≤ r.args.length ∧ es' = .row s3 29 6 ((r.args.take k).map Rx.cells) :: .row s2 29 6 [[.int .i64 0, .int .u64 0, .int .u64 0, .int .u64 0, .int .u64 0, .nil]] :: .row s1 29 6 [[.int .i64 r.kind, .int .u64 r.set.w0, .int .u64 r.set.w1, .int .u64 r.set.w2, .int .u64 r.set.w3, .list 6 (r.args.map Rx.cells)]] :: es ∧ Knows f [(1, .ptr es.length s1 0 0), (2, .ptr (es.length + 1) s2 0 0), (3, .own (es.length + 2) s3), (4, .int .i64 k)]) (r.args.length) (⟨0, s3, rfl, Nat.zero_le _, rfl, by simp only [Knows, put, upd_apply, Nat.reduceEqDiff, ↓reduceIte, and_true, true_and, eq_self] <;> and_intros <;> rfl⟩) ?_
  rintro m f es' ⟨k, s3, rfl, hk1, rfl, hk⟩
  refine w_pins _ (Sub.refl _) (hk) ?_
  simp only [pins]
  refine w_seq ?_
  refine w_seq ?_
  refine w_region ?_
  refine l_cons rfl (p_move ?_)
  refine l_cons rfl (p_fap fa_29_2 ?_)
  refine l_cons rfl (p_loadp ty_27 ?_)
  first | refine l_cons rfl (p_lenl sl_27 ?_) | refine l_cons rfl (p_leno sl_27 ?_) | refine l_cons rfl (p_lenn sl_27 ?_)
  refine l_cons rfl (p_cmp ?_)
  refine l_nil ?_
  refine k_seq_normal ?_
  refine w_b (fun h1 => ?_) (fun h1 => ?_)
  · skip
    have h1' := h1; (try simp only [decide_eq_true_eq, decide_eq_false_iff_not, Bool.not_eq_true', Bool.not_false, Bool.not_true, Bool.not_eq_false'] at h1')
    refine w_skip ?_
    refine k_seq_normal ?_
    refine w_seq ?_
    refine w_block ?_
    refine w_region ?_
    refine l_cons rfl (p_move ?_)
    refine l_cons rfl (p_fap fa_29_2 ?_)
    refine l_cons rfl (p_loadp ty_27 ?_)
    refine l_cons rfl (p_move ?_)
    first | refine l_cons rfl (p_ixl sl_27 ?_) | refine l_cons rfl (p_ixo sl_27 ?_)
    first | refine l_cons rfl (p_loadf ty_29 ?_) | refine l_cons rfl (p_loadp ty_29 ?_)
    refine l_cons rfl (p_callr en_63 (ih (B - 1) (by omega) (r.args[k]'(by omega)) _ (by have := r.nodes_arg (k := k) (by omega); omega) (by omega)) ?_)
    refine l_cons rfl (p_buildList sl_27 ze_29 ?_)
    refine l_cons rfl (p_append sl_27 by_29 ze_29 (fun s20 => ?_) (hb := by simp only [List.length_map, List.length_take, List.length_append, List.length_cons, List.length_nil, most]; omega))
    refine l_cons rfl (p_assign ?_)
    refine l_nil ?_
    refine k_blk_normal ?_
    refine k_seq_normal ?_
    refine w_region ?_
    refine l_cons rfl (p_move ?_)
    refine l_cons rfl (p_arith ?_)
    refine l_cons rfl (p_assign ?_)
    refine l_nil ?_
    refine k_seq_normal ?_
    exact ⟨r.args.length - (k + 1), by omega, k + 1, s20, rfl, by omega, by rw [take_map_succ (by omega)]; rfl, by simp only [Knows, put, upd_apply, Nat.reduceEqDiff, ↓reduceIte, and_true, true_and, eq_self] <;> and_intros <;> rfl⟩
  · skip
    have h1' := h1; (try simp only [decide_eq_true_eq, decide_eq_false_iff_not, Bool.not_eq_true', Bool.not_false, Bool.not_true, Bool.not_eq_false'] at h1')
    refine w_exit ?_
    refine k_seq_exit ?_
    refine k_seq_exit ?_
    refine k_blk_here ?_
    refine k_seq_normal ?_
    refine w_seq ?_
    refine w_freezeTop 3 ?_ (hclean := cleans_rx _)
    rw [show k = r.args.length by omega, List.take_length]
    refine w_region ?_
    refine l_cons rfl (p_move ?_)
    refine l_cons rfl (p_fap fa_29_2 ?_)
    refine l_cons rfl (p_store ty_27 ?_)
    refine l_nil ?_
    refine k_seq_normal ?_
    refine w_seq ?_
    refine w_region ?_
    refine l_cons rfl (p_loadp ty_29 ?_)
    refine l_cons rfl (p_store ty_29 ?_)
    refine l_nil ?_
    refine k_seq_normal ?_
    refine w_ret ?_
    exact retc rfl ty_29 (by first | exact Sub.refl _ | exact sub1 _ _ | exact sub2 _ _ _ | exact sub3 _ _ _ _ | exact sub4 _ _ _ _ _ | exact sub5 _ _ _ _ _ _) ⟨rfl, rfl⟩
theorem refFlat {w0 : World} {es : List Ent} (kd : Int) (l : List Rx) (hn : Rx.nodesL l ≤ 1048576) : ACalls Tryd.prog w0 83 [.int .i64 kd, .list 6 (l.map Rx.cells)] es fun v es' => v = .list 6 ((flatR kd l).map Rx.cells) ∧ es' = es := by
  refine calls2 (N := 35) Tryd.func83 rfl rfl (by decide) ?_
  refine w_seq ?_
  refine w_region ?_
  refine l_cons rfl (p_assign ?_)
  refine l_nil ?_
  refine k_seq_normal ?_
  refine w_seq ?_
  have hal := Rx.len_le l
  refine w_region ?_
  refine l_cons rfl (p_assign ?_)
  refine l_nil ?_
  refine k_seq_normal ?_
  refine w_seq ?_
  refine w_seq ?_
  refine w_adopt 5 29 6 rfl fun s5 => ?_
  simp only [upd_upd]
  refine w_region ?_
  refine l_cons rfl (p_assign ?_)
  refine l_nil ?_
  refine k_seq_normal ?_
  refine w_block ?_
  refine w_loop (fun m f es' => ∃ k s5, m = l.length - k ∧ k ≤ l.length ∧ es' = .row s5 29 6 ((flatR kd (l.take k)).map Rx.cells) :: es ∧ Knows f [(0, .int .i64 kd), (1, .list 6 (l.map Rx.cells)), (5, .own es.length s5), (6, .int .i64 k)]) (l.length) (⟨0, s5, rfl, Nat.zero_le _, rfl, by simp only [Knows, put, upd_apply, Nat.reduceEqDiff, ↓reduceIte, and_true, true_and, eq_self] <;> and_intros <;> rfl⟩) ?_
  rintro m f es' ⟨k, s5, rfl, hk1, rfl, hk⟩
  refine w_pins _ (Sub.refl _) (hk) ?_
  simp only [pins]
  refine w_seq ?_
  refine w_seq ?_
  refine w_region ?_
  refine l_cons rfl (p_move ?_)
  refine l_cons rfl (p_move ?_)
  refine l_cons rfl (p_lenl sl_27 ?_)
  refine l_cons rfl (p_cmp ?_)
  refine l_nil ?_
  refine k_seq_normal ?_
  refine w_b (fun h1 => ?_) (fun h1 => ?_)
  · skip
    have h1' := h1; (try simp only [decide_eq_true_eq, decide_eq_false_iff_not, Bool.not_eq_true', Bool.not_false, Bool.not_true, Bool.not_eq_false'] at h1')
    refine w_skip ?_
    refine k_seq_normal ?_
    refine w_seq ?_
    refine w_block ?_
    refine w_seq ?_
    have hx1 := flat_take_nodes kd l k
    have hx2 := Rx.nodesL_take l k (by omega)
    have hx3 := Rx.nodesL_le l (k + 1)
    have hx4 := Rx.len_le (flatR kd (l.take k))
    have hx5 := (l[k]'(by omega)).nodes_eq
    have hx6 := Rx.len_le (l[k]'(by omega)).args
    refine w_region ?_
    refine l_cons rfl (p_move ?_)
    refine l_cons rfl (p_move ?_)
    refine l_cons rfl (p_ixl sl_27 ?_)
    refine l_cons rfl (p_faf fa_29_0 ?_)
    refine l_cons rfl (p_loadf ty_3 ?_)
    refine l_cons rfl (p_move ?_)
    refine l_cons rfl (p_cmp ?_)
    refine l_nil ?_
    refine k_seq_normal ?_
    refine w_b (fun h2 => ?_) (fun h2 => ?_)
    · skip
      have h2' := h2; (try simp only [decide_eq_true_eq, decide_eq_false_iff_not, Bool.not_eq_true', Bool.not_false, Bool.not_true, Bool.not_eq_false'] at h2')
      refine w_region ?_
      refine l_cons rfl (p_move ?_)
      refine l_cons rfl (p_move ?_)
      refine l_cons rfl (p_move ?_)
      refine l_cons rfl (p_ixl sl_27 ?_)
      refine l_cons rfl (p_faf fa_29_2 ?_)
      refine l_cons rfl (p_loadf ty_27 (a := .list 6 ((l[k]'(by omega)).args.map Rx.cells)) ?_ (ha := args_load _))
      refine l_cons rfl (p_append sl_27 by_29 ze_29 (fun s26 => ?_) (hb := by simp only [List.length_map, List.length_take, List.length_append, List.length_cons, List.length_nil, most]; omega))
      refine l_cons rfl (p_assign ?_)
      refine l_nil ?_
      refine k_blk_normal ?_
      refine k_seq_normal ?_
      refine w_region ?_
      refine l_cons rfl (p_move ?_)
      refine l_cons rfl (p_arith ?_)
      refine l_cons rfl (p_assign ?_)
      refine l_nil ?_
      refine k_seq_normal ?_
      first
      | exact ⟨l.length - (k + 1), by omega, k + 1, s26, rfl, by omega, by rw [flat_take_yes (by omega) h2'] <;> rfl, by simp only [Knows, put, upd_apply, Nat.reduceEqDiff, ↓reduceIte, and_true, true_and, eq_self] <;> and_intros <;> rfl⟩
      | exact ⟨l.length - (k + 1), by omega, k + 1, s33, rfl, by omega, by rw [flat_take_no (by omega) h2'] <;> rfl, by simp only [Knows, put, upd_apply, Nat.reduceEqDiff, ↓reduceIte, and_true, true_and, eq_self] <;> and_intros <;> rfl⟩
    · skip
      have h2' := h2; (try simp only [decide_eq_true_eq, decide_eq_false_iff_not, Bool.not_eq_true', Bool.not_false, Bool.not_true, Bool.not_eq_false'] at h2')
      refine w_region ?_
      refine l_cons rfl (p_move ?_)
      refine l_cons rfl (p_move ?_)
      refine l_cons rfl (p_move ?_)
      refine l_cons rfl (p_ixl sl_27 ?_)
      refine l_cons rfl (p_loadf ty_29 ?_)
      refine l_cons rfl (p_buildList sl_27 ze_29 ?_)
      refine l_cons rfl (p_append sl_27 by_29 ze_29 (fun s33 => ?_) (hb := by simp only [List.length_map, List.length_take, List.length_append, List.length_cons, List.length_nil, most]; omega))
      refine l_cons rfl (p_assign ?_)
      refine l_nil ?_
      refine k_blk_normal ?_
      refine k_seq_normal ?_
      refine w_region ?_
      refine l_cons rfl (p_move ?_)
      refine l_cons rfl (p_arith ?_)
      refine l_cons rfl (p_assign ?_)
      refine l_nil ?_
      refine k_seq_normal ?_
      first
      | exact ⟨l.length - (k + 1), by omega, k + 1, s26, rfl, by omega, by rw [flat_take_yes (by omega) h2'] <;> rfl, by simp only [Knows, put, upd_apply, Nat.reduceEqDiff, ↓reduceIte, and_true, true_and, eq_self] <;> and_intros <;> rfl⟩
      | exact ⟨l.length - (k + 1), by omega, k + 1, s33, rfl, by omega, by rw [flat_take_no (by omega) h2'] <;> rfl, by simp only [Knows, put, upd_apply, Nat.reduceEqDiff, ↓reduceIte, and_true, true_and, eq_self] <;> and_intros <;> rfl⟩
  · skip
    have h1' := h1; (try simp only [decide_eq_true_eq, decide_eq_false_iff_not, Bool.not_eq_true', Bool.not_false, Bool.not_true, Bool.not_eq_false'] at h1')
    refine w_exit ?_
    refine k_seq_exit ?_
    refine k_seq_exit ?_
    refine k_blk_here ?_
    refine k_seq_normal ?_
    refine w_seq ?_
    refine w_freezeTop 5 ?_ (hclean := cleans_rx _)
    rw [show k = l.length by omega, List.take_length]
    refine w_region ?_
    refine l_cons rfl (p_move ?_)
    refine l_cons rfl (p_assign ?_)
    refine l_nil ?_
    refine k_seq_normal ?_
    refine w_ret ?_
    exact ret1 rfl (by simp only [ev_tmp, ev_const, ev_func, ofConst_int, ofConst_bool, ofConst_str, ofConst_nil, upd_apply, Nat.reduceEqDiff, ↓reduceIte] <;> exact rfl) (by first | exact Sub.refl _ | exact sub1 _ _ | exact sub2 _ _ _ | exact sub3 _ _ _ _ | exact sub4 _ _ _ _ _ | exact sub5 _ _ _ _ _ _) ⟨rfl, rfl⟩
theorem refSame {w0 : World} : ∀ (B : Nat) (a b : Rx) (es : List Ent), a.nodes ≤ B → ACalls Tryd.prog w0 64 [.agg a.cells, .agg b.cells] es fun v es' => v = .bool (a.same b) ∧ es' = es := by
  intro B
  induction B using Nat.strongRecOn with
  | _ B ih => ?_
  intro a b es hB
  rw [Rx.cells_eq a, Rx.cells_eq b]
  have hne := a.nodes_eq
  refine calls2 (N := 46) Tryd.func64 rfl rfl (by decide) ?_
  refine w_seq ?_
  refine w_region ?_
  refine l_cons rfl (p_box fun s2 => ?_)
  refine l_cons rfl (p_box fun s3 => ?_)
  refine l_cons rfl (p_assign ?_)
  refine l_nil ?_
  refine k_seq_normal ?_
  refine w_seq ?_
  refine w_seq ?_
  refine w_region ?_
  refine l_cons rfl (p_fap fa_29_0 ?_)
  refine l_cons rfl (p_loadp ty_3 ?_)
  refine l_cons rfl (p_fap fa_29_0 ?_)
  refine l_cons rfl (p_loadp ty_3 ?_)
  refine l_cons rfl (p_cmp ?_)
  refine l_cons rfl (p_move ?_)
  refine g_b rfl (fun h1 => ?_) (fun h1 => ?_)
  · skip
    have h1' := h1; (try simp only [decide_eq_true_eq, decide_eq_false_iff_not, Bool.not_eq_true', Bool.not_false, Bool.not_true, Bool.not_eq_false'] at h1')
    refine (p_fap fa_29_1 ?_)
    refine g_y rfl h1 (p_loadp ty_26 ?_)
    refine g_y rfl h1 (p_fap fa_29_1 ?_)
    refine g_y rfl h1 (p_loadp ty_26 ?_)
    refine g_y rfl h1 (p_nea ai_26 ?_ (hb := neA a.set b.set))
    refine l_cons rfl (p_pickf h1 ?_)
    refine l_cons rfl (p_move ?_)
    refine g_b rfl (fun h2 => ?_) (fun h2 => ?_)
    · skip
      have h2' := h2; (try simp only [decide_eq_true_eq, decide_eq_false_iff_not, Bool.not_eq_true', Bool.not_false, Bool.not_true, Bool.not_eq_false'] at h2')
      refine (p_fap fa_29_2 ?_)
      refine g_y rfl h2 (p_loadp ty_27 ?_)
      first | refine g_y rfl h2 (p_lenl sl_27 ?_) | refine g_y rfl h2 (p_leno sl_27 ?_) | refine g_y rfl h2 (p_lenn sl_27 ?_)
      refine g_y rfl h2 (p_fap fa_29_2 ?_)
      refine g_y rfl h2 (p_loadp ty_27 ?_)
      first | refine g_y rfl h2 (p_lenl sl_27 ?_) | refine g_y rfl h2 (p_leno sl_27 ?_) | refine g_y rfl h2 (p_lenn sl_27 ?_)
      refine g_y rfl h2 (p_cmp ?_)
      refine l_cons rfl (p_pickf h2 ?_)
      refine l_nil ?_
      refine k_seq_normal ?_
      refine w_b (fun h3 => ?_) (fun h3 => ?_)
      · skip
        have h3' := h3; (try simp only [decide_eq_true_eq, decide_eq_false_iff_not, Bool.not_eq_true', Bool.not_false, Bool.not_true, Bool.not_eq_false'] at h3')
        refine w_seq ?_
        refine w_region ?_
        refine l_cons rfl (p_assign ?_)
        refine l_nil ?_
        refine k_seq_normal ?_
        refine w_ret ?_
        refine k_seq_ret ?_
        exact ret1 rfl (by simp only [ev_tmp, ev_const, ev_func, ofConst_int, ofConst_bool, ofConst_str, ofConst_nil, upd_apply, Nat.reduceEqDiff, ↓reduceIte] <;> exact rfl) (by first | exact Sub.refl _ | exact sub1 _ _ | exact sub2 _ _ _ | exact sub3 _ _ _ _ | exact sub4 _ _ _ _ _ | exact sub5 _ _ _ _ _ _) ⟨by rw [same_no1 (by first | (left; simp_all; done) | (right; left; simp_all; done) | (right; right; simp_all; omega) | (right; right; simp_all))], rfl⟩
      · skip
        have h3' := h3; (try simp only [decide_eq_true_eq, decide_eq_false_iff_not, Bool.not_eq_true', Bool.not_false, Bool.not_true, Bool.not_eq_false'] at h3')
        refine w_skip ?_
        refine k_seq_normal ?_
        refine w_seq ?_
        refine w_seq ?_
        have hab : a.kind = b.kind ∧ a.set = b.set ∧ a.args.length = b.args.length := by refine ⟨?_, ?_, ?_⟩ <;> first | (simp_all; done) | (simp_all; omega)
        refine w_region ?_
        refine l_cons rfl (p_assign ?_)
        refine l_nil ?_
        refine k_seq_normal ?_
        refine w_block ?_
        refine w_loop (fun q f es' => ∃ k, q = a.args.length - k ∧ k ≤ a.args.length ∧ (∀ j (hj : j < k) (h1 : j < a.args.length) (h2 : j < b.args.length), a.args[j] = b.args[j]) ∧ es' = .row s3 29 6 [[.int .i64 b.kind, .int .u64 b.set.w0, .int .u64 b.set.w1, .int .u64 b.set.w2, .int .u64 b.set.w3, .list 6 (b.args.map Rx.cells)]] :: .row s2 29 6 [[.int .i64 a.kind, .int .u64 a.set.w0, .int .u64 a.set.w1, .int .u64 a.set.w2, .int .u64 a.set.w3, .list 6 (a.args.map Rx.cells)]] :: es ∧ Knows f [(2, .ptr es.length s2 0 0), (3, .ptr (es.length + 1) s3 0 0), (5, .int .i64 k)]) (a.args.length) (⟨0, rfl, Nat.zero_le _, fun j hj => absurd hj (Nat.not_lt_zero _), rfl, by simp only [Knows, put, upd_apply, Nat.reduceEqDiff, ↓reduceIte, and_true, true_and, eq_self] <;> and_intros <;> rfl⟩) ?_
        rintro q f es' ⟨k, rfl, hk1, hk2, rfl, hk⟩
        obtain ⟨hab1, hab2, hab3⟩ := hab
        refine w_pins _ (Sub.refl _) (hk) ?_
        simp only [pins]
        refine w_seq ?_
        refine w_seq ?_
        refine w_region ?_
        refine l_cons rfl (p_move ?_)
        refine l_cons rfl (p_fap fa_29_2 ?_)
        refine l_cons rfl (p_loadp ty_27 ?_)
        refine l_len 29 fun hl => ?_
        simp only [List.length_map, most] at hl
        first | refine l_cons rfl (p_lenl sl_27 ?_) | refine l_cons rfl (p_leno sl_27 ?_) | refine l_cons rfl (p_lenn sl_27 ?_)
        refine l_cons rfl (p_cmp ?_)
        refine l_nil ?_
        refine k_seq_normal ?_
        refine w_b (fun h4 => ?_) (fun h4 => ?_)
        · skip
          have h4' := h4; (try simp only [decide_eq_true_eq, decide_eq_false_iff_not, Bool.not_eq_true', Bool.not_false, Bool.not_true, Bool.not_eq_false'] at h4')
          refine w_skip ?_
          refine k_seq_normal ?_
          refine w_seq ?_
          refine w_block ?_
          refine w_seq ?_
          refine w_drawn 10 [] (fun e => e = _) mixed (by kernel_rfl) rfl ?_
          refine q1 2 (hg := rfl) (hu := rfl) (h := by rintro f _ rfl; exact p_fap fa_29_2 ⟨rfl, rfl⟩) (k := ?_)
          refine q1 34 (hg := rfl) (hu := rfl) (h := by rintro f _ rfl; exact p_loadp ty_27 ⟨rfl, rfl⟩) (k := ?_)
          refine q1 5 (hg := rfl) (hu := rfl) (h := by rintro f _ rfl; exact p_move ⟨rfl, rfl⟩) (k := ?_)
          first | refine q2 35 36 (hg := rfl) (hu := rfl) (h := by rintro f _ rfl; exact p_ixl sl_27 ⟨rfl, rfl⟩) (k := ?_) | refine q2 35 36 (hg := rfl) (hu := rfl) (h := by rintro f _ rfl; exact p_ixo sl_27 ⟨rfl, rfl⟩) (k := ?_)
          first | refine q1 37 (hg := rfl) (hu := rfl) (h := by rintro f _ rfl; exact p_loadf ty_29 ⟨rfl, rfl⟩) (k := ?_) | refine q1 37 (hg := rfl) (hu := rfl) (h := by rintro f _ rfl; exact p_loadp ty_29 ⟨rfl, rfl⟩) (k := ?_)
          refine q1 3 (hg := rfl) (hu := rfl) (h := by rintro f _ rfl; exact p_fap fa_29_2 ⟨rfl, rfl⟩) (k := ?_)
          refine q1 39 (hg := rfl) (hu := rfl) (h := by rintro f _ rfl; exact p_loadp ty_27 ⟨rfl, rfl⟩) (k := ?_)
          refine q1 5 (hg := rfl) (hu := rfl) (h := by rintro f _ rfl; exact p_move ⟨rfl, rfl⟩) (k := ?_)
          first | refine q2 40 41 (hg := rfl) (hu := rfl) (h := by rintro f _ rfl; exact p_ixl sl_27 ⟨rfl, rfl⟩) (k := ?_) | refine q2 40 41 (hg := rfl) (hu := rfl) (h := by rintro f _ rfl; exact p_ixo sl_27 ⟨rfl, rfl⟩) (k := ?_)
          first | refine q1 42 (hg := rfl) (hu := rfl) (h := by rintro f _ rfl; exact p_loadf ty_29 ⟨rfl, rfl⟩) (k := ?_) | refine q1 42 (hg := rfl) (hu := rfl) (h := by rintro f _ rfl; exact p_loadp ty_29 ⟨rfl, rfl⟩) (k := ?_)
          refine q_end ?_
          refine m_end ?_
          refine l_cons rfl (p_callr en_64 (ih (B - 1) (by omega) (a.args[k]'(by omega)) (b.args[k]'(by omega)) _ (by have := a.nodes_arg (k := k) (by omega); omega)) ?_)
          refine l_cons rfl (p_not ?_)
          refine l_nil ?_
          refine k_seq_normal ?_
          refine w_b (fun h5 => ?_) (fun h5 => ?_)
          · skip
            have h5' := h5; (try simp only [decide_eq_true_eq, decide_eq_false_iff_not, Bool.not_eq_true', Bool.not_false, Bool.not_true, Bool.not_eq_false'] at h5')
            refine w_seq ?_
            refine w_region ?_
            refine l_cons rfl (p_assign ?_)
            refine l_nil ?_
            refine k_seq_normal ?_
            refine w_ret ?_
            refine k_blk_ret ?_
            refine k_seq_ret ?_
            refine k_seq_ret ?_
            refine k_blk_ret ?_
            refine k_seq_ret ?_
            exact ret1 rfl (by simp only [ev_tmp, ev_const, ev_func, ofConst_int, ofConst_bool, ofConst_str, ofConst_nil, upd_apply, Nat.reduceEqDiff, ↓reduceIte] <;> exact rfl) (by first | exact Sub.refl _ | exact sub1 _ _ | exact sub2 _ _ _ | exact sub3 _ _ _ _ | exact sub4 _ _ _ _ _ | exact sub5 _ _ _ _ _ _) ⟨by rw [same_no2 (k := k) (by omega) (by omega) (by simp_all)], rfl⟩
          · skip
            have h5' := h5; (try simp only [decide_eq_true_eq, decide_eq_false_iff_not, Bool.not_eq_true', Bool.not_false, Bool.not_true, Bool.not_eq_false'] at h5')
            refine w_skip ?_
            refine k_blk_normal ?_
            refine k_seq_normal ?_
            refine w_region ?_
            refine l_cons rfl (p_move ?_)
            refine l_cons rfl (p_arith ?_)
            refine l_cons rfl (p_assign ?_)
            refine l_nil ?_
            refine k_seq_normal ?_
            exact ⟨a.args.length - (k + 1), by omega, k + 1, rfl, by omega, fun j hj h1 h2 => by
              rcases Nat.lt_or_eq_of_le (Nat.le_of_lt_succ hj) with h9 | h9
              · exact hk2 j h9 h1 h2
              · subst h9; exact (Rx.same_iff _ _).1 (by simp_all), rfl, by simp only [Knows, put, upd_apply, Nat.reduceEqDiff, ↓reduceIte, and_true, true_and, eq_self] <;> and_intros <;> rfl⟩
        · skip
          have h4' := h4; (try simp only [decide_eq_true_eq, decide_eq_false_iff_not, Bool.not_eq_true', Bool.not_false, Bool.not_true, Bool.not_eq_false'] at h4')
          refine w_exit ?_
          refine k_seq_exit ?_
          refine k_seq_exit ?_
          refine k_blk_here ?_
          refine k_seq_normal ?_
          refine w_seq ?_
          refine w_region ?_
          refine l_cons rfl (p_assign ?_)
          refine l_nil ?_
          refine k_seq_normal ?_
          refine w_ret ?_
          exact ret1 rfl (by simp only [ev_tmp, ev_const, ev_func, ofConst_int, ofConst_bool, ofConst_str, ofConst_nil, upd_apply, Nat.reduceEqDiff, ↓reduceIte] <;> exact rfl) (by first | exact Sub.refl _ | exact sub1 _ _ | exact sub2 _ _ _ | exact sub3 _ _ _ _ | exact sub4 _ _ _ _ _ | exact sub5 _ _ _ _ _ _) ⟨by rw [same_all hab1 hab2 hab3 (fun j h1 h2 => hk2 j (by omega) h1 h2)], rfl⟩
    · skip
      have h2' := h2; (try simp only [decide_eq_true_eq, decide_eq_false_iff_not, Bool.not_eq_true', Bool.not_false, Bool.not_true, Bool.not_eq_false'] at h2')
      refine g_n rfl h2 ?_
      refine g_n rfl h2 ?_
      refine g_n rfl h2 ?_
      refine g_n rfl h2 ?_
      refine g_n rfl h2 ?_
      refine g_n rfl h2 ?_
      refine l_cons rfl (p_pickt h2 ?_)
      refine l_nil ?_
      refine k_seq_normal ?_
      refine w_t rfl ?_
      refine w_seq ?_
      refine w_region ?_
      refine l_cons rfl (p_assign ?_)
      refine l_nil ?_
      refine k_seq_normal ?_
      refine w_ret ?_
      refine k_seq_ret ?_
      exact ret1 rfl (by simp only [ev_tmp, ev_const, ev_func, ofConst_int, ofConst_bool, ofConst_str, ofConst_nil, upd_apply, Nat.reduceEqDiff, ↓reduceIte] <;> exact rfl) (by first | exact Sub.refl _ | exact sub1 _ _ | exact sub2 _ _ _ | exact sub3 _ _ _ _ | exact sub4 _ _ _ _ _ | exact sub5 _ _ _ _ _ _) ⟨by rw [same_no1 (by first | (left; simp_all; done) | (right; left; simp_all; done) | (right; right; simp_all; omega) | (right; right; simp_all))], rfl⟩
  · skip
    have h1' := h1; (try simp only [decide_eq_true_eq, decide_eq_false_iff_not, Bool.not_eq_true', Bool.not_false, Bool.not_true, Bool.not_eq_false'] at h1')
    refine g_n rfl h1 ?_
    refine g_n rfl h1 ?_
    refine g_n rfl h1 ?_
    refine g_n rfl h1 ?_
    refine l_cons rfl (p_pickt h1 ?_)
    refine l_cons rfl (p_move ?_)
    refine g_n rfl rfl ?_
    refine g_n rfl rfl ?_
    refine g_n rfl rfl ?_
    refine g_n rfl rfl ?_
    refine g_n rfl rfl ?_
    refine g_n rfl rfl ?_
    refine g_n rfl rfl ?_
    refine l_cons rfl (p_pickt rfl ?_)
    refine l_nil ?_
    refine k_seq_normal ?_
    refine w_t rfl ?_
    refine w_seq ?_
    refine w_region ?_
    refine l_cons rfl (p_assign ?_)
    refine l_nil ?_
    refine k_seq_normal ?_
    refine w_ret ?_
    refine k_seq_ret ?_
    exact ret1 rfl (by simp only [ev_tmp, ev_const, ev_func, ofConst_int, ofConst_bool, ofConst_str, ofConst_nil, upd_apply, Nat.reduceEqDiff, ↓reduceIte] <;> exact rfl) (by first | exact Sub.refl _ | exact sub1 _ _ | exact sub2 _ _ _ | exact sub3 _ _ _ _ | exact sub4 _ _ _ _ _ | exact sub5 _ _ _ _ _ _) ⟨by rw [same_no1 (by first | (left; simp_all; done) | (right; left; simp_all; done) | (right; right; simp_all; omega) | (right; right; simp_all))], rfl⟩
end Go.Proofs.YtfdgbghlanbddaaDoor.Av
set_option linter.unusedVariables false
set_option linter.unusedSimpArgs false
namespace Go.Proofs.YtfdgbghlanbddaaDoor.Av
/-! ### sets, byte by byte -/
def listTo (s : W4) (k : Nat) : List Int := ((List.range k).filter s.has).map Int.ofNat
def listW (s : W4) : List Int := listTo s 256
def W4.setWd (s : W4) (q : Nat) (v : Int) : W4 := if q = 0 then { s with w0 := v } else if q = 1 then { s with w1 := v } else if q = 2 then { s with w2 := v } else { s with w3 := v }
def W4.add (s : W4) (b : Int) : W4 := s.setWd (b / 64).toNat (orI (s.wd (b / 64).toNat) (2 ^ (b % 64).toNat))
def ofW (l : List Int) : W4 := l.foldl W4.add noSet
theorem listTo_succ (s : W4) (k : Nat) : listTo s (k + 1) = listTo s k ++ (if s.has k = true then [(k : Int)] else []) := by
  unfold listTo
  rw [List.range_succ, List.filter_append, List.map_append]
  by_cases h : s.has k = true
  · rw [if_pos h, List.filter_cons_of_pos (by simpa using h)]; rfl
  · rw [if_neg h, List.filter_cons_of_neg (by simpa using h)]; rfl
theorem listTo_len (s : W4) (k : Nat) : (listTo s k).length ≤ k := by
  unfold listTo
  rw [List.length_map]
  have := List.length_filter_le s.has (List.range k)
  simpa using this
theorem listW_mem {s : W4} {n : Int} : n ∈ listW s ↔ ∃ i : Nat, n = i ∧ i < 256 ∧ s.has i = true := by
  unfold listW listTo
  simp only [List.mem_map, List.mem_filter, List.mem_range]
  constructor
  · rintro ⟨i, ⟨h1, h2⟩, rfl⟩; exact ⟨i, rfl, h1, h2⟩
  · rintro ⟨i, rfl, h1, h2⟩; exact ⟨i, ⟨h1, h2⟩, rfl⟩
theorem setWd_wd (s : W4) {q q' : Nat} (v : Int) (hq : q < 4) (hq' : q' < 4) : (s.setWd q v).wd q' = if q' = q then v else s.wd q' := by
  have h1 : q = 0 ∨ q = 1 ∨ q = 2 ∨ q = 3 := by omega
  have h2 : q' = 0 ∨ q' = 1 ∨ q' = 2 ∨ q' = 3 := by omega
  rcases h1 with rfl | rfl | rfl | rfl <;> rcases h2 with rfl | rfl | rfl | rfl <;> simp [W4.setWd, W4.wd]
theorem setWd_ok {s : W4} (h : s.ok) (q : Nat) {v : Int} (hv : 0 ≤ v ∧ v < 18446744073709551616) : (s.setWd q v).ok := by
  unfold W4.ok at *
  unfold W4.setWd
  split
  · simp only; omega
  · split
    · simp only; omega
    · split <;> simp only <;> omega
theorem two_lt {n : Nat} (h : n < 64) : (0 : Int) ≤ 2 ^ n ∧ (2 : Int) ^ n < 18446744073709551616 := by
  have e : ((2 : Int) ^ n) = ((2 ^ n : Nat) : Int) := by simp
  have : (2 : Nat) ^ n < 2 ^ 64 := Nat.pow_lt_pow_right (by omega) h
  rw [e]
  generalize (2 : Nat) ^ n = m at this
  omega
theorem add_ok {s : W4} (h : s.ok) {b : Int} (h0 : 0 ≤ b) (h1 : b < 256) : (s.add b).ok := by
  unfold W4.add
  exact setWd_ok h _ (or_lt (W4.wd_ok h _).2 (two_lt (by omega)).2)
theorem add_has {s : W4} (h : s.ok) {b : Int} (h0 : 0 ≤ b) (h1 : b < 256) {i : Nat} (hi : i < 256) : (s.add b).has i = (s.has i || decide ((i : Int) = b)) := by
  rw [W4.has_eq (add_ok h h0 h1) hi, W4.has_eq h hi]
  unfold W4.add
  rw [setWd_wd s _ (by omega) (by omega)]
  by_cases hq : i / 64 = (b / 64).toNat
  · rw [if_pos hq, ← hq]
    unfold orI
    rw [Int.toNat_natCast, Nat.testBit_or]
    congr 1
    have e : ((2 : Int) ^ (b % 64).toNat).toNat = 2 ^ (b % 64).toNat := by
      have e : ((2 : Int) ^ (b % 64).toNat) = ((2 ^ (b % 64).toNat : Nat) : Int) := by simp
      rw [e, Int.toNat_natCast]
    rw [e, Nat.testBit_two_pow, decide_eq_decide]
    omega
  · rw [if_neg hq, show decide ((i : Int) = b) = false from decide_eq_false (by omega)]
    simp
theorem ofW_from : ∀ {l : List Int} {s : W4}, s.ok → (∀ b ∈ l, 0 ≤ b ∧ b < 256) → (l.foldl W4.add s).ok ∧ ∀ i : Nat, i < 256 → (l.foldl W4.add s).has i = (s.has i || decide ((i : Int) ∈ l))
  | [], s, h, _ => ⟨h, fun i _ => by simp⟩
  | b :: t, s, h, hl => by
    have hb := hl b (by simp)
    obtain ⟨h1, h2⟩ := ofW_from (l := t) (add_ok h hb.1 hb.2) (fun x hx => hl x (by simp [hx]))
    refine ⟨h1, fun i hi => ?_⟩
    show (t.foldl W4.add (s.add b)).has i = _
    rw [h2 i hi, add_has h hb.1 hb.2 hi, Bool.or_assoc]
    congr 1
    rw [Bool.eq_iff_iff]
    simp
theorem noSet_has {i : Nat} (hi : i < 256) : noSet.has i = false := by
  rw [W4.has_eq noSet_ok hi]
  simp [noSet, W4.wd]
theorem ofW_ok {l : List Int} (h : ∀ b ∈ l, 0 ≤ b ∧ b < 256) : (ofW l).ok := (ofW_from noSet_ok h).1
theorem ofW_has {l : List Int} (h : ∀ b ∈ l, 0 ≤ b ∧ b < 256) {i : Nat} (hi : i < 256) : (ofW l).has i = decide ((i : Int) ∈ l) := by
  unfold ofW
  rw [(ofW_from noSet_ok h).2 i hi, noSet_has hi, Bool.false_or]
theorem or_has {a b : W4} (ha : a.ok) (hb : b.ok) {i : Nat} (hi : i < 256) : (a.or b).has i = (a.has i || b.has i) := by
  rw [W4.has_eq (or_ok ha hb) hi, W4.has_eq ha hi, W4.has_eq hb hi, ← Nat.testBit_or]
  congr 1
  have h4 : i / 64 = 0 ∨ i / 64 = 1 ∨ i / 64 = 2 ∨ i / 64 = 3 := by omega
  rcases h4 with h | h | h | h <;> rw [h] <;> simp [W4.or, W4.wd, orI]
theorem ofW_or {a b : W4} (ha : a.ok) (hb : b.ok) : ofW (listW a ++ listW b) = a.or b := by
  have hr : ∀ x ∈ listW a ++ listW b, 0 ≤ x ∧ x < 256 := by
    intro x hx
    rcases List.mem_append.1 hx with hx | hx <;> (obtain ⟨i, rfl, h1, _⟩ := listW_mem.1 hx; omega)
  refine W4.ext (ofW_ok hr) (or_ok ha hb) fun i hi => ?_
  rw [ofW_has hr hi, or_has ha hb hi, Bool.eq_iff_iff]
  simp only [decide_eq_true_eq, List.mem_append, Bool.or_eq_true]
  constructor
  · rintro (h | h)
    · obtain ⟨j, e, _, h2⟩ := listW_mem.1 h
      have : j = i := by omega
      exact .inl (this ▸ h2)
    · obtain ⟨j, e, _, h2⟩ := listW_mem.1 h
      have : j = i := by omega
      exact .inr (this ▸ h2)
  · rintro (h | h)
    · exact .inl (listW_mem.2 ⟨i, rfl, hi, h⟩)
    · exact .inr (listW_mem.2 ⟨i, rfl, hi, h⟩)
theorem ofW_take {l : List Int} {k : Nat} (h : k < l.length) : ofW (l.take (k + 1)) = (ofW (l.take k)).add l[k] := by
  unfold ofW
  rw [List.take_add_one, List.getElem?_eq_getElem h, List.foldl_append]
  rfl
theorem store_wd (s : W4) {q : Nat} (hq : q < 4) (v : Int) : [AV.int .u64 s.w0, .int .u64 s.w1, .int .u64 s.w2, .int .u64 s.w3].take q ++ [.int .u64 v] ++ [AV.int .u64 s.w0, .int .u64 s.w1, .int .u64 s.w2, .int .u64 s.w3].drop (q + 1) = [.int .u64 (s.setWd q v).w0, .int .u64 (s.setWd q v).w1, .int .u64 (s.setWd q v).w2, .int .u64 (s.setWd q v).w3] := by
  have h1 : q = 0 ∨ q = 1 ∨ q = 2 ∨ q = 3 := by omega
  rcases h1 with rfl | rfl | rfl | rfl <;> simp [W4.setWd]
theorem shl1 {b : Int} (h0 : 0 ≤ b) : IntKind.u64.wrap (1 * 2 ^ (min (b % 64).toNat IntKind.u64.bits)) = 2 ^ (b % 64).toNat := by
  have hb : (b % 64).toNat < 64 := by omega
  have : min (b % 64).toNat IntKind.u64.bits = (b % 64).toNat := by rw [show IntKind.u64.bits = 64 from rfl]; omega
  rw [this, Int.one_mul]
  exact wrap_u64_id (two_lt hb).1 (two_lt hb).2
/-! ### one more, in its order -/
theorem insR_at : ∀ {l : List Rx} {r : Rx} {k : Nat}, k ≤ l.length → (∀ j (hj : j < k) (h : j < l.length), l[j].cmp r = -1) → (∀ h : k < l.length, l[k].cmp r ≠ -1) →
    insR l r = if ∃ h : k < l.length, l[k].cmp r = 0 then l else l.take k ++ r :: l.drop k
  | [], r, k, hk, _, _ => by
    have : k = 0 := by simpa using hk
    subst this
    rw [if_neg (by rintro ⟨h, _⟩; simp at h)]
    simp [insR]
  | a :: t, r, 0, _, _, h2 => by
    have h2 := h2 (by simp)
    simp only [List.getElem_cons_zero] at h2
    simp only [insR]
    rw [if_neg h2]
    by_cases h0 : a.cmp r = 0
    · rw [if_pos h0, if_pos ⟨by simp, by simpa using h0⟩]
    · rw [if_neg h0, if_neg (by rintro ⟨_, h⟩; exact h0 (by simpa using h))]
      rfl
  | a :: t, r, k + 1, hk, h1, h2 => by
    have ha := h1 0 (by omega) (by simp)
    simp only [List.getElem_cons_zero] at ha
    simp only [insR]
    rw [if_pos ha, insR_at (l := t) (k := k) (by simpa using hk) (fun j hj h => h1 (j + 1) (by omega) (Nat.succ_lt_succ h)) (fun h => h2 (Nat.succ_lt_succ h))]
    by_cases h0 : ∃ h : k < t.length, t[k].cmp r = 0
    · rw [if_pos h0, if_pos (by obtain ⟨h, e⟩ := h0; exact ⟨by simpa using h, by simpa using e⟩)]
    · rw [if_neg h0, if_neg (by rintro ⟨h, e⟩; exact h0 ⟨by simpa using h, by simpa using e⟩)]
      rfl
theorem insR_nodes : ∀ (l : List Rx) (r : Rx), Rx.nodesL (insR l r) ≤ Rx.nodesL l + r.nodes
  | [], r => by simp [insR, Rx.nodesL]
  | a :: t, r => by
    have := insR_nodes t r
    simp only [insR]
    split
    · simp only [Rx.nodesL]; omega
    · split
      · simp only [Rx.nodesL]; omega
      · simp only [Rx.nodesL]; omega
theorem insR_ok {l : List Rx} {r : Rx} (h : ∀ x ∈ l, x.ok) (hr : r.ok) : ∀ x ∈ insR l r, x.ok := by
  induction l with
  | nil => intro x hx; simp [insR] at hx; exact hx ▸ hr
  | cons a t ih =>
    intro x hx
    simp only [insR] at hx
    split at hx
    · rcases List.mem_cons.1 hx with rfl | hx
      · exact h _ (by simp)
      · exact ih (fun y hy => h y (by simp [hy])) x hx
    · split at hx
      · exact h x hx
      · rcases List.mem_cons.1 hx with rfl | hx
        · exact hr
        · exact h x hx
theorem flat_ok {k : Int} {l : List Rx} (h : ∀ x ∈ l, x.ok) : ∀ x ∈ flatR k l, x.ok := by
  intro x hx
  rcases flat_mem hx with ⟨h1, _⟩ | ⟨r, h1, _, h3⟩
  · exact h x h1
  · exact (h r h1).args x h3
theorem altOuts_succ (l : List Rx) {k : Nat} (h : k < l.length) : altOuts [] (l.take (k + 1)) = if (l[k]).kind = 1 ∨ (l[k]).kind = 3 then altOuts [] (l.take k) else insR (altOuts [] (l.take k)) l[k] := by
  unfold altOuts
  rw [List.take_add_one, List.getElem?_eq_getElem h, List.foldl_append]
  rfl
theorem altSet_succ (l : List Rx) {k : Nat} (h : k < l.length) : altSet noSet (l.take (k + 1)) = if (l[k]).kind = 3 then (altSet noSet (l.take k)).or (l[k]).set else altSet noSet (l.take k) := by
  unfold altSet
  rw [List.take_add_one, List.getElem?_eq_getElem h, List.foldl_append]
  rfl
theorem altOuts_inv (l : List Rx) (h : ∀ x ∈ l, x.ok) : ∀ k, k ≤ l.length → (∀ x ∈ altOuts [] (l.take k), x.ok) ∧ Rx.nodesL (altOuts [] (l.take k)) ≤ Rx.nodesL (l.take k) ∧ (altSet noSet (l.take k)).ok
  | 0, _ => by simp [altOuts, altSet, Rx.nodesL]; exact noSet_ok
  | k + 1, hk => by
    obtain ⟨h1, h2, h3⟩ := altOuts_inv l h k (by omega)
    rw [altOuts_succ l (by omega), altSet_succ l (by omega), Rx.nodesL_take l k (by omega)]
    have hx := h l[k] (List.getElem_mem _)
    refine ⟨?_, ?_, ?_⟩
    · split
      · exact h1
      · exact insR_ok h1 hx
    · split
      · omega
      · have := insR_nodes (altOuts [] (l.take k)) l[k]
        omega
    · split
      · exact or_ok h3 hx.set
      · exact h3
def catOuts (l : List Rx) : List Rx := l.filter fun r => decide (r.kind ≠ 2)
theorem catOuts_succ (l : List Rx) {k : Nat} (h : k < l.length) : catOuts (l.take (k + 1)) = catOuts (l.take k) ++ (if (l[k]).kind = 2 then [] else [l[k]]) := by
  unfold catOuts
  rw [List.take_add_one, List.getElem?_eq_getElem h, List.filter_append]
  congr 1
  by_cases hk : (l[k]).kind = 2
  · rw [if_pos hk]; simp [hk]
  · rw [if_neg hk]; simp [hk]
theorem catOuts_nodes (l : List Rx) : Rx.nodesL (catOuts l) ≤ Rx.nodesL l := by
  unfold catOuts
  induction l with
  | nil => simp
  | cons a t ih =>
    rw [List.filter_cons]
    split
    · simp only [Rx.nodesL]; omega
    · simp only [Rx.nodesL]; omega
theorem cat_none {l : List Rx} {k : Nat} (h : k < (flatR 4 l).length) (hk : ((flatR 4 l)[k]).kind = 1) : catR l = noneR := by
  unfold catR
  rw [if_pos]
  rw [List.any_eq_true]
  exact ⟨_, List.getElem_mem h, by simpa using hk⟩
theorem cat_some {l : List Rx} (h : ∀ j (hj : j < (flatR 4 l).length), ((flatR 4 l)[j]).kind ≠ 1) : catR l = catOf (catOuts (flatR 4 l)) := by
  unfold catR
  rw [if_neg]
  · rfl
  · intro e
    rw [List.any_eq_true] at e
    obtain ⟨x, hx, hk⟩ := e
    obtain ⟨j, hj, rfl⟩ := List.mem_iff_getElem.1 hx
    exact h j hj (by simpa using hk)
theorem catOf_nil {l : List Rx} (h : l.length = 0) : catOf l = emptyR := by rw [List.eq_nil_of_length_eq_zero h]; rfl
theorem catOf_one {l : List Rx} (h : l.length = 1) : catOf l = l[0]'(by omega) := by
  match l, h with
  | [x], _ => rfl
theorem altOf_nil {l : List Rx} (h : l.length = 0) : altOf l = noneR := by rw [List.eq_nil_of_length_eq_zero h]; rfl
theorem altOf_one {l : List Rx} (h : l.length = 1) : altOf l = l[0]'(by omega) := by
  match l, h with
  | [x], _ => rfl
end Go.Proofs.YtfdgbghlanbddaaDoor.Av
set_option linter.unusedVariables false
set_option linter.unusedSimpArgs false
set_option maxRecDepth 8000
namespace Go.Proofs.YtfdgbghlanbddaaDoor.Av
open Go.RowKit Go.Proofs
theorem take6 (r : Rx) : r.cells.take 6 = r.cells := rfl
theorem cleans_u8 (l : List Int) : (l.map fun n => [AV.int .u8 n]).all cleans = true := by
  rw [List.all_eq_true]
  intro x hx
  obtain ⟨r, _, rfl⟩ := List.mem_map.1 hx
  rfl
theorem add_at {s : W4} {b : Int} {q : Nat} (h : b / 64 = (q : Int)) : s.add b = s.setWd q (orI (s.wd q) (2 ^ (b % 64).toNat)) := by
  unfold W4.add
  rw [h, Int.toNat_natCast]
theorem listW_app (a b : W4) : ∀ x ∈ listW a ++ listW b, 0 ≤ x ∧ x < 256 := by
  intro x hx
  rcases List.mem_append.1 hx with hx | hx <;> (obtain ⟨i, rfl, h1, _⟩ := listW_mem.1 hx; omega)
theorem refList {w0 : World} {es : List Ent} (s : W4) (hs : s.ok) : ACalls Tryd.prog w0 120 [.agg s.row] es fun v es' => v = bytesAV (listW s) ∧ es' = es := by
  unfold W4.row bytesAV
  refine calls1 (N := 19) Tryd.func120 rfl rfl (by decide) ?_
  refine w_seq ?_
  refine w_region ?_
  refine l_cons rfl (p_box fun s1 => ?_)
  refine l_cons rfl (p_assign ?_)
  refine l_nil ?_
  refine k_seq_normal ?_
  refine w_seq ?_
  refine w_region ?_
  refine l_cons rfl (p_assign ?_)
  refine l_nil ?_
  refine k_seq_normal ?_
  refine w_seq ?_
  refine w_seq ?_
  refine w_adopt 3 5 1 rfl fun s3 => ?_
  simp only [upd_upd]
  refine w_region ?_
  refine l_cons rfl (p_assign ?_)
  refine l_nil ?_
  refine k_seq_normal ?_
  refine w_block ?_
  refine w_loop (fun m f es' => ∃ k s3, m = 256 - k ∧ k ≤ 256 ∧ es' = .row s3 5 1 ((listTo s k).map fun n => [.int .u8 n]) :: .row s1 26 4 [[.int .u64 s.w0, .int .u64 s.w1, .int .u64 s.w2, .int .u64 s.w3]] :: es ∧ Knows f [(1, .ptr es.length s1 0 0), (3, .own (es.length + 1) s3), (4, .int .i64 k)]) (256) (⟨0, s3, rfl, Nat.zero_le _, rfl, by simp only [Knows, put, upd_apply, Nat.reduceEqDiff, ↓reduceIte, and_true, true_and, eq_self] <;> and_intros <;> rfl⟩) ?_
  rintro m f es' ⟨k, s3, rfl, hk1, rfl, hk⟩
  refine w_pins _ (Sub.refl _) (hk) ?_
  simp only [pins]
  refine w_seq ?_
  refine w_seq ?_
  refine w_region ?_
  refine l_cons rfl (p_move ?_)
  refine l_cons rfl (p_cmp ?_)
  refine l_nil ?_
  refine k_seq_normal ?_
  refine w_b (fun h1 => ?_) (fun h1 => ?_)
  · skip
    have h1' := h1; (try simp only [decide_eq_true_eq, decide_eq_false_iff_not, Bool.not_eq_true', Bool.not_false, Bool.not_true, Bool.not_eq_false'] at h1')
    refine w_skip ?_
    refine k_seq_normal ?_
    refine w_seq ?_
    refine w_block ?_
    refine w_seq ?_
    refine w_region ?_
    refine l_cons rfl (p_loadp ty_26 ?_)
    refine l_cons rfl (p_move ?_)
    refine l_cons rfl (p_conv in_3 in_5 ?_ (hb := wrap8 (n := (k : Int)) (by omega) (by omega)))
    refine l_cons rfl (p_callr en_55 (ref1Has s.w0 s.w1 s.w2 s.w3 (k : Int) (by omega) (by omega) hs.1 hs.2.1 hs.2.2.1 hs.2.2.2.1) ?_)
    refine l_nil ?_
    refine k_seq_normal ?_
    refine w_b (fun h2 => ?_) (fun h2 => ?_)
    · skip
      have h2' := h2; (try simp only [decide_eq_true_eq, decide_eq_false_iff_not, Bool.not_eq_true', Bool.not_false, Bool.not_true, Bool.not_eq_false'] at h2')
      have hll := listTo_len s k
      refine w_region ?_
      refine l_cons rfl (p_move ?_)
      refine l_cons rfl (p_move ?_)
      refine l_cons rfl (p_conv in_3 in_5 ?_ (hb := wrap8 (n := (k : Int)) (by omega) (by omega)))
      refine l_cons rfl (p_buildList sl_22 ze_5 ?_)
      refine l_cons rfl (p_append sl_22 by_5 ze_5 (fun s17 => ?_) (hb := by simp only [List.length_map, List.length_take, List.length_drop, List.length_append, List.length_cons, List.length_nil, most]; omega))
      refine l_cons rfl (p_assign ?_)
      refine l_nil ?_
      refine k_blk_normal ?_
      refine k_seq_normal ?_
      refine w_region ?_
      refine l_cons rfl (p_move ?_)
      refine l_cons rfl (p_arith ?_)
      refine l_cons rfl (p_assign ?_)
      refine l_nil ?_
      refine k_seq_normal ?_
      first
      | exact ⟨256 - (k + 1), by omega, k + 1, s17, rfl, by omega, by rw [listTo_succ, if_pos (show s.has k = true from h2'), List.map_append] <;> rfl, by simp only [Knows, put, upd_apply, Nat.reduceEqDiff, ↓reduceIte, and_true, true_and, eq_self] <;> and_intros <;> rfl⟩
      | exact ⟨256 - (k + 1), by omega, k + 1, s3, rfl, by omega, by rw [listTo_succ, if_neg (show ¬ s.has k = true by unfold W4.has; rw [h2']; decide), List.append_nil] <;> rfl, by simp only [Knows, put, upd_apply, Nat.reduceEqDiff, ↓reduceIte, and_true, true_and, eq_self] <;> and_intros <;> rfl⟩
    · skip
      have h2' := h2; (try simp only [decide_eq_true_eq, decide_eq_false_iff_not, Bool.not_eq_true', Bool.not_false, Bool.not_true, Bool.not_eq_false'] at h2')
      refine w_skip ?_
      refine k_blk_normal ?_
      refine k_seq_normal ?_
      refine w_region ?_
      refine l_cons rfl (p_move ?_)
      refine l_cons rfl (p_arith ?_)
      refine l_cons rfl (p_assign ?_)
      refine l_nil ?_
      refine k_seq_normal ?_
      first
      | exact ⟨256 - (k + 1), by omega, k + 1, s17, rfl, by omega, by rw [listTo_succ, if_pos (show s.has k = true from h2'), List.map_append] <;> rfl, by simp only [Knows, put, upd_apply, Nat.reduceEqDiff, ↓reduceIte, and_true, true_and, eq_self] <;> and_intros <;> rfl⟩
      | exact ⟨256 - (k + 1), by omega, k + 1, s3, rfl, by omega, by rw [listTo_succ, if_neg (show ¬ s.has k = true by unfold W4.has; rw [h2']; decide), List.append_nil] <;> rfl, by simp only [Knows, put, upd_apply, Nat.reduceEqDiff, ↓reduceIte, and_true, true_and, eq_self] <;> and_intros <;> rfl⟩
  · skip
    have h1' := h1; (try simp only [decide_eq_true_eq, decide_eq_false_iff_not, Bool.not_eq_true', Bool.not_false, Bool.not_true, Bool.not_eq_false'] at h1')
    refine w_exit ?_
    refine k_seq_exit ?_
    refine k_seq_exit ?_
    refine k_blk_here ?_
    refine k_seq_normal ?_
    refine w_seq ?_
    refine w_freezeTop 3 ?_ (hclean := cleans_u8 _)
    rw [show k = 256 by omega]
    refine w_region ?_
    refine l_cons rfl (p_move ?_)
    refine l_cons rfl (p_assign ?_)
    refine l_nil ?_
    refine k_seq_normal ?_
    refine w_ret ?_
    exact ret1 rfl (by simp only [ev_tmp, ev_const, ev_func, ofConst_int, ofConst_bool, ofConst_str, ofConst_nil, upd_apply, Nat.reduceEqDiff, ↓reduceIte] <;> exact rfl) (by first | exact Sub.refl _ | exact sub1 _ _ | exact sub2 _ _ _ | exact sub3 _ _ _ _ | exact sub4 _ _ _ _ _ | exact sub5 _ _ _ _ _ _) ⟨rfl, rfl⟩
theorem refOf {w0 : World} {es : List Ent} (l : List Int) (hl : ∀ b ∈ l, 0 ≤ b ∧ b < 256) : ACalls Tryd.prog w0 68 [bytesAV l] es fun v es' => v = .agg (ofW l).row ∧ es' = es := by
  unfold bytesAV
  refine calls1 (N := 27) Tryd.func68 rfl rfl (by decide) ?_
  refine w_seq ?_
  refine w_region ?_
  refine l_cons rfl (p_alloc ze_26 fun s2 => ?_)
  refine l_nil ?_
  refine k_seq_normal ?_
  refine w_seq ?_
  refine w_len 0 fun hll => ?_
  rw [List.length_map] at hll
  simp only [most] at hll
  refine w_region ?_
  refine l_cons rfl (p_alloc ze_26 fun s3 => ?_)
  refine l_nil ?_
  refine k_seq_normal ?_
  refine w_seq ?_
  refine w_seq ?_
  refine w_region ?_
  refine l_cons rfl (p_assign ?_)
  refine l_nil ?_
  refine k_seq_normal ?_
  refine w_block ?_
  refine w_loop (fun m f es' => ∃ k, m = l.length - k ∧ k ≤ l.length ∧ es' = .row s3 26 4 [[.int .u64 (ofW (l.take k)).w0, .int .u64 (ofW (l.take k)).w1, .int .u64 (ofW (l.take k)).w2, .int .u64 (ofW (l.take k)).w3]] :: .row s2 26 4 [[.int .u64 0, .int .u64 0, .int .u64 0, .int .u64 0]] :: es ∧ Knows f [(0, .list 1 (l.map fun n => [.int .u8 n])), (2, .ptr es.length s2 0 0), (3, .ptr (es.length + 1) s3 0 0), (4, .int .i64 k)]) (l.length) (⟨0, rfl, Nat.zero_le _, rfl, by simp only [Knows, put, upd_apply, Nat.reduceEqDiff, ↓reduceIte, and_true, true_and, eq_self] <;> and_intros <;> rfl⟩) ?_
  rintro m f es' ⟨k, rfl, hk1, rfl, hk⟩
  refine w_pins _ (Sub.refl _) (hk) ?_
  simp only [pins]
  refine w_seq ?_
  refine w_seq ?_
  refine w_region ?_
  refine l_cons rfl (p_move ?_)
  refine l_cons rfl (p_move ?_)
  refine l_cons rfl (p_lenl sl_22 ?_)
  refine l_cons rfl (p_cmp ?_)
  refine l_nil ?_
  refine k_seq_normal ?_
  refine w_b (fun h1 => ?_) (fun h1 => ?_)
  · skip
    have h1' := h1; (try simp only [decide_eq_true_eq, decide_eq_false_iff_not, Bool.not_eq_true', Bool.not_false, Bool.not_true, Bool.not_eq_false'] at h1')
    refine w_skip ?_
    refine k_seq_normal ?_
    refine w_seq ?_
    refine w_block ?_
    have hb := hl (l[k]'(by omega)) (List.getElem_mem _)
    obtain ⟨q, hq4, hq⟩ : ∃ q : Nat, q < 4 ∧ (l[k]'(by omega)) / 64 = (q : Int) := ⟨((l[k]'(by omega)) / 64).toNat, by omega, by omega⟩
    have hsk : (ofW (l.take k)).ok := ofW_ok fun b hb => hl b (List.mem_of_mem_take hb)
    refine w_drawn 13 [] (fun e => e = _) mixed (by kernel_rfl) rfl ?_
    refine q1 0 (hg := rfl) (hu := rfl) (h := by rintro f _ rfl; exact p_move ⟨rfl, rfl⟩) (k := ?_)
    refine q1 4 (hg := rfl) (hu := rfl) (h := by rintro f _ rfl; exact p_move ⟨rfl, rfl⟩) (k := ?_)
    refine q2 11 12 (hg := rfl) (hu := rfl) (h := by rintro f _ rfl; exact p_ixl sl_22 ⟨rfl, rfl⟩) (k := ?_)
    refine q1 13 (hg := rfl) (hu := rfl) (h := by rintro f _ rfl; exact p_loadf ty_5 ⟨rfl, rfl⟩) (k := ?_)
    refine q1 14 (hg := rfl) (hu := rfl) (h := by rintro f _ rfl; exact p_arith ⟨rfl, rfl⟩ (hb := (quo64 hb.1 hb.2).trans (congrArg some hq))) (k := ?_)
    refine q2 3 15 (hg := rfl) (hu := rfl) (h := by rintro f _ rfl; exact p_ixa ar_26 (a := .ptr (es.length + 1) s3 0 q) ⟨rfl, rfl⟩ (h0 := by omega) (h1 := by omega) (ho := by simp)) (k := ?_)
    refine q1 16 (hg := rfl) (hu := rfl) (h := by rintro f _ rfl; exact p_loadp ty_24 (a := .int .u64 ((ofW (l.take k)).wd q)) ⟨rfl, rfl⟩ (hl := by simp only [List.length_cons, List.length_nil]; omega) (ha := wd_load (ofW (l.take k)) hq4)) (k := ?_)
    refine q1 0 (hg := rfl) (hu := rfl) (h := by rintro f _ rfl; exact p_move ⟨rfl, rfl⟩) (k := ?_)
    refine q1 4 (hg := rfl) (hu := rfl) (h := by rintro f _ rfl; exact p_move ⟨rfl, rfl⟩) (k := ?_)
    refine q2 18 19 (hg := rfl) (hu := rfl) (h := by rintro f _ rfl; exact p_ixl sl_22 ⟨rfl, rfl⟩) (k := ?_)
    refine q1 20 (hg := rfl) (hu := rfl) (h := by rintro f _ rfl; exact p_loadf ty_5 ⟨rfl, rfl⟩) (k := ?_)
    refine q1 21 (hg := rfl) (hu := rfl) (h := by rintro f _ rfl; exact p_arith ⟨rfl, rfl⟩ (hb := rem64 hb.1)) (k := ?_)
    refine q1 22 (hg := rfl) (hu := rfl) (h := by rintro f _ rfl; exact p_shl ⟨rfl, rfl⟩ (hb := shl1 hb.1)) (k := ?_)
    refine q_end ?_
    refine m_end ?_
    refine l_cons rfl (p_arith ?_ (hb := arith_or64 (W4.wd_ok hsk q) (two_lt (by omega))))
    refine l_cons rfl (p_ixa ar_26 (a := .ptr (es.length + 1) s3 0 q) ?_ (h0 := by omega) (h1 := by omega) (ho := by simp))
    refine l_cons rfl (p_store ty_24 (r' := [.int .u64 ((ofW (l.take k)).setWd q (orI ((ofW (l.take k)).wd q) (2 ^ ((l[k]'(by omega)) % 64).toNat))).w0, .int .u64 ((ofW (l.take k)).setWd q (orI ((ofW (l.take k)).wd q) (2 ^ ((l[k]'(by omega)) % 64).toNat))).w1, .int .u64 ((ofW (l.take k)).setWd q (orI ((ofW (l.take k)).wd q) (2 ^ ((l[k]'(by omega)) % 64).toNat))).w2, .int .u64 ((ofW (l.take k)).setWd q (orI ((ofW (l.take k)).wd q) (2 ^ ((l[k]'(by omega)) % 64).toNat))).w3]) ?_ (hl := by simp only [List.length_cons, List.length_nil]; omega) (hr' := store_wd (ofW (l.take k)) hq4 _))
    refine l_nil ?_
    refine k_blk_normal ?_
    refine k_seq_normal ?_
    refine w_region ?_
    refine l_cons rfl (p_move ?_)
    refine l_cons rfl (p_arith ?_)
    refine l_cons rfl (p_assign ?_)
    refine l_nil ?_
    refine k_seq_normal ?_
    exact ⟨l.length - (k + 1), by omega, k + 1, rfl, by omega, by rw [ofW_take (by omega), add_at hq] <;> rfl, by simp only [Knows, put, upd_apply, Nat.reduceEqDiff, ↓reduceIte, and_true, true_and, eq_self] <;> and_intros <;> rfl⟩
  · skip
    have h1' := h1; (try simp only [decide_eq_true_eq, decide_eq_false_iff_not, Bool.not_eq_true', Bool.not_false, Bool.not_true, Bool.not_eq_false'] at h1')
    refine w_exit ?_
    refine k_seq_exit ?_
    refine k_seq_exit ?_
    refine k_blk_here ?_
    refine k_seq_normal ?_
    refine w_seq ?_
    obtain rfl : k = l.length := by omega
    rw [List.take_length]
    refine w_region ?_
    refine l_cons rfl (p_loadp ty_26 ?_)
    refine l_cons rfl (p_store ty_26 ?_)
    refine l_nil ?_
    refine k_seq_normal ?_
    refine w_ret ?_
    exact retc rfl ty_26 (by first | exact Sub.refl _ | exact sub1 _ _ | exact sub2 _ _ _ | exact sub3 _ _ _ _ | exact sub4 _ _ _ _ _ | exact sub5 _ _ _ _ _ _) ⟨rfl, rfl⟩
theorem refInsert {w0 : World} {es : List Ent} (l : List Rx) (r : Rx) (hl : ∀ x ∈ l, x.ok) (hr : r.ok) (hn : l.length ≤ 1048576) : ACalls Tryd.prog w0 87 [.list 6 (l.map Rx.cells), .agg r.cells] es fun v es' => v = .list 6 ((insR l r).map Rx.cells) ∧ es' = es := by
  have hcr : Rx.cells r = [.int .i64 r.kind, .int .u64 r.set.w0, .int .u64 r.set.w1, .int .u64 r.set.w2, .int .u64 r.set.w3, .list 6 (r.args.map Rx.cells)] := Rx.cells_eq r
  refine calls2 (N := 46) Tryd.func87 rfl rfl (by decide) ?_
  refine w_seq ?_
  refine w_region ?_
  refine l_cons rfl (p_box fun s3 => ?_)
  refine l_cons rfl (p_assign ?_)
  refine l_nil ?_
  refine k_seq_normal ?_
  refine w_seq ?_
  refine w_region ?_
  refine l_cons rfl (p_assign ?_)
  refine l_nil ?_
  refine k_seq_normal ?_
  refine w_seq ?_
  refine w_block ?_
  refine w_loop (fun m f es' => ∃ k, m = l.length - k ∧ k ≤ l.length ∧ (∀ j (hj : j < k) (h : j < l.length), l[j].cmp r = -1) ∧ es' = .row s3 29 6 [r.cells] :: es ∧ Knows f [(0, .list 6 (l.map Rx.cells)), (3, .ptr es.length s3 0 0), (5, .int .i64 k)]) (l.length) (⟨0, rfl, Nat.zero_le _, fun j hj => absurd hj (Nat.not_lt_zero _), rfl, by simp only [Knows, put, upd_apply, Nat.reduceEqDiff, ↓reduceIte, and_true, true_and, eq_self] <;> and_intros <;> rfl⟩) ?_
  rintro m f es' ⟨k, rfl, hk1, hk2, rfl, hk⟩
  refine w_pins _ (Sub.refl _) (hk) ?_
  simp only [pins]
  refine w_seq ?_
  refine w_seq ?_
  refine w_drawn 10 [] (fun e => e = _) mixed (by kernel_rfl) rfl ?_
  refine q1 5 (hg := rfl) (hu := rfl) (h := by rintro f _ rfl; exact p_move ⟨rfl, rfl⟩) (k := ?_)
  refine q1 0 (hg := rfl) (hu := rfl) (h := by rintro f _ rfl; exact p_move ⟨rfl, rfl⟩) (k := ?_)
  refine q1 7 (hg := rfl) (hu := rfl) (h := by rintro f _ rfl; exact p_lenl sl_27 ⟨rfl, rfl⟩) (k := ?_)
  refine q2 6 8 (hg := rfl) (hu := rfl) (h := by rintro f _ rfl; exact p_cmp ⟨rfl, rfl⟩) (k := ?_)
  refine q1 9 (hg := rfl) (hu := rfl) (h := by rintro f _ rfl; exact p_move ⟨rfl, rfl⟩) (k := ?_)
  refine qsplit 10 (fun h1 => ?_) (fun h1 => ?_)
  · skip
    have h1' := h1; (try simp only [decide_eq_true_eq, decide_eq_false_iff_not, Bool.not_eq_true', Bool.not_false, Bool.not_true, Bool.not_eq_false'] at h1')
    refine qy1 0 (hg := rfl) (hw := h1) (hu := rfl) (h := by rintro f _ rfl; exact p_move ⟨rfl, rfl⟩) (k := ?_)
    refine qy1 5 (hg := rfl) (hw := h1) (hu := rfl) (h := by rintro f _ rfl; exact p_move ⟨rfl, rfl⟩) (k := ?_)
    refine qy2 11 12 (hg := rfl) (hw := h1) (hu := rfl) (h := by rintro f _ rfl; exact p_ixl sl_27 ⟨rfl, rfl⟩) (k := ?_)
    refine qy1 13 (hg := rfl) (hw := h1) (hu := rfl) (h := by rintro f _ rfl; exact p_loadf ty_29 ⟨rfl, rfl⟩) (k := ?_)
    refine qy1 3 (hg := rfl) (hw := h1) (hu := rfl) (h := by rintro f _ rfl; exact p_loadp ty_29 ⟨rfl, rfl⟩) (k := ?_)
    refine q_end ?_
    refine m_end ?_
    refine g_y rfl h1 (p_callr en_121 (refCompare _ (l[k]'(by omega)) r _ (Nat.le_refl _) (hl _ (List.getElem_mem _)) hr) ?_)
    refine g_y rfl h1 (p_cmp ?_)
    refine l_cons rfl (p_pickt h1 ?_)
    refine l_nil ?_
    refine k_seq_normal ?_
    refine w_b (fun h2 => ?_) (fun h2 => ?_)
    · skip
      have h2' := h2; (try simp only [decide_eq_true_eq, decide_eq_false_iff_not, Bool.not_eq_true', Bool.not_false, Bool.not_true, Bool.not_eq_false'] at h2')
      refine w_skip ?_
      refine k_seq_normal ?_
      refine w_block ?_
      refine w_region ?_
      refine l_cons rfl (p_move ?_)
      refine l_cons rfl (p_arith ?_)
      refine l_cons rfl (p_assign ?_)
      refine l_nil ?_
      refine k_blk_normal ?_
      refine k_seq_normal ?_
      exact ⟨l.length - (k + 1), by omega, k + 1, rfl, by omega, fun j hj h => by
        rcases Nat.lt_or_eq_of_le (Nat.le_of_lt_succ hj) with h9 | h9
        · exact hk2 j h9 h
        · subst h9; have := Rx.cmp_range (l[j]'(by omega)) r; omega, rfl, by simp only [Knows, put, upd_apply, Nat.reduceEqDiff, ↓reduceIte, and_true, true_and, eq_self] <;> and_intros <;> rfl⟩
    · skip
      have h2' := h2; (try simp only [decide_eq_true_eq, decide_eq_false_iff_not, Bool.not_eq_true', Bool.not_false, Bool.not_true, Bool.not_eq_false'] at h2')
      refine w_exit ?_
      refine k_seq_exit ?_
      refine k_seq_exit ?_
      refine k_blk_here ?_
      have hins := insR_at (l := l) (r := r) hk1 hk2 (by intro hx; first | omega | (have := Rx.cmp_range (l[k]'(by omega)) r; omega))
      refine k_seq_normal ?_
      refine w_seq ?_
      refine w_seq ?_
      refine w_drawn 10 [] (fun e => e = _) mixed (by kernel_rfl) rfl ?_
      refine q1 5 (hg := rfl) (hu := rfl) (h := by rintro f _ rfl; exact p_move ⟨rfl, rfl⟩) (k := ?_)
      refine q1 0 (hg := rfl) (hu := rfl) (h := by rintro f _ rfl; exact p_move ⟨rfl, rfl⟩) (k := ?_)
      refine q1 22 (hg := rfl) (hu := rfl) (h := by rintro f _ rfl; exact p_lenl sl_27 ⟨rfl, rfl⟩) (k := ?_)
      refine q2 21 23 (hg := rfl) (hu := rfl) (h := by rintro f _ rfl; exact p_cmp ⟨rfl, rfl⟩) (k := ?_)
      refine q1 24 (hg := rfl) (hu := rfl) (h := by rintro f _ rfl; exact p_move ⟨rfl, rfl⟩) (k := ?_)
      refine qsplit 25 (fun h3 => ?_) (fun h3 => ?_)
      · skip
        have h3' := h3; (try simp only [decide_eq_true_eq, decide_eq_false_iff_not, Bool.not_eq_true', Bool.not_false, Bool.not_true, Bool.not_eq_false'] at h3')
        refine qy1 0 (hg := rfl) (hw := h3) (hu := rfl) (h := by rintro f _ rfl; exact p_move ⟨rfl, rfl⟩) (k := ?_)
        refine qy1 5 (hg := rfl) (hw := h3) (hu := rfl) (h := by rintro f _ rfl; exact p_move ⟨rfl, rfl⟩) (k := ?_)
        refine qy2 26 27 (hg := rfl) (hw := h3) (hu := rfl) (h := by rintro f _ rfl; exact p_ixl sl_27 ⟨rfl, rfl⟩) (k := ?_)
        refine qy1 28 (hg := rfl) (hw := h3) (hu := rfl) (h := by rintro f _ rfl; exact p_loadf ty_29 ⟨rfl, rfl⟩) (k := ?_)
        refine qy1 3 (hg := rfl) (hw := h3) (hu := rfl) (h := by rintro f _ rfl; exact p_loadp ty_29 ⟨rfl, rfl⟩) (k := ?_)
        refine q_end ?_
        refine m_end ?_
        refine g_y rfl h3 (p_callr en_122 (refEqual (l[k]'(by omega)) r (hl _ (List.getElem_mem _)) hr) ?_)
        refine l_cons rfl (p_pickt h3 ?_)
        refine l_nil ?_
        refine k_seq_normal ?_
        refine w_b (fun h4 => ?_) (fun h4 => ?_)
        · skip
          have h4' := h4; (try simp only [decide_eq_true_eq, decide_eq_false_iff_not, Bool.not_eq_true', Bool.not_false, Bool.not_true, Bool.not_eq_false'] at h4')
          refine w_seq ?_
          refine w_region ?_
          refine l_cons rfl (p_move ?_)
          refine l_cons rfl (p_assign ?_)
          refine l_nil ?_
          refine k_seq_normal ?_
          refine w_ret ?_
          refine k_seq_ret ?_
          exact ret1 rfl (by simp only [ev_tmp, ev_const, ev_func, ofConst_int, ofConst_bool, ofConst_str, ofConst_nil, upd_apply, Nat.reduceEqDiff, ↓reduceIte] <;> exact rfl) (by first | exact Sub.refl _ | exact sub1 _ _ | exact sub2 _ _ _ | exact sub3 _ _ _ _ | exact sub4 _ _ _ _ _ | exact sub5 _ _ _ _ _ _) ⟨by rw [hins, if_pos ⟨by omega, by assumption⟩] <;> rfl, rfl⟩
        · skip
          have h4' := h4; (try simp only [decide_eq_true_eq, decide_eq_false_iff_not, Bool.not_eq_true', Bool.not_false, Bool.not_true, Bool.not_eq_false'] at h4')
          refine w_skip ?_
          refine k_seq_normal ?_
          refine w_seq ?_
          refine w_drawn 12 [0, 4, 7, 11] (fun e => at_ e es.length = some (.row s3 29 6 [r.cells])) mixed (by kernel_rfl) (at_hit _ _) ?_
          refine q1 0 (hg := rfl) (hu := rfl) (h := by rintro f _ hG; exact p_move ⟨rfl, rfl⟩) (k := ?_)
          refine q1 5 (hg := rfl) (hu := rfl) (h := by rintro f _ hG; exact p_move ⟨rfl, rfl⟩) (k := ?_)
          refine q2 35 36 (hg := rfl) (hu := rfl) (h := by rintro f _ hG; exact p_slicel (l := 0) (h := k) sl_27 ⟨rfl, rfl⟩) (k := ?_)
          refine q1 3 (hg := rfl) (hu := rfl) (h := by rintro f _ hG; exact p_loadp ty_29 ⟨rfl, rfl⟩) (k := ?_)
          refine q1 39 (hg := rfl) (hu := rfl) (h := by rintro f _ hG; exact p_buildList sl_27 ze_29 ⟨rfl, rfl⟩) (k := ?_)
          refine q1 0 (hg := rfl) (hu := rfl) (h := by rintro f _ hG; exact p_move ⟨rfl, rfl⟩) (k := ?_)
          refine q1 5 (hg := rfl) (hu := rfl) (h := by rintro f _ hG; exact p_move ⟨rfl, rfl⟩) (k := ?_)
          refine q2 42 43 (hg := rfl) (hu := rfl) (h := by rintro f _ hG; exact p_slicel (l := k) (h := (l.map Rx.cells).length) sl_27 ⟨rfl, rfl⟩ (hlh := by simp only [List.length_map]; omega)) (k := ?_)
          refine q_end ?_
          refine m0  (hu := rfl) (h := fun f => p_buildSlice sl_27 ze_29 fun s34 => ?_)
          refine ⟨_, rfl, at_miss _ (at_hit _ _), ?_⟩
          refine m2 34 37 (hu := rfl) (h := fun f => p_append sl_27 by_29 ze_29 (fun s38 => ?_) (hb := by simp only [List.length_map, List.length_take, List.length_drop, List.length_append, List.length_cons, List.length_nil, most]; omega))
          refine ⟨_, rfl, at_miss _ (at_hit _ _), ?_⟩
          refine m2 38 40 (hu := rfl) (h := fun f => p_append sl_27 by_29 ze_29 (fun s41 => ?_) (hb := by simp only [List.length_map, List.length_take, List.length_drop, List.length_append, List.length_cons, List.length_nil, most]; omega))
          refine ⟨_, rfl, at_miss _ (at_hit _ _), ?_⟩
          refine m2 41 44 (hu := rfl) (h := fun f => p_append sl_27 by_29 ze_29 (fun s45 => ?_) (hb := by simp only [List.length_map, List.length_take, List.length_drop, List.length_append, List.length_cons, List.length_nil, most]; omega))
          refine ⟨_, rfl, at_miss _ (at_hit _ _), ?_⟩
          refine m_end ?_
          refine l_cons rfl (p_assign ?_)
          refine l_nil ?_
          refine k_seq_normal ?_
          refine w_freezeTop 4 ?_ (hclean := by simp only [take6, List.take_length, List.nil_append, ← List.map_take, ← List.map_drop, ← List.map_append, ← List.map_cons, List.all_append, cleans_rx, cleans_cells, List.all_cons, List.all_nil, Bool.and_self, Bool.and_true])
          refine w_ret ?_
          exact ret1 rfl (by simp only [ev_tmp, ev_const, ev_func, ofConst_int, ofConst_bool, ofConst_str, ofConst_nil, upd_apply, Nat.reduceEqDiff, ↓reduceIte] <;> exact rfl) (by first | exact Sub.refl _ | exact sub1 _ _ | exact sub2 _ _ _ | exact sub3 _ _ _ _ | exact sub4 _ _ _ _ _ | exact sub5 _ _ _ _ _ _) ⟨by rw [hins, if_neg (by rintro ⟨hx, hy⟩; first | omega | exact absurd hy (by simp_all))]; simp [take6, List.take_of_length_le], rfl⟩
      · skip
        have h3' := h3; (try simp only [decide_eq_true_eq, decide_eq_false_iff_not, Bool.not_eq_true', Bool.not_false, Bool.not_true, Bool.not_eq_false'] at h3')
        refine qn rfl h3 ?_
        refine qn rfl h3 ?_
        refine qn rfl h3 ?_
        refine qn rfl h3 ?_
        refine qn rfl h3 ?_
        refine q_end ?_
        refine m_end ?_
        refine g_n rfl h3 ?_
        refine l_cons rfl (p_pickf h3 ?_)
        refine l_nil ?_
        refine k_seq_normal ?_
        refine w_f rfl ?_
        refine w_skip ?_
        refine k_seq_normal ?_
        refine w_seq ?_
        refine w_drawn 12 [0, 4, 7, 11] (fun e => at_ e es.length = some (.row s3 29 6 [r.cells])) mixed (by kernel_rfl) (at_hit _ _) ?_
        refine q1 0 (hg := rfl) (hu := rfl) (h := by rintro f _ hG; exact p_move ⟨rfl, rfl⟩) (k := ?_)
        refine q1 5 (hg := rfl) (hu := rfl) (h := by rintro f _ hG; exact p_move ⟨rfl, rfl⟩) (k := ?_)
        refine q2 35 36 (hg := rfl) (hu := rfl) (h := by rintro f _ hG; exact p_slicel (l := 0) (h := k) sl_27 ⟨rfl, rfl⟩) (k := ?_)
        refine q1 3 (hg := rfl) (hu := rfl) (h := by rintro f _ hG; exact p_loadp ty_29 ⟨rfl, rfl⟩) (k := ?_)
        refine q1 39 (hg := rfl) (hu := rfl) (h := by rintro f _ hG; exact p_buildList sl_27 ze_29 ⟨rfl, rfl⟩) (k := ?_)
        refine q1 0 (hg := rfl) (hu := rfl) (h := by rintro f _ hG; exact p_move ⟨rfl, rfl⟩) (k := ?_)
        refine q1 5 (hg := rfl) (hu := rfl) (h := by rintro f _ hG; exact p_move ⟨rfl, rfl⟩) (k := ?_)
        refine q2 42 43 (hg := rfl) (hu := rfl) (h := by rintro f _ hG; exact p_slicel (l := k) (h := (l.map Rx.cells).length) sl_27 ⟨rfl, rfl⟩ (hlh := by simp only [List.length_map]; omega)) (k := ?_)
        refine q_end ?_
        refine m0  (hu := rfl) (h := fun f => p_buildSlice sl_27 ze_29 fun s34 => ?_)
        refine ⟨_, rfl, at_miss _ (at_hit _ _), ?_⟩
        refine m2 34 37 (hu := rfl) (h := fun f => p_append sl_27 by_29 ze_29 (fun s38 => ?_) (hb := by simp only [List.length_map, List.length_take, List.length_drop, List.length_append, List.length_cons, List.length_nil, most]; omega))
        refine ⟨_, rfl, at_miss _ (at_hit _ _), ?_⟩
        refine m2 38 40 (hu := rfl) (h := fun f => p_append sl_27 by_29 ze_29 (fun s41 => ?_) (hb := by simp only [List.length_map, List.length_take, List.length_drop, List.length_append, List.length_cons, List.length_nil, most]; omega))
        refine ⟨_, rfl, at_miss _ (at_hit _ _), ?_⟩
        refine m2 41 44 (hu := rfl) (h := fun f => p_append sl_27 by_29 ze_29 (fun s45 => ?_) (hb := by simp only [List.length_map, List.length_take, List.length_drop, List.length_append, List.length_cons, List.length_nil, most]; omega))
        refine ⟨_, rfl, at_miss _ (at_hit _ _), ?_⟩
        refine m_end ?_
        refine l_cons rfl (p_assign ?_)
        refine l_nil ?_
        refine k_seq_normal ?_
        refine w_freezeTop 4 ?_ (hclean := by simp only [take6, List.take_length, List.nil_append, ← List.map_take, ← List.map_drop, ← List.map_append, ← List.map_cons, List.all_append, cleans_rx, cleans_cells, List.all_cons, List.all_nil, Bool.and_self, Bool.and_true])
        refine w_ret ?_
        exact ret1 rfl (by simp only [ev_tmp, ev_const, ev_func, ofConst_int, ofConst_bool, ofConst_str, ofConst_nil, upd_apply, Nat.reduceEqDiff, ↓reduceIte] <;> exact rfl) (by first | exact Sub.refl _ | exact sub1 _ _ | exact sub2 _ _ _ | exact sub3 _ _ _ _ | exact sub4 _ _ _ _ _ | exact sub5 _ _ _ _ _ _) ⟨by rw [hins, if_neg (by rintro ⟨hx, hy⟩; first | omega | exact absurd hy (by simp_all))]; simp [take6, List.take_of_length_le], rfl⟩
  · skip
    have h1' := h1; (try simp only [decide_eq_true_eq, decide_eq_false_iff_not, Bool.not_eq_true', Bool.not_false, Bool.not_true, Bool.not_eq_false'] at h1')
    refine qn rfl h1 ?_
    refine qn rfl h1 ?_
    refine qn rfl h1 ?_
    refine qn rfl h1 ?_
    refine qn rfl h1 ?_
    refine q_end ?_
    refine m_end ?_
    refine g_n rfl h1 ?_
    refine g_n rfl h1 ?_
    refine l_cons rfl (p_pickf h1 ?_)
    refine l_nil ?_
    refine k_seq_normal ?_
    refine w_f rfl ?_
    refine w_exit ?_
    refine k_seq_exit ?_
    refine k_seq_exit ?_
    refine k_blk_here ?_
    have hins := insR_at (l := l) (r := r) hk1 hk2 (by intro hx; first | omega | (have := Rx.cmp_range (l[k]'(by omega)) r; omega))
    refine k_seq_normal ?_
    refine w_seq ?_
    refine w_seq ?_
    refine w_drawn 10 [] (fun e => e = _) mixed (by kernel_rfl) rfl ?_
    refine q1 5 (hg := rfl) (hu := rfl) (h := by rintro f _ rfl; exact p_move ⟨rfl, rfl⟩) (k := ?_)
    refine q1 0 (hg := rfl) (hu := rfl) (h := by rintro f _ rfl; exact p_move ⟨rfl, rfl⟩) (k := ?_)
    refine q1 22 (hg := rfl) (hu := rfl) (h := by rintro f _ rfl; exact p_lenl sl_27 ⟨rfl, rfl⟩) (k := ?_)
    refine q2 21 23 (hg := rfl) (hu := rfl) (h := by rintro f _ rfl; exact p_cmp ⟨rfl, rfl⟩) (k := ?_)
    refine q1 24 (hg := rfl) (hu := rfl) (h := by rintro f _ rfl; exact p_move ⟨rfl, rfl⟩) (k := ?_)
    refine qsplit 25 (fun h5 => ?_) (fun h5 => ?_)
    · skip
      have h5' := h5; (try simp only [decide_eq_true_eq, decide_eq_false_iff_not, Bool.not_eq_true', Bool.not_false, Bool.not_true, Bool.not_eq_false'] at h5')
      refine qy1 0 (hg := rfl) (hw := h5) (hu := rfl) (h := by rintro f _ rfl; exact p_move ⟨rfl, rfl⟩) (k := ?_)
      refine qy1 5 (hg := rfl) (hw := h5) (hu := rfl) (h := by rintro f _ rfl; exact p_move ⟨rfl, rfl⟩) (k := ?_)
      refine qy2 26 27 (hg := rfl) (hw := h5) (hu := rfl) (h := by rintro f _ rfl; exact p_ixl sl_27 ⟨rfl, rfl⟩) (k := ?_)
      refine qy1 28 (hg := rfl) (hw := h5) (hu := rfl) (h := by rintro f _ rfl; exact p_loadf ty_29 ⟨rfl, rfl⟩) (k := ?_)
      refine qy1 3 (hg := rfl) (hw := h5) (hu := rfl) (h := by rintro f _ rfl; exact p_loadp ty_29 ⟨rfl, rfl⟩) (k := ?_)
      refine q_end ?_
      refine m_end ?_
      refine g_y rfl h5 (p_callr en_122 (refEqual (l[k]'(by omega)) r (hl _ (List.getElem_mem _)) hr) ?_)
      refine l_cons rfl (p_pickt h5 ?_)
      refine l_nil ?_
      refine k_seq_normal ?_
      refine w_b (fun h6 => ?_) (fun h6 => ?_)
      · skip
        have h6' := h6; (try simp only [decide_eq_true_eq, decide_eq_false_iff_not, Bool.not_eq_true', Bool.not_false, Bool.not_true, Bool.not_eq_false'] at h6')
        refine w_seq ?_
        refine w_region ?_
        refine l_cons rfl (p_move ?_)
        refine l_cons rfl (p_assign ?_)
        refine l_nil ?_
        refine k_seq_normal ?_
        refine w_ret ?_
        refine k_seq_ret ?_
        exact ret1 rfl (by simp only [ev_tmp, ev_const, ev_func, ofConst_int, ofConst_bool, ofConst_str, ofConst_nil, upd_apply, Nat.reduceEqDiff, ↓reduceIte] <;> exact rfl) (by first | exact Sub.refl _ | exact sub1 _ _ | exact sub2 _ _ _ | exact sub3 _ _ _ _ | exact sub4 _ _ _ _ _ | exact sub5 _ _ _ _ _ _) ⟨by rw [hins, if_pos ⟨by omega, by assumption⟩] <;> rfl, rfl⟩
      · skip
        have h6' := h6; (try simp only [decide_eq_true_eq, decide_eq_false_iff_not, Bool.not_eq_true', Bool.not_false, Bool.not_true, Bool.not_eq_false'] at h6')
        refine w_skip ?_
        refine k_seq_normal ?_
        refine w_seq ?_
        refine w_drawn 12 [0, 4, 7, 11] (fun e => at_ e es.length = some (.row s3 29 6 [r.cells])) mixed (by kernel_rfl) (at_hit _ _) ?_
        refine q1 0 (hg := rfl) (hu := rfl) (h := by rintro f _ hG; exact p_move ⟨rfl, rfl⟩) (k := ?_)
        refine q1 5 (hg := rfl) (hu := rfl) (h := by rintro f _ hG; exact p_move ⟨rfl, rfl⟩) (k := ?_)
        refine q2 35 36 (hg := rfl) (hu := rfl) (h := by rintro f _ hG; exact p_slicel (l := 0) (h := k) sl_27 ⟨rfl, rfl⟩) (k := ?_)
        refine q1 3 (hg := rfl) (hu := rfl) (h := by rintro f _ hG; exact p_loadp ty_29 ⟨rfl, rfl⟩) (k := ?_)
        refine q1 39 (hg := rfl) (hu := rfl) (h := by rintro f _ hG; exact p_buildList sl_27 ze_29 ⟨rfl, rfl⟩) (k := ?_)
        refine q1 0 (hg := rfl) (hu := rfl) (h := by rintro f _ hG; exact p_move ⟨rfl, rfl⟩) (k := ?_)
        refine q1 5 (hg := rfl) (hu := rfl) (h := by rintro f _ hG; exact p_move ⟨rfl, rfl⟩) (k := ?_)
        refine q2 42 43 (hg := rfl) (hu := rfl) (h := by rintro f _ hG; exact p_slicel (l := k) (h := (l.map Rx.cells).length) sl_27 ⟨rfl, rfl⟩ (hlh := by simp only [List.length_map]; omega)) (k := ?_)
        refine q_end ?_
        refine m0  (hu := rfl) (h := fun f => p_buildSlice sl_27 ze_29 fun s34 => ?_)
        refine ⟨_, rfl, at_miss _ (at_hit _ _), ?_⟩
        refine m2 34 37 (hu := rfl) (h := fun f => p_append sl_27 by_29 ze_29 (fun s38 => ?_) (hb := by simp only [List.length_map, List.length_take, List.length_drop, List.length_append, List.length_cons, List.length_nil, most]; omega))
        refine ⟨_, rfl, at_miss _ (at_hit _ _), ?_⟩
        refine m2 38 40 (hu := rfl) (h := fun f => p_append sl_27 by_29 ze_29 (fun s41 => ?_) (hb := by simp only [List.length_map, List.length_take, List.length_drop, List.length_append, List.length_cons, List.length_nil, most]; omega))
        refine ⟨_, rfl, at_miss _ (at_hit _ _), ?_⟩
        refine m2 41 44 (hu := rfl) (h := fun f => p_append sl_27 by_29 ze_29 (fun s45 => ?_) (hb := by simp only [List.length_map, List.length_take, List.length_drop, List.length_append, List.length_cons, List.length_nil, most]; omega))
        refine ⟨_, rfl, at_miss _ (at_hit _ _), ?_⟩
        refine m_end ?_
        refine l_cons rfl (p_assign ?_)
        refine l_nil ?_
        refine k_seq_normal ?_
        refine w_freezeTop 4 ?_ (hclean := by simp only [take6, List.take_length, List.nil_append, ← List.map_take, ← List.map_drop, ← List.map_append, ← List.map_cons, List.all_append, cleans_rx, cleans_cells, List.all_cons, List.all_nil, Bool.and_self, Bool.and_true])
        refine w_ret ?_
        exact ret1 rfl (by simp only [ev_tmp, ev_const, ev_func, ofConst_int, ofConst_bool, ofConst_str, ofConst_nil, upd_apply, Nat.reduceEqDiff, ↓reduceIte] <;> exact rfl) (by first | exact Sub.refl _ | exact sub1 _ _ | exact sub2 _ _ _ | exact sub3 _ _ _ _ | exact sub4 _ _ _ _ _ | exact sub5 _ _ _ _ _ _) ⟨by rw [hins, if_neg (by rintro ⟨hx, hy⟩; first | omega | exact absurd hy (by simp_all))]; simp [take6, List.take_of_length_le], rfl⟩
    · skip
      have h5' := h5; (try simp only [decide_eq_true_eq, decide_eq_false_iff_not, Bool.not_eq_true', Bool.not_false, Bool.not_true, Bool.not_eq_false'] at h5')
      refine qn rfl h5 ?_
      refine qn rfl h5 ?_
      refine qn rfl h5 ?_
      refine qn rfl h5 ?_
      refine qn rfl h5 ?_
      refine q_end ?_
      refine m_end ?_
      refine g_n rfl h5 ?_
      refine l_cons rfl (p_pickf h5 ?_)
      refine l_nil ?_
      refine k_seq_normal ?_
      refine w_f rfl ?_
      refine w_skip ?_
      refine k_seq_normal ?_
      refine w_seq ?_
      refine w_drawn 12 [0, 4, 7, 11] (fun e => at_ e es.length = some (.row s3 29 6 [r.cells])) mixed (by kernel_rfl) (at_hit _ _) ?_
      refine q1 0 (hg := rfl) (hu := rfl) (h := by rintro f _ hG; exact p_move ⟨rfl, rfl⟩) (k := ?_)
      refine q1 5 (hg := rfl) (hu := rfl) (h := by rintro f _ hG; exact p_move ⟨rfl, rfl⟩) (k := ?_)
      refine q2 35 36 (hg := rfl) (hu := rfl) (h := by rintro f _ hG; exact p_slicel (l := 0) (h := k) sl_27 ⟨rfl, rfl⟩) (k := ?_)
      refine q1 3 (hg := rfl) (hu := rfl) (h := by rintro f _ hG; exact p_loadp ty_29 ⟨rfl, rfl⟩) (k := ?_)
      refine q1 39 (hg := rfl) (hu := rfl) (h := by rintro f _ hG; exact p_buildList sl_27 ze_29 ⟨rfl, rfl⟩) (k := ?_)
      refine q1 0 (hg := rfl) (hu := rfl) (h := by rintro f _ hG; exact p_move ⟨rfl, rfl⟩) (k := ?_)
      refine q1 5 (hg := rfl) (hu := rfl) (h := by rintro f _ hG; exact p_move ⟨rfl, rfl⟩) (k := ?_)
      refine q2 42 43 (hg := rfl) (hu := rfl) (h := by rintro f _ hG; exact p_slicel (l := k) (h := (l.map Rx.cells).length) sl_27 ⟨rfl, rfl⟩ (hlh := by simp only [List.length_map]; omega)) (k := ?_)
      refine q_end ?_
      refine m0  (hu := rfl) (h := fun f => p_buildSlice sl_27 ze_29 fun s34 => ?_)
      refine ⟨_, rfl, at_miss _ (at_hit _ _), ?_⟩
      refine m2 34 37 (hu := rfl) (h := fun f => p_append sl_27 by_29 ze_29 (fun s38 => ?_) (hb := by simp only [List.length_map, List.length_take, List.length_drop, List.length_append, List.length_cons, List.length_nil, most]; omega))
      refine ⟨_, rfl, at_miss _ (at_hit _ _), ?_⟩
      refine m2 38 40 (hu := rfl) (h := fun f => p_append sl_27 by_29 ze_29 (fun s41 => ?_) (hb := by simp only [List.length_map, List.length_take, List.length_drop, List.length_append, List.length_cons, List.length_nil, most]; omega))
      refine ⟨_, rfl, at_miss _ (at_hit _ _), ?_⟩
      refine m2 41 44 (hu := rfl) (h := fun f => p_append sl_27 by_29 ze_29 (fun s45 => ?_) (hb := by simp only [List.length_map, List.length_take, List.length_drop, List.length_append, List.length_cons, List.length_nil, most]; omega))
      refine ⟨_, rfl, at_miss _ (at_hit _ _), ?_⟩
      refine m_end ?_
      refine l_cons rfl (p_assign ?_)
      refine l_nil ?_
      refine k_seq_normal ?_
      refine w_freezeTop 4 ?_ (hclean := by simp only [take6, List.take_length, List.nil_append, ← List.map_take, ← List.map_drop, ← List.map_append, ← List.map_cons, List.all_append, cleans_rx, cleans_cells, List.all_cons, List.all_nil, Bool.and_self, Bool.and_true])
      refine w_ret ?_
      exact ret1 rfl (by simp only [ev_tmp, ev_const, ev_func, ofConst_int, ofConst_bool, ofConst_str, ofConst_nil, upd_apply, Nat.reduceEqDiff, ↓reduceIte] <;> exact rfl) (by first | exact Sub.refl _ | exact sub1 _ _ | exact sub2 _ _ _ | exact sub3 _ _ _ _ | exact sub4 _ _ _ _ _ | exact sub5 _ _ _ _ _ _) ⟨by rw [hins, if_neg (by rintro ⟨hx, hy⟩; first | omega | exact absurd hy (by simp_all))]; simp [take6, List.take_of_length_le], rfl⟩
end Go.Proofs.YtfdgbghlanbddaaDoor.Av
